/- The walks of the laws FnExactErrorRate, FnExactTotalRate, FnExactWordsRight. Conditions: none. -/
import Derived.Test.YtjdpmokhhfkplaaEvRate
namespace Go.Proofs.Ytjdpmokhhfkplaa
open Go Go.RowKit

theorem aCase_le {c : ACase} {n : Int} (h : n + aCaseW c ≤ 1048576) (h0 : 0 ≤ n) : c.want.size ≤ 1048576 ∧ c.got.size ≤ 1048576 := by
  unfold aCaseW at h; omega
theorem aCases_le {xs : List ACase} (h : szaCase xs ≤ 1048576) : xs.length ≤ 1048576 ∧ ∀ c ∈ xs, c.want.size ≤ 1048576 ∧ c.got.size ≤ 1048576 := by
  unfold szaCase at h
  refine ⟨by omega, fun c hc => ?_⟩
  have : aCaseW c ≤ (xs.map aCaseW).sum := by
    have : ∀ (l : List ACase), c ∈ l → aCaseW c ≤ (l.map aCaseW).sum := by
      intro l
      induction l with
      | nil => intro h; cases h
      | cons a r ih =>
        intro h
        rcases List.mem_cons.1 h with rfl | h
        · simp
        · have := ih h; simp; omega
    exact this xs hc
  have e : aCaseW c = c.want.size + c.got.size := rfl
  omega

set_option maxHeartbeats 400000 in
theorem law_ErrorRate {c : ACase} {cs : List Value} {F : List Nat} (w : World) (h : aCase.rep false w c cs F) :
    Calls Try.prog 8 #[.agg cs.toArray] w fun e w' => e = .returned (.bool true) ∧ Below w.heap.size w w' := by
  obtain ⟨rfl, rfl, hc⟩ := aCase_rep.1 h
  clear h
  have hl : (w.alloc (.cells #[.string c.want, .string c.got] 40)).cell? ⟨w.heap.size, 0, none⟩ = some (.string c.want) := (Row.new w _ _).cell' rfl
  have hl' : (w.alloc (.cells #[.string c.want, .string c.got] 40)).cell? ⟨w.heap.size, 1, none⟩ = some (.string c.got) := (Row.new w _ _).cell' rfl
  go_enter Try.func8, Try.ntmps8
  go_wp2_with fail
  refine (szCase_c c 1048576 _ hc (by omega)).mono ?_
  rintro e w1 ⟨⟨r, rfl, hr0, hr1, hr⟩, b1⟩
  have b1' : Below w.heap.size w w1 := ((Below.refl _ _).alloc (Nat.le_refl _) _).trans (b1.mono (by simp))
  by_cases h0 : r < 0
  · go_wp2_with fail
    go_ret
    exact ⟨rfl, b1'⟩
  · have hsz := aCase_le (hr (by omega)) (by omega)
    have k1 := (Below.cell (p := ⟨w.heap.size, 0, none⟩) b1 (by simp)).trans hl
    have k1' := (Below.cell (p := ⟨w.heap.size, 1, none⟩) b1 (by simp)).trans hl'
    have z1 : w.heap.size < w1.heap.size := by have := b1.size; simp at this; omega
    clear hr
    go_wp2_with fail
    refine (toCase_c c _).mono ?_
    rintro e w2 ⟨rfl, b2⟩
    have k2 := (Below.cell (p := ⟨w.heap.size, 0, none⟩) b2 z1).trans k1
    have k2' := (Below.cell (p := ⟨w.heap.size, 1, none⟩) b2 z1).trans k1'
    have z2 : w.heap.size < w2.heap.size := Nat.lt_of_lt_of_le z1 b2.size
    go_wp2_with fail
    refine (spec_ErrorRate_c c _ hsz).mono ?_
    rintro e w3 ⟨rfl, b3⟩
    have k3 := (Below.cell (p := ⟨w.heap.size, 0, none⟩) b3 z2).trans k2
    have k3' := (Below.cell (p := ⟨w.heap.size, 1, none⟩) b3 z2).trans k2'
    have HI := Lib.hid (fun W => impl_ErrorRate_c c W hc hsz)
    generalize rateOf [c] = x at HI ⊢
    generalize rateCode [c] = y at HI ⊢
    have q1 : (x != x) = false := by simp
    have q2 : (y != y) = false := by simp
    go_wp2_with fail
    refine (toCase_c c _).mono ?_
    rintro e w4 ⟨rfl, b4⟩
    go_wp2_with fail
    refine (HI.out _).mono ?_
    rintro e w5 ⟨rfl, b5⟩
    go_wp2_with fail
    go_ret
    exact ⟨rfl, bt (bt (bt (bt b1' b2) b3) b4) b5⟩

set_option maxHeartbeats 400000 in
theorem law_TotalRate {e : TypeId} {xs : List ACase} {v : Value} {F : List Nat} (w : World) (h : (aCases e).rep false w xs [v] F) :
    Calls Try.prog 10 #[v] w fun e w' => e = .returned (.bool true) ∧ Below w.heap.size w w' := by
  go_enter Try.func10, Try.ntmps10
  go_wp2_with fail
  refine (szCaseS_c _ h 1048576 (by omega)).mono ?_
  rintro e w1 ⟨⟨r, rfl, hr0, hr1, hr⟩, b1⟩
  have h1 := h.below b1
  by_cases h0 : r < 0
  · go_wp2_with fail
    go_ret
    exact ⟨rfl, b1⟩
  · obtain ⟨hx, hsz⟩ := aCases_le (xs := xs) (by have := hr (by omega); omega)
    have HS := Lib.hid hsz
    clear hr hsz
    go_wp2_with fail
    refine (toCaseS_c _ h1 hx).mono ?_
    rintro e w2 ⟨u2, G2, rfl, r2, f2, b2⟩
    go_wp2_with fail
    refine (spec_TotalRate_c _ r2 hx HS.out).mono ?_
    rintro e w3 ⟨rfl, b3⟩
    have h3 := (h1.below b2).below b3
    go_wp2_with fail
    refine (toCaseS_c _ h3 hx).mono ?_
    rintro e w4 ⟨u4, G4, rfl, r4, f4, b4⟩
    have HI := Lib.hid (impl_TotalRate_c _ r4 hx HS.out)
    generalize rateOf xs = x at HI ⊢
    generalize rateCode xs = y at HI ⊢
    have q1 : (x != x) = false := by simp
    have q2 : (y != y) = false := by simp
    go_wp2_with fail
    refine HI.out.mono ?_
    rintro e w5 ⟨rfl, b5⟩
    have h5 := (h3.below b4).below b5
    go_wp2_with fail
    refine (toCaseS_c _ h5 hx).mono ?_
    rintro e w6 ⟨u6, G6, rfl, r6, f6, b6⟩
    go_wp2_with fail
    refine (eqCaseS_c _ ((r4.below b5).below b6) r6 hx hx).mono ?_
    rintro e w7 ⟨rfl, b7⟩
    go_wp2_with fail
    go_ret
    exact ⟨rfl, bt (bt (bt (bt (bt (bt b1 b2) b3) b4) b5) b6) b7⟩

set_option maxHeartbeats 400000 in
theorem law_WordsRight {e : TypeId} {xs : List ACase} {v : Value} {F : List Nat} (w : World) (h : (aCases e).rep false w xs [v] F) :
    Calls Try.prog 9 #[v] w fun e w' => e = .returned (.bool true) ∧ Below w.heap.size w w' := by
  go_enter Try.func9, Try.ntmps9
  go_wp2_with fail
  refine (szCaseS_c _ h 1048576 (by omega)).mono ?_
  rintro e w1 ⟨⟨r, rfl, hr0, hr1, hr⟩, b1⟩
  have h1 := h.below b1
  by_cases h0 : r < 0
  · go_wp2_with fail
    go_ret
    exact ⟨rfl, b1⟩
  · obtain ⟨hx, hsz⟩ := aCases_le (xs := xs) (by have := hr (by omega); omega)
    have HS := Lib.hid hsz
    clear hr hsz
    go_wp2_with fail
    refine (toCaseS_c _ h1 hx).mono ?_
    rintro e w2 ⟨u2, G2, rfl, r2, f2, b2⟩
    go_wp2_with fail
    refine (spec_WordsRight_c _ r2 hx HS.out).mono ?_
    rintro e w3 ⟨rfl, b3⟩
    have h3 := (h1.below b2).below b3
    go_wp2_with fail
    refine (toCaseS_c _ h3 hx).mono ?_
    rintro e w4 ⟨u4, G4, rfl, r4, f4, b4⟩
    have HI := Lib.hid (impl_WordsRight_c _ r4 hx HS.out)
    generalize rightRate xs = x at HI ⊢
    generalize rightCode xs = y at HI ⊢
    have q1 : (x != x) = false := by simp
    have q2 : (y != y) = false := by simp
    go_wp2_with fail
    refine HI.out.mono ?_
    rintro e w5 ⟨rfl, b5⟩
    have h5 := (h3.below b4).below b5
    go_wp2_with fail
    refine (toCaseS_c _ h5 hx).mono ?_
    rintro e w6 ⟨u6, G6, rfl, r6, f6, b6⟩
    go_wp2_with fail
    refine (eqCaseS_c _ ((r4.below b5).below b6) r6 hx hx).mono ?_
    rintro e w7 ⟨rfl, b7⟩
    go_wp2_with fail
    go_ret
    exact ⟨rfl, bt (bt (bt (bt (bt (bt b1 b2) b3) b4) b5) b6) b7⟩
end Go.Proofs.Ytjdpmokhhfkplaa
