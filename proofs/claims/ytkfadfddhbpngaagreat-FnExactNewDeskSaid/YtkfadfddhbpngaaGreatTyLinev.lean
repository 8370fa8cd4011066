/- The type TextLine: its data, how it lies in memory, and the law's own helpers over it. Conditions: none. -/
import Derived.Test.YtkfadfddhbpngaaGreatRows
import Derived.Test.YtkfadfddhbpngaaGreatTyStepv
namespace Go.Proofs.YtkfadfddhbpngaaGreat
open Go Go.RowKit

abbrev PLine := List ByteArray
def pLine : Ty PLine := strs 9
def pLines (e : TypeId) : Ty (List PLine) := pLine.slice e
theorem pLine_one {o : Bool} {w : World} {xs : PLine} {cs : List Value} {F : List Nat} (h : pLine.rep o w xs cs F) : ∃ v, cs = [v] := by
 obtain ⟨A, c, ec, F0, F1, rfl, _⟩ := h
 exact ⟨_, rfl⟩
theorem pLines_open {o : Bool} {w : World} {e : TypeId} {xs : List PLine} {v : Value} {F : List Nat} (h : (pLines e).rep o w xs [v] F) :
 ∃ A c, v = .slice A xs.length c ∧ xs.length ≤ c ∧ c ≤ maxLen ∧ ∀ k (hk : k < xs.length), ∃ b off u Fk, A = some ⟨b, off, none⟩ ∧ b < w.heap.size ∧ b ∈ F ∧
  (strs 9).rep o w xs[k] [u] Fk ∧ (∀ x ∈ Fk, x ∈ F) ∧ w.cell? ⟨b, off + k, none⟩ = some u := by
 obtain ⟨A, c, hv, h1, h2, h3⟩ := slice_open h
 refine ⟨A, c, hv, h1, h2, fun k hk => ?_⟩
 obtain ⟨b, off, ck, Fk, hA, hb, hin, hr, hF, hc⟩ := h3 k hk
 obtain ⟨u, rfl⟩ := pLine_one hr
 have h0 := hc 0 _ rfl
 rw [show k * pLine.size + 0 = k from Nat.mul_one k] at h0
 exact ⟨b, off, u, Fk, hA, hb, hin, hr, hF, h0⟩

set_option maxHeartbeats 400000 in
theorem eqTextLine_c {oa ob : Bool} {ea eb : TypeId} {xs ys : PLine} {v u : Value} {F G : List Nat} (w : World) (h : (strs ea).rep oa w xs [v] F) (h' : (strs eb).rep ob w ys [u] G) (hx : xs.length ≤ 1048576) (hy : ys.length ≤ 1048576) :
 Calls Tryz.prog 167 #[.agg #[v], .agg #[u]] w fun e w' => e = .returned (.bool (decide (xs = ys))) ∧ Below w.heap.size w w' := by
 cases hd : decide (xs = ys)
 all_goals
  go_enter Tryz.func167, Tryz.ntmps167
  go_wp2_with (go_at_call 53; refine (eqStringS_c _ ((h.alloc _).alloc _) ((h'.alloc _).alloc _) hx hy).mono ?_; rw [hd]; rintro e w1 ⟨rfl, hb1⟩)
  go_ret
  exact ⟨rfl, ((((Below.refl _ _).alloc (Nat.le_refl _) _).alloc (by simp) _).trans (hb1.mono (by simp; omega)))⟩
set_option maxRecDepth 100000 in
set_option maxHeartbeats 1000000 in
theorem eqTextLineS_c {oa ob : Bool} {ea eb : TypeId} {xs ys : List PLine} {v u : Value} {F G : List Nat} (w : World) (h : (pLines ea).rep oa w xs [v] F) (h' : (pLines eb).rep ob w ys [u] G) (hx : xs.length ≤ 1048576) (hy : ys.length ≤ 1048576) (hxe : ∀ l ∈ xs, l.length ≤ 1048576) (hye : ∀ l ∈ ys, l.length ≤ 1048576) :
 Calls Tryz.prog 97 #[v, u] w fun e w' => e = .returned (.bool (decide (xs = ys))) ∧ Below w.heap.size w w' := by
 obtain ⟨A, c, rfl, hc1, hc2, hr⟩ := pLines_open h
 obtain ⟨B, d, rfl, hd1, hd2, hs⟩ := pLines_open h'
 clear h h'
 by_cases hl : xs.length = ys.length
 · have hne : ((xs.length : Int) != (ys.length : Int)) = false := by simp [hl]
   have HL := Lib.hid hl
   clear hl
   go_enter Tryz.func97, Tryz.ntmps97
   go_wp2_with fail
   go_loopw [5] (fun i wr => ∃ k : Nat, k ≤ xs.length ∧ i = .int .i64 k ∧ (∀ j (hj : j < xs.length) (hj' : j < ys.length), j < k → xs[j] = ys[j]) ∧ Below w.heap.size w wr) (fun i _ => xs.length - (intOf i).toNat)
   case atStart => exact ⟨0, Nat.zero_le _, rfl, fun _ _ _ h => by omega, Below.refl _ _⟩
   case round =>
    obtain ⟨k, hk, rfl, hall, hb⟩ := hrel
    have hbs := hb.size
    by_cases hlt : k < xs.length
    · have hlt' : k < ys.length := by have := HL.out; omega
      obtain ⟨b, off, v1, F1, rfl, hbb, _, R1, _, h0⟩ := hr k hlt
      obtain ⟨b', off', v2, F2, rfl, hbb', _, R2, _, g0⟩ := hs k hlt'
      rw [← hb.cell (p := ⟨b, _, none⟩) hbb] at h0
      rw [← hb.cell (p := ⟨b', _, none⟩) hbb'] at g0
      have Q1 := Lib.hid (R1.below hb)
      have Q2 := Lib.hid (R2.below hb)
      have L1 := hxe _ (List.getElem_mem hlt)
      have L2 := hye _ (List.getElem_mem hlt')
      have HA := Lib.hid hall
      clear hr hs hall R1 R2
      have C := fun (w' : World) (q1 : (strs 9).rep oa w' xs[k] [v1] F1) (q2 : (strs 9).rep ob w' ys[k] [v2] F2) => eqTextLine_c w' q1 q2 L1 L2
      by_cases hkk : xs[k] = ys[k]
      · simp only [decide_eq_true hkk] at C
        have HC := Lib.hid C
        have HK := Lib.hid hkk
        clear C hkk
        go_wp2_with fail
        go_still_tail 8, (by kernel_rfl)
        go_wp2_with (go_at_call 167; refine (HC.out _ Q1.out.drew Q2.out.drew).mono ?_; rintro e w1 ⟨rfl, hb1⟩)
        go_roundw
        case rel =>
         refine ⟨k + 1, by omega, by go_num, fun j hj hj' hjk => ?_, hb.drew.trans (hb1.mono hbs)⟩
         by_cases e : j = k
         · subst e; exact HK.out
         · exact HA.out j hj hj' (by omega)
        case measure => simp [intOf]; omega
      · simp only [decide_eq_false hkk] at C
        have HC := Lib.hid C
        have HK := Lib.hid hkk
        clear C hkk
        go_wp2_with fail
        go_still_tail 8, (by kernel_rfl)
        go_wp2_with (go_at_call 167; refine (HC.out _ Q1.out.drew Q2.out.drew).mono ?_; rintro e w1 ⟨rfl, hb1⟩)
        go_ret
        have hne : ¬ xs = ys := fun e => by subst e; exact HK.out rfl
        exact ⟨by simp [hne], hb.drew.trans (hb1.mono hbs)⟩
    · obtain rfl : k = xs.length := by omega
      have heq : xs = ys := List.ext_getElem HL.out (fun j h1 h2 => hall j h1 h2 h1)
      clear hall
      go_wp2_with fail
      go_ret
      exact ⟨by simp [heq], hb⟩
 · have hne : ((xs.length : Int) != (ys.length : Int)) = true := by rw [bne_iff_ne]; omega
   have hxy : ¬ xs = ys := fun e => hl (by rw [e])
   have HL := Lib.hid hxy
   clear hl hxy
   go_enter Tryz.func97, Tryz.ntmps97
   go_wp2_with fail
   go_ret
   exact ⟨by simp [HL.out], Below.refl _ _⟩
end Go.Proofs.YtkfadfddhbpngaaGreat
namespace Go.Proofs.YtkfadfddhbpngaaGreat
open Go Go.RowKit

/-- What lines weigh. -/
def szLines (xs : List PLine) : Nat := xs.length + (xs.map szStrs).sum
theorem mem_sum {l : List Nat} {n : Nat} (h : n ∈ l) : n ≤ l.sum := by
 induction l with
 | nil => cases h
 | cons a r ih =>
  rw [List.sum_cons]
  rcases List.mem_cons.1 h with rfl | h
  · omega
  · have := ih h; omega
theorem szStrs_each {xs : List ByteArray} {n : Nat} (h : szStrs xs ≤ n) : xs.length ≤ n ∧ ∀ s ∈ xs, s.size ≤ n := by
 unfold szStrs at h
 refine ⟨by omega, fun s hs => ?_⟩
 have := mem_sum (List.mem_map.2 ⟨s, hs, rfl⟩ : s.size ∈ xs.map ByteArray.size)
 omega
theorem szLines_each {xs : List PLine} {n : Nat} (h : szLines xs ≤ n) : xs.length ≤ n ∧ ∀ l ∈ xs, l.length ≤ n ∧ ∀ s ∈ l, s.size ≤ n := by
 unfold szLines at h
 refine ⟨by omega, fun l hl => szStrs_each ?_⟩
 have := mem_sum (List.mem_map.2 ⟨l, hl, rfl⟩ : szStrs l ∈ xs.map szStrs)
 omega

end Go.Proofs.YtkfadfddhbpngaaGreat
