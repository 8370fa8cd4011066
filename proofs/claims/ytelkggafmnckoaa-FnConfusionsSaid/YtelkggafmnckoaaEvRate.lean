/- TotalRate, ErrorRate, WordsRight. Conditions: none. -/
import Derived.Test.YtelkggafmnckoaaEvCases
namespace Go.Proofs.Ytelkggafmnckoaa
open Go Go.RowKit

def wrongs (xs : List ACase) : Nat := (xs.map fun c => edist c.want c.got).sum
def wants (xs : List ACase) : Nat := (xs.map fun c => c.want.size).sum
theorem wrongs_take (xs : List ACase) (k : Nat) (h : k < xs.length) : wrongs (xs.take (k + 1)) = wrongs (xs.take k) + edist xs[k].want xs[k].got := by
  unfold wrongs; rw [List.take_succ_eq_append_getElem h, List.map_append, List.sum_append]; simp
theorem wants_take (xs : List ACase) (k : Nat) (h : k < xs.length) : wants (xs.take (k + 1)) = wants (xs.take k) + xs[k].want.size := by
  unfold wants; rw [List.take_succ_eq_append_getElem h, List.map_append, List.sum_append]; simp
theorem sums_le {xs : List ACase} (h : xs.all caseOk = true) : wrongs xs ≤ 80 * xs.length ∧ wants xs ≤ 40 * xs.length := by
  induction xs with
  | nil => simp [wrongs, wants]
  | cons a r ih =>
    simp only [List.all_cons, Bool.and_eq_true] at h
    have h1 := ih h.2
    have h2 : a.want.size ≤ 40 ∧ a.got.size ≤ 40 := by simpa [caseOk, shortB] using h.1
    have h3 := edist_le a.want a.got
    simp only [wrongs, wants, List.map_cons, List.sum_cons, List.length_cons] at h1 ⊢
    omega
theorem all_take {xs : List ACase} {k : Nat} (h : xs.all caseOk = true) : (xs.take k).all caseOk = true := by
  rw [List.all_eq_true] at h ⊢
  exact fun x hx => h x (List.mem_of_mem_take hx)

/-- What TotalRate returns: a rate and a code. -/
def rateOf (xs : List ACase) : Int := if casesOk xs then (if wants xs = 0 then 0 else 1000 * (wrongs xs : Int) / (wants xs : Int)) else 0
def rateCode (xs : List ACase) : Int := if casesOk xs then (if wants xs = 0 then 6 else 0) else 5

theorem ret_two {k l : IntKind} {a b c d : Int} (h : a = b) (h' : c = d) : Ending.returned (.tuple #[.int k a, .int l c]) = .returned (.tuple #[.int k b, .int l d]) := by rw [h, h']

set_option maxRecDepth 100000 in
set_option maxHeartbeats 1000000 in
theorem impl_TotalRate_c {o : Bool} {e : TypeId} {xs : List ACase} {v : Value} {F : List Nat} (w : World) (h : (aCases e).rep o w xs [v] F) (hx : xs.length ≤ 1048576) (hsz : ∀ c ∈ xs, c.want.size ≤ 1048576 ∧ c.got.size ≤ 1048576) :
    Calls Try.prog 30 #[v] w fun e w' => e = .returned (.tuple #[.int .i64 (rateOf xs), .int .i64 (rateCode xs)]) ∧ Below w.heap.size w w' := by
  have C := impl_areCases_c w h hx hsz
  obtain ⟨A, c, rfl, hc1, hc2, hr⟩ := aCases_open h
  cases hok : casesOk xs
  · rw [hok] at C
    have HC := Lib.hid C
    have H1 := Lib.hid (show rateOf xs = 0 by simp [rateOf, hok])
    have H2 := Lib.hid (show rateCode xs = 5 by simp [rateCode, hok])
    clear C hok hr h hsz
    go_enter Try.func30, Try.ntmps30
    go_wp2_with fail
    refine HC.out.mono ?_
    rintro e w1 ⟨rfl, hb⟩
    go_wp2_with fail
    go_ret2
    exact ⟨ret_two H1.out.symm H2.out.symm, hb⟩
  · rw [hok] at C
    have HC := Lib.hid C
    have H1 : Hid (rateOf xs = if wants xs = 0 then 0 else 1000 * (wrongs xs : Int) / (wants xs : Int)) := by show _ = _; simp [rateOf, hok]
    have H2 : Hid (rateCode xs = if wants xs = 0 then 6 else 0) := by show _ = _; simp [rateCode, hok]
    have h50 : xs.length ≤ 50 := by simp [casesOk] at hok; exact hok.1
    have hall : xs.all caseOk = true := by simp only [casesOk, Bool.and_eq_true] at hok; exact hok.2
    have HA := Lib.hid hall
    clear C hok h hall
    go_enter Try.func30, Try.ntmps30
    go_wp2_with fail
    refine HC.out.mono ?_
    rintro e w1 ⟨rfl, hb1⟩
    have hs1 := hb1.size
    go_wp2_with fail
    go_loopw [4, 5, 13] (fun p q i wr => ∃ k : Nat, k ≤ xs.length ∧ i = .int .i64 k ∧ p = .int .i64 (wrongs (xs.take k) : Int) ∧ q = .int .i64 (wants (xs.take k) : Int) ∧ Below w.heap.size w wr) (fun _ _ i _ => xs.length - (intOf i).toNat)
    case atStart => exact ⟨0, Nat.zero_le _, rfl, rfl, rfl, hb1⟩
    case round =>
      obtain ⟨k, hk, rfl, rfl, rfl, hb⟩ := hrel
      have hbs := hb.size
      have hsum := sums_le (all_take (k := k) HA.out)
      have hlen : (xs.take k).length ≤ k := List.length_take_le _ _
      by_cases hlt : k < xs.length
      · obtain ⟨b, off, rfl, hbb, _, h0, h1, _⟩ := hr k hlt
        rw [← hb.cell (p := ⟨b, _, none⟩) hbb] at h0 h1
        have T1 := Lib.hid (wrongs_take xs k hlt)
        have T2 := Lib.hid (wants_take xs k hlt)
        have hz := hsz _ (List.getElem_mem hlt)
        have hz1 := hz.1
        have hz2 := hz.2
        have hd := edist_le xs[k].want xs[k].got
        clear hr hsz hz
        go_wp2_with (go_at_call 40; refine (impl_distance_c _ _ _ hz1 hz2).mono ?_; rintro e w2 ⟨rfl, hb2⟩; obtain ⟨hcc, hff⟩ := bcell hb2)
        go_roundw
        case rel => exact ⟨k + 1, by omega, by go_num, by rw [T1.out]; go_num, by rw [T2.out]; go_num, (hb.alloc hbs _).trans (hb2.mono (by simp; omega))⟩
        case measure => simp [intOf]; omega
      · obtain rfl : k = xs.length := by omega
        rw [List.take_length] at hsum ⊢
        clear hr hsz
        by_cases h0 : wants xs = 0
        · have g : ((wants xs : Int) == 0) = true := by simp [h0]
          have HZ := Lib.hid h0
          clear h0
          go_wp2_with fail
          go_ret2
          exact ⟨ret_two (by rw [H1.out, if_pos HZ.out]) (by rw [H2.out, if_pos HZ.out]), hb⟩
        · have g : ((wants xs : Int) == 0) = false := by simp [h0]
          have HZ := Lib.hid h0
          have gp : (1 : Int) ≤ (wants xs : Int) := by omega
          clear h0
          go_wp2_with fail
          go_ret2
          exact ⟨ret_two (by rw [H1.out, if_neg HZ.out]) (by rw [H2.out, if_neg HZ.out]), hb⟩

set_option maxRecDepth 100000 in
set_option maxHeartbeats 1000000 in
theorem spec_TotalRate_c {o : Bool} {e : TypeId} {xs : List ACase} {v : Value} {F : List Nat} (w : World) (h : (aCases e).rep o w xs [v] F) (hx : xs.length ≤ 1048576) (hsz : ∀ c ∈ xs, c.want.size ≤ 1048576 ∧ c.got.size ≤ 1048576) :
    Calls Try.prog 31 #[v] w fun e w' => e = .returned (.tuple #[.int .i64 (rateOf xs), .int .i64 (rateCode xs)]) ∧ Below w.heap.size w w' := by
  have C := spec_l25Cases_c w h hx
  obtain ⟨A, c, rfl, hc1, hc2, hr⟩ := aCases_open h
  cases hok : casesOk xs
  · rw [show casesCode xs = 5 by simp [casesCode, hok]] at C
    have HC := Lib.hid C
    have H1 := Lib.hid (show rateOf xs = 0 by simp [rateOf, hok])
    have H2 := Lib.hid (show rateCode xs = 5 by simp [rateCode, hok])
    clear C hok hr h hsz
    go_enter Try.func31, Try.ntmps31
    go_wp2_with fail
    refine HC.out.mono ?_
    rintro e w1 ⟨rfl, hb⟩
    go_wp2_with fail
    go_ret2
    exact ⟨ret_two H1.out.symm H2.out.symm, hb⟩
  · rw [show casesCode xs = 0 by simp [casesCode, hok]] at C
    have HC := Lib.hid C
    have H1 : Hid (rateOf xs = if wants xs = 0 then 0 else 1000 * (wrongs xs : Int) / (wants xs : Int)) := by show _ = _; simp [rateOf, hok]
    have H2 : Hid (rateCode xs = if wants xs = 0 then 6 else 0) := by show _ = _; simp [rateCode, hok]
    have h50 : xs.length ≤ 50 := by simp [casesOk] at hok; exact hok.1
    have hall : xs.all caseOk = true := by simp only [casesOk, Bool.and_eq_true] at hok; exact hok.2
    have HA := Lib.hid hall
    clear C hok h hall
    go_enter Try.func31, Try.ntmps31
    go_wp2_with fail
    refine HC.out.mono ?_
    rintro e w1 ⟨rfl, hb1⟩
    have hs1 := hb1.size
    go_wp2_with fail
    go_loopw [5, 6, 7] (fun p q i wr => ∃ k : Nat, k ≤ xs.length ∧ i = .int .i64 k ∧ p = .int .i64 (wrongs (xs.take k) : Int) ∧ q = .int .i64 (wants (xs.take k) : Int) ∧ Below w.heap.size w wr) (fun _ _ i _ => xs.length - (intOf i).toNat)
    case atStart => exact ⟨0, Nat.zero_le _, rfl, rfl, rfl, hb1⟩
    case round =>
      obtain ⟨k, hk, rfl, rfl, rfl, hb⟩ := hrel
      have hbs := hb.size
      have hsum := sums_le (all_take (k := k) HA.out)
      have hlen : (xs.take k).length ≤ k := List.length_take_le _ _
      by_cases hlt : k < xs.length
      · obtain ⟨b, off, rfl, hbb, _, h0, h1, _⟩ := hr k hlt
        rw [← hb.cell (p := ⟨b, _, none⟩) hbb] at h0 h1
        have T1 := Lib.hid (wrongs_take xs k hlt)
        have T2 := Lib.hid (wants_take xs k hlt)
        have hz := hsz _ (List.getElem_mem hlt)
        have hz1 := hz.1
        have hz2 := hz.2
        have hd := edist_le xs[k].want xs[k].got
        have i1 : (k : Int) < (xs.length : Int) := by omega
        have hbw : b < wr.heap.size := by omega
        have kw : IntKind.i64.wrap ((wrongs (xs.take k) : Int) + (edist xs[k].want xs[k].got : Int)) = (wrongs (xs.take k) : Int) + (edist xs[k].want xs[k].got : Int) := IntWalk.i64_in _ (by omega)
        clear hr hsz hz
        go_wp2_with fail
        go_region_held3 (fun w' => w'.cell? ⟨b, off + k * 2, none⟩ = some (.string xs[k].want) ∧ w'.cell? ⟨b, off + k * 2 + 1, none⟩ = some (.string xs[k].got)) (first | exact ⟨h0, h1⟩ | exact ⟨(Below.cell (p := ⟨b, _, none⟩) hb2 (by simpa using hbw)).trans h0, (Below.cell (p := ⟨b, _, none⟩) hb2 (by simpa using hbw)).trans h1⟩) (first | (go_at_call 42; refine (spec_l25Distance_c _ _ _ hz1 hz2).mono ?_; rintro e w2 ⟨rfl, hb2⟩))
        clear kw
        have k1 := (Below.cell (p := ⟨b, off + k * 2, none⟩) hb2 (by simpa using hbw)).trans h0
        go_wp2_with fail
        go_roundw
        case rel => exact ⟨k + 1, by omega, by go_num, by rw [T1.out]; go_num, by rw [T2.out]; go_num, hb.drew.trans (hb2.mono (by simp; omega))⟩
        case measure => simp [intOf]; omega
      · obtain rfl : k = xs.length := by omega
        rw [List.take_length] at hsum ⊢
        clear hr hsz
        by_cases h0 : wants xs = 0
        · have g : ((wants xs : Int) == 0) = true := by simp [h0]
          have HZ := Lib.hid h0
          clear h0
          go_wp2_with fail
          go_ret2
          exact ⟨ret_two (by rw [H1.out, if_pos HZ.out]) (by rw [H2.out, if_pos HZ.out]), hb⟩
        · have g : ((wants xs : Int) == 0) = false := by simp [h0]
          have HZ := Lib.hid h0
          have gp : (1 : Int) ≤ (wants xs : Int) := by omega
          clear h0
          go_wp2_with fail
          go_ret2
          exact ⟨ret_two (by rw [H1.out, if_neg HZ.out]) (by rw [H2.out, if_neg HZ.out]), hb⟩

/-- What WordsRight returns. -/
def rights (xs : List ACase) : Nat := (xs.filter fun c => decide (c.want = c.got)).length
theorem rights_take (xs : List ACase) (k : Nat) (h : k < xs.length) : rights (xs.take (k + 1)) = rights (xs.take k) + (if xs[k].want = xs[k].got then 1 else 0) := by
  unfold rights; rw [List.take_succ_eq_append_getElem h, List.filter_append, List.length_append]
  by_cases e : xs[k].want = xs[k].got <;> simp [e]
theorem rights_le (xs : List ACase) : rights xs ≤ xs.length := List.length_filter_le _ _
def rightRate (xs : List ACase) : Int := if casesOk xs then (if xs.length = 0 then 0 else 1000 * (rights xs : Int) / (xs.length : Int)) else 0
def rightCode (xs : List ACase) : Int := if casesOk xs then (if xs.length = 0 then 6 else 0) else 5

set_option maxRecDepth 100000 in
set_option maxHeartbeats 1000000 in
theorem impl_WordsRight_c {o : Bool} {e : TypeId} {xs : List ACase} {v : Value} {F : List Nat} (w : World) (h : (aCases e).rep o w xs [v] F) (hx : xs.length ≤ 1048576) (hsz : ∀ c ∈ xs, c.want.size ≤ 1048576 ∧ c.got.size ≤ 1048576) :
    Calls Try.prog 32 #[v] w fun e w' => e = .returned (.tuple #[.int .i64 (rightRate xs), .int .i64 (rightCode xs)]) ∧ Below w.heap.size w w' := by
  have C := impl_areCases_c w h hx hsz
  obtain ⟨A, c, rfl, hc1, hc2, hr⟩ := aCases_open h
  cases hok : casesOk xs
  · rw [hok] at C
    have HC := Lib.hid C
    have H1 := Lib.hid (show rightRate xs = 0 by simp [rightRate, hok])
    have H2 := Lib.hid (show rightCode xs = 5 by simp [rightCode, hok])
    clear C hok hr h hsz
    go_enter Try.func32, Try.ntmps32
    go_wp2_with fail
    refine HC.out.mono ?_
    rintro e w1 ⟨rfl, hb⟩
    go_wp2_with fail
    go_ret2
    exact ⟨ret_two H1.out.symm H2.out.symm, hb⟩
  · rw [hok] at C
    have HC := Lib.hid C
    have H1 : Hid (rightRate xs = if xs.length = 0 then 0 else 1000 * (rights xs : Int) / (xs.length : Int)) := by show _ = _; simp [rightRate, hok]
    have H2 : Hid (rightCode xs = if xs.length = 0 then 6 else 0) := by show _ = _; simp [rightCode, hok]
    have h50 : xs.length ≤ 50 := by simp [casesOk] at hok; exact hok.1
    clear C hok h
    by_cases hz : xs.length = 0
    · have g : ((xs.length : Int) == 0) = true := by simp [hz]
      have HZ := Lib.hid hz
      clear hz hr hsz
      go_enter Try.func32, Try.ntmps32
      go_wp2_with fail
      refine HC.out.mono ?_
      rintro e w1 ⟨rfl, hb1⟩
      go_wp2_with fail
      go_ret2
      exact ⟨ret_two (by rw [H1.out, if_pos HZ.out]) (by rw [H2.out, if_pos HZ.out]), hb1⟩
    · have g : ((xs.length : Int) == 0) = false := by rw [beq_eq_false_iff_ne]; omega
      have gp : (1 : Int) ≤ (xs.length : Int) := by omega
      have HZ := Lib.hid hz
      clear hz hsz
      go_enter Try.func32, Try.ntmps32
      go_wp2_with fail
      refine HC.out.mono ?_
      rintro e w1 ⟨rfl, hb1⟩
      have hs1 := hb1.size
      go_wp2_with fail
      go_loopw [4, 15] (fun p i wr => ∃ k : Nat, k ≤ xs.length ∧ i = .int .i64 k ∧ p = .int .i64 (rights (xs.take k) : Int) ∧ Below w.heap.size w wr) (fun _ i _ => xs.length - (intOf i).toNat)
      case atStart => exact ⟨0, Nat.zero_le _, rfl, rfl, hb1⟩
      case round =>
        obtain ⟨k, hk, rfl, rfl, hb⟩ := hrel
        have hbs := hb.size
        have hsum := rights_le (xs.take k)
        have hlen : (xs.take k).length ≤ k := List.length_take_le _ _
        by_cases hlt : k < xs.length
        · obtain ⟨b, off, rfl, hbb, _, h0, h1, _⟩ := hr k hlt
          rw [← hb.cell (p := ⟨b, _, none⟩) hbb] at h0 h1
          have T1 := Lib.hid (rights_take xs k hlt)
          clear hr
          go_wp2_with fail
          · go_roundw
            case rel =>
              have e := str_eq_true (a := xs[k].want) (b := xs[k].got) (by assumption)
              exact ⟨k + 1, by omega, by go_num, by rw [T1.out, if_pos e]; go_num, hb.alloc hbs _⟩
            case measure => simp [intOf]; omega
          · go_roundw
            case rel =>
              have e : ¬ xs[k].want = xs[k].got := str_ne (by simpa using (by assumption : (xs[k].want.toList == xs[k].got.toList) = false))
              exact ⟨k + 1, by omega, by go_num, by rw [T1.out, if_neg e]; go_num, hb.alloc hbs _⟩
            case measure => simp [intOf]; omega
        · obtain rfl : k = xs.length := by omega
          rw [List.take_length] at hsum ⊢
          clear hr
          go_wp2_with fail
          go_ret2
          exact ⟨ret_two (by rw [H1.out, if_neg HZ.out]) (by rw [H2.out, if_neg HZ.out]), hb⟩
set_option maxRecDepth 100000 in
set_option maxHeartbeats 1000000 in
theorem spec_WordsRight_c {o : Bool} {e : TypeId} {xs : List ACase} {v : Value} {F : List Nat} (w : World) (h : (aCases e).rep o w xs [v] F) (hx : xs.length ≤ 1048576) (hsz : ∀ c ∈ xs, c.want.size ≤ 1048576 ∧ c.got.size ≤ 1048576) :
    Calls Try.prog 33 #[v] w fun e w' => e = .returned (.tuple #[.int .i64 (rightRate xs), .int .i64 (rightCode xs)]) ∧ Below w.heap.size w w' := by
  have C := spec_l25Cases_c w h hx
  obtain ⟨A, c, rfl, hc1, hc2, hr⟩ := aCases_open h
  cases hok : casesOk xs
  · rw [show casesCode xs = 5 by simp [casesCode, hok]] at C
    have HC := Lib.hid C
    have H1 := Lib.hid (show rightRate xs = 0 by simp [rightRate, hok])
    have H2 := Lib.hid (show rightCode xs = 5 by simp [rightCode, hok])
    clear C hok hr h hsz
    go_enter Try.func33, Try.ntmps33
    go_wp2_with fail
    refine HC.out.mono ?_
    rintro e w1 ⟨rfl, hb⟩
    go_wp2_with fail
    go_ret2
    exact ⟨ret_two H1.out.symm H2.out.symm, hb⟩
  · rw [show casesCode xs = 0 by simp [casesCode, hok]] at C
    have HC := Lib.hid C
    have H1 : Hid (rightRate xs = if xs.length = 0 then 0 else 1000 * (rights xs : Int) / (xs.length : Int)) := by show _ = _; simp [rightRate, hok]
    have H2 : Hid (rightCode xs = if xs.length = 0 then 6 else 0) := by show _ = _; simp [rightCode, hok]
    have h50 : xs.length ≤ 50 := by simp [casesOk] at hok; exact hok.1
    clear C hok h
    by_cases hz : xs.length = 0
    · have g : ((xs.length : Int) == 0) = true := by simp [hz]
      have HZ := Lib.hid hz
      clear hz hr hsz
      go_enter Try.func33, Try.ntmps33
      go_wp2_with fail
      refine HC.out.mono ?_
      rintro e w1 ⟨rfl, hb1⟩
      go_wp2_with fail
      go_ret2
      exact ⟨ret_two (by rw [H1.out, if_pos HZ.out]) (by rw [H2.out, if_pos HZ.out]), hb1⟩
    · have g : ((xs.length : Int) == 0) = false := by rw [beq_eq_false_iff_ne]; omega
      have gp : (1 : Int) ≤ (xs.length : Int) := by omega
      have HZ := Lib.hid hz
      clear hz hsz
      go_enter Try.func33, Try.ntmps33
      go_wp2_with fail
      refine HC.out.mono ?_
      rintro e w1 ⟨rfl, hb1⟩
      have hs1 := hb1.size
      go_wp2_with fail
      go_loopw [5, 6] (fun p i wr => ∃ k : Nat, k ≤ xs.length ∧ i = .int .i64 k ∧ p = .int .i64 (rights (xs.take k) : Int) ∧ Below w.heap.size w wr) (fun _ i _ => xs.length - (intOf i).toNat)
      case atStart => exact ⟨0, Nat.zero_le _, rfl, rfl, hb1⟩
      case round =>
        obtain ⟨k, hk, rfl, rfl, hb⟩ := hrel
        have hbs := hb.size
        have hsum := rights_le (xs.take k)
        have hlen : (xs.take k).length ≤ k := List.length_take_le _ _
        by_cases hlt : k < xs.length
        · obtain ⟨b, off, rfl, hbb, _, h0, h1, _⟩ := hr k hlt
          rw [← hb.cell (p := ⟨b, _, none⟩) hbb] at h0 h1
          have T1 := Lib.hid (rights_take xs k hlt)
          clear hr
          have i1 : (k : Int) < (xs.length : Int) := by omega
          go_wp2_with fail
          go_quiet (fail)
          go_wp2_with fail
          · go_roundw
            case rel =>
              have e := str_eq_true (a := xs[k].want) (b := xs[k].got) (by assumption)
              exact ⟨k + 1, by omega, by go_num, by rw [T1.out, if_pos e]; go_num, below_drewN hb _⟩
            case measure => simp [intOf]; omega
          · go_roundw
            case rel =>
              have e : ¬ xs[k].want = xs[k].got := str_ne (by simpa using (by assumption : (xs[k].want.toList == xs[k].got.toList) = false))
              exact ⟨k + 1, by omega, by go_num, by rw [T1.out, if_neg e]; go_num, below_drewN hb _⟩
            case measure => simp [intOf]; omega
        · obtain rfl : k = xs.length := by omega
          rw [List.take_length] at hsum ⊢
          clear hr
          go_wp2_with fail
          go_ret2
          exact ⟨ret_two (by rw [H1.out, if_neg HZ.out]) (by rw [H2.out, if_neg HZ.out]), hb⟩

theorem one_case (c : ACase) : casesOk [c] = caseOk c ∧ wants [c] = c.want.size ∧ wrongs [c] = edist c.want c.got := by simp [casesOk, wants, wrongs]

set_option maxRecDepth 100000 in
set_option maxHeartbeats 400000 in
theorem impl_ErrorRate_c (c : ACase) (w : World) (hc : aCaseOk c) (hsz : c.want.size ≤ 1048576 ∧ c.got.size ≤ 1048576) :
    Calls Try.prog 35 #[.agg #[.string c.want, .string c.got]] w fun e w' => e = .returned (.tuple #[.int .i64 (rateOf [c]), .int .i64 (rateCode [c])]) ∧ Below w.heap.size w w' := by
  have h1 : (aCases 51).rep true ((w.alloc (.cells #[.string c.want, .string c.got] 51)).alloc (.cells #[.string c.want, .string c.got] 51)) [c] [.slice (some ⟨w.heap.size + 1, 0, none⟩) 1 1] [w.heap.size + 1] := by
    have R := Row.new (w.alloc (.cells #[.string c.want, .string c.got] 51)) 51 #[.string c.want, .string c.got]
    have e : (w.alloc (.cells #[.string c.want, .string c.got] 51)).heap.size = w.heap.size + 1 := by simp
    rw [e] at R
    exact slice_of_row (xs := [c]) R (repL_aCase [c] (by intro s hs; simp at hs; subst hs; exact hc)) (by simp [maxLen])
  have hs := impl_TotalRate_c _ h1 (by simp) (by intro s hs; simp at hs; subst hs; exact hsz)
  generalize rateOf [c] = r at hs ⊢
  generalize rateCode [c] = q at hs ⊢
  have H := Lib.hid hs
  clear h1 hs
  go_enter Try.func35, Try.ntmps35
  go_wp2_with fail
  refine H.out.mono ?_
  rintro e w1 ⟨rfl, hb⟩
  go_wp2_with fail
  go_ret2
  exact ⟨rfl, (((Below.refl _ _).alloc (Nat.le_refl _) _).alloc (by simp) _).trans (hb.mono (by simp; omega))⟩

set_option maxRecDepth 100000 in
set_option maxHeartbeats 1000000 in
theorem spec_ErrorRate_c (c : ACase) (w : World) (hsz : c.want.size ≤ 1048576 ∧ c.got.size ≤ 1048576) :
    Calls Try.prog 36 #[.agg #[.string c.want, .string c.got]] w fun e w' => e = .returned (.tuple #[.int .i64 (rateOf [c]), .int .i64 (rateCode [c])]) ∧ Below w.heap.size w w' := by
  have C1 := spec_l25Text_c c.want
  have C2 := spec_l25Text_c c.got
  obtain ⟨o1, o2, o3⟩ := one_case c
  have HR : Hid (rateOf [c] = if caseOk c then (if c.want.size = 0 then 0 else 1000 * (edist c.want c.got : Int) / (c.want.size : Int)) else 0) := by show _ = _; unfold rateOf; rw [o1, o2, o3]
  have HQ : Hid (rateCode [c] = if caseOk c then (if c.want.size = 0 then 6 else 0) else 5) := by show _ = _; unfold rateCode; rw [o1, o2]
  clear o1 o2 o3
  have a1 := hsz.1
  have a2 := hsz.2
  clear hsz
  cases hA : shortB c.want
  · rw [hA] at C1
    have K1 := Lib.hid C1
    have HO := Lib.hid (show caseOk c = false by simp [caseOk, hA])
    clear C1 C2 hA
    go_enter Try.func36, Try.ntmps36
    go_wp2_with fail
    refine (K1.out _).mono ?_
    rintro e w1 ⟨rfl, rfl⟩
    go_wp2_with fail
    go_ret2
    exact ⟨ret_two (by rw [HR.out, HO.out]; rfl) (by rw [HQ.out, HO.out]; rfl), (Below.refl _ _).alloc (Nat.le_refl _) _⟩
  · rw [hA] at C1
    have K1 := Lib.hid C1
    cases hB : shortB c.got
    · rw [hB] at C2
      have K2 := Lib.hid C2
      have HO := Lib.hid (show caseOk c = false by simp [caseOk, hB])
      clear C1 C2 hA hB
      go_enter Try.func36, Try.ntmps36
      go_wp2_with fail
      refine (K1.out _).mono ?_
      rintro e w1 ⟨rfl, rfl⟩
      go_wp2_with fail
      refine (K2.out _).mono ?_
      rintro e w1 ⟨rfl, rfl⟩
      go_wp2_with fail
      go_ret2
      exact ⟨ret_two (by rw [HR.out, HO.out]; rfl) (by rw [HQ.out, HO.out]; rfl), (Below.refl _ _).alloc (Nat.le_refl _) _⟩
    · rw [hB] at C2
      have K2 := Lib.hid C2
      have HO := Lib.hid (show caseOk c = true by simp [caseOk, hA, hB])
      have hd := edist_le c.want c.got
      clear C1 C2 hA hB
      by_cases hz : c.want.size = 0
      · have g : c.want.toList = [] := by rw [ByteArray.toList_eq]; exact List.eq_nil_of_length_eq_zero (by simpa using hz)
        have g2 : c.want.toList.isEmpty = true := by rw [g]; rfl
        have HZ := Lib.hid hz
        clear hz
        go_enter Try.func36, Try.ntmps36
        go_wp2_with fail
        refine (K1.out _).mono ?_
        rintro e w1 ⟨rfl, rfl⟩
        go_wp2_with fail
        refine (K2.out _).mono ?_
        rintro e w1 ⟨rfl, rfl⟩
        go_wp2_with fail
        go_ret2
        exact ⟨ret_two (by rw [HR.out, HO.out, if_pos rfl, if_pos HZ.out]) (by rw [HQ.out, HO.out, if_pos rfl, if_pos HZ.out]), (Below.refl _ _).alloc (Nat.le_refl _) _⟩
      · have gn : ¬ c.want.toList = [] := by
          rw [ByteArray.toList_eq]; intro e; exact hz (by have := congrArg List.length e; simpa using this)
        have g2 : c.want.toList.isEmpty = false := by simpa using gn
        have HZ := Lib.hid hz
        have gp : (1 : Int) ≤ (c.want.size : Int) := by omega
        have kw : IntKind.i64.wrap (1000 * (edist c.want c.got : Int)) = 1000 * (edist c.want c.got : Int) := IntWalk.i64_in _ (by omega)
        clear hz gn
        go_enter Try.func36, Try.ntmps36
        go_wp2_with fail
        refine (K1.out _).mono ?_
        rintro e w1 ⟨rfl, rfl⟩
        go_wp2_with fail
        refine (K2.out _).mono ?_
        rintro e w1 ⟨rfl, rfl⟩
        go_wp2_with fail
        have s0 : (w.alloc (.cells #[.string c.want, .string c.got] 51)).cell? ⟨w.heap.size, 0, none⟩ = some (.string c.want) := (Row.new w _ _).cell' rfl
        have s1 : (w.alloc (.cells #[.string c.want, .string c.got] 51)).cell? ⟨w.heap.size, 1, none⟩ = some (.string c.got) := (Row.new w _ _).cell' rfl
        have z1 : ¬ c.want.size = 0 := HZ.out
        have z2 : ((c.want.size : Int) == 0) = false := by rw [beq_eq_false_iff_ne]; omega
        have dn : 0 ≤ 1000 * (edist c.want c.got : Int) / (c.want.size : Int) ∧ 1000 * (edist c.want c.got : Int) / (c.want.size : Int) ≤ 1000 * (edist c.want c.got : Int) := ⟨Int.ediv_nonneg (by omega) (by omega), Int.ediv_le_self _ (by omega)⟩
        have z3 : Int.tdiv (1000 * (edist c.want c.got : Int)) (c.want.size : Int) = 1000 * (edist c.want c.got : Int) / (c.want.size : Int) := Int.tdiv_eq_ediv_of_nonneg (by omega)
        have z4 : IntKind.i64.wrap (1000 * (edist c.want c.got : Int) / (c.want.size : Int)) = 1000 * (edist c.want c.got : Int) / (c.want.size : Int) := IntWalk.i64_in _ (by omega)
        clear dn
        go_region_held3 (fun w' => w'.cell? ⟨w.heap.size, 0, none⟩ = some (.string c.want) ∧ w'.cell? ⟨w.heap.size, 1, none⟩ = some (.string c.got)) (first | exact ⟨s0, s1⟩ | exact ⟨(Below.cell (p := ⟨w.heap.size, 0, none⟩) hb2 (by simp)).trans s0, (Below.cell (p := ⟨w.heap.size, 1, none⟩) hb2 (by simp)).trans s1⟩) (first | (go_at_call 42; refine (spec_l25Distance_c _ _ _ a1 a2).mono ?_; rintro e w2 ⟨rfl, hb2⟩))
        clear z1 z2 z3 z4 kw
        go_wp2_with fail
        go_ret2
        exact ⟨ret_two (by rw [HR.out, HO.out, if_pos rfl, if_neg HZ.out]) (by rw [HQ.out, HO.out, if_pos rfl, if_neg HZ.out]), ((Below.refl _ _).alloc (Nat.le_refl _) _).drew.trans (hb2.mono (by simp))⟩
end Go.Proofs.Ytelkggafmnckoaa
