/- Cases: whether they are few and short; TotalRate and ErrorRate. Conditions: none. -/
import Derived.Test.YtelkggafmnckoaaEvEd
import Derived.Test.YtelkggafmnckoaaTyCase
namespace Go.Proofs.Ytelkggafmnckoaa
open Go Go.RowKit

def caseOk (c : ACase) : Bool := shortB c.want && shortB c.got
def casesOk (xs : List ACase) : Bool := decide (xs.length ≤ 50) && xs.all caseOk
theorem aCase_sizes {c : ACase} (h : aCaseOk c) (hs : caseOk c = true) : c.want.size ≤ 40 ∧ c.got.size ≤ 40 := by simpa [caseOk, shortB] using hs

set_option maxRecDepth 100000 in
set_option maxHeartbeats 400000 in
theorem impl_areCases1_c (c : ACase) (w : World) (hc : c.want.size ≤ 1048576 ∧ c.got.size ≤ 1048576) :
    Calls Try.prog 71 #[.agg #[.string c.want, .string c.got]] w fun e w' => e = .returned (.bool (!caseOk c)) ∧ Below w.heap.size w w' := by
  have h1 := pair_rep (w.alloc (.cells #[.string c.want, .string c.got] 51)) hc.1 hc.2 9
  have hs := impl_short_c _ h1 (by simp)
  rw [show [c.want, c.got].all shortB = caseOk c by simp [caseOk]] at hs
  have e : ((w.alloc (.cells #[.string c.want, .string c.got] 51)).heap.size) = w.heap.size + 1 := by simp
  rw [e] at hs
  have H := Lib.hid hs
  clear h1 hs e
  go_enter Try.func71, Try.ntmps71
  go_wp2_with fail
  refine H.out.mono ?_
  rintro e w1 ⟨rfl, hb⟩
  go_wp2_with fail
  go_ret
  exact ⟨rfl, (((Below.refl _ _).alloc (Nat.le_refl _) _).alloc (by simp) _).trans (hb.mono (by simp; omega))⟩

set_option maxRecDepth 100000 in
set_option maxHeartbeats 400000 in
theorem IndexFunc_case {o : Bool} {e : TypeId} {xs : List ACase} {v : Value} {F : List Nat} (K : FuncId) (p : ACase → Bool) (w : World) (h : (aCases e).rep o w xs [v] F) (hx : xs.length ≤ 1048576)
    (hK : ∀ args w, (callFunc K args).run Try.prog w = .ok (.enter K args) w) (hf : ∀ s ∈ xs, ∀ w : World, Calls Try.prog K #[.agg #[.string s.want, .string s.got]] w fun e w' => e = .returned (.bool (p s)) ∧ Below w.heap.size w w') :
    Calls Try.prog 78 #[v, .func (.func K) #[] #[]] w (FoundAt (xs.any p) w) := by
  obtain ⟨A, c, rfl, hc1, hc2, hr⟩ := aCases_open h
  clear h
  have HF := Lib.hid hf
  clear hf
  go_enter Try.func78, Try.ntmps78
  go_wp2_with fail
  go_loopw [8] (fun i wr => ∃ k : Nat, k ≤ xs.length ∧ i = .int .i64 k ∧ Hid ((xs.take k).any p = false) ∧ Below w.heap.size w wr) (fun i _ => xs.length - (intOf i).toNat)
  case atStart => exact ⟨0, Nat.zero_le _, rfl, rfl, Below.refl _ _⟩
  case round =>
    obtain ⟨k, hk, rfl, hno, hb⟩ := hrel
    have hbs := hb.size
    by_cases hlt : k < xs.length
    · obtain ⟨b, off, rfl, hbb, _, h0, h1, _⟩ := hr k hlt
      rw [← hb.cell (p := ⟨b, _, none⟩) hbb] at h0 h1
      clear hr
      go_wp2_with fail
      refine (HF.out xs[k] (List.getElem_mem hlt) _).mono ?_
      rintro e w1 ⟨rfl, hb1⟩
      cases hp : p xs[k]
      · have HP := Lib.hid hp
        clear hp
        go_wp2_with fail
        go_roundw
        case rel => exact ⟨k + 1, by omega, by go_num, (by show _ = _; rw [List.take_succ_eq_append_getElem hlt, List.any_append, hno.out]; simp [HP.out]), hb.trans (hb1.mono hbs)⟩
        case measure => simp [intOf]; omega
      · have HP := Lib.hid hp
        clear hp
        go_wp2_with fail
        go_ret
        refine ⟨_, rfl, ?_, hb.trans (hb1.mono hbs)⟩
        have : xs.any p = true := List.any_eq_true.2 ⟨xs[k], List.getElem_mem hlt, HP.out⟩
        rw [this]; simp
    · obtain rfl : k = xs.length := by omega
      go_wp2_with fail
      go_ret
      refine ⟨_, rfl, ?_, hb⟩
      have := hno.out
      rw [List.take_length] at this
      rw [this]; rfl
set_option maxRecDepth 100000 in
set_option maxHeartbeats 400000 in
theorem ContainsFunc_case {o : Bool} {e : TypeId} {xs : List ACase} {v : Value} {F : List Nat} (K : FuncId) (p : ACase → Bool) (w : World) (h : (aCases e).rep o w xs [v] F) (hx : xs.length ≤ 1048576)
    (hK : ∀ args w, (callFunc K args).run Try.prog w = .ok (.enter K args) w) (hf : ∀ s ∈ xs, ∀ w : World, Calls Try.prog K #[.agg #[.string s.want, .string s.got]] w fun e w' => e = .returned (.bool (p s)) ∧ Below w.heap.size w w') :
    Calls Try.prog 70 #[v, .func (.func K) #[] #[]] w fun e w' => e = .returned (.bool (xs.any p)) ∧ Below w.heap.size w w' := by
  have C := IndexFunc_case K p w h hx hK hf
  have HC := Lib.hid C
  clear C hf hK
  go_enter Try.func70, Try.ntmps70
  go_wp2_with fail
  refine HC.out.mono ?_
  rintro e w1 ⟨r, rfl, hr, hb⟩
  go_wp2_with fail
  all_goals go_ret
  all_goals first | exact ⟨ret_boolF hr, hb⟩ | exact ⟨rfl, hb⟩

set_option maxRecDepth 100000 in
set_option maxHeartbeats 400000 in
theorem impl_areCases_c {o : Bool} {e : TypeId} {xs : List ACase} {v : Value} {F : List Nat} (w : World) (h : (aCases e).rep o w xs [v] F) (hx : xs.length ≤ 1048576) (hsz : ∀ c ∈ xs, c.want.size ≤ 1048576 ∧ c.got.size ≤ 1048576) :
    Calls Try.prog 55 #[v] w fun e w' => e = .returned (.bool (casesOk xs)) ∧ Below w.heap.size w w' := by
  have C := ContainsFunc_case 71 (fun s => !caseOk s) w h hx Try.call71 (fun s hs w => impl_areCases1_c s w (hsz s hs))
  have HC := Lib.hid C
  have HE : Hid ((!xs.any fun s => !caseOk s) = xs.all caseOk) := by show _ = _; simp [List.any_eq_not_all_not]
  obtain ⟨A, c, hv⟩ := slice_len h
  subst hv
  clear C hsz h
  by_cases hl : xs.length ≤ 50
  · have g : decide ((xs.length : Int) ≤ 50) = true := by simp; omega
    have HO := Lib.hid (show casesOk xs = xs.all caseOk by simp [casesOk, hl])
    go_enter Try.func55, Try.ntmps55
    go_wp2_with fail
    refine HC.out.mono ?_
    rintro e w1 ⟨rfl, hb⟩
    go_wp2_with fail
    go_ret
    exact ⟨ret_boolF (by rw [HO.out, HE.out]), hb⟩
  · have g : decide ((xs.length : Int) ≤ 50) = false := by simp; omega
    have HO := Lib.hid (show casesOk xs = false by simp [casesOk, hl])
    go_enter Try.func55, Try.ntmps55
    go_wp2_with fail
    go_ret
    exact ⟨ret_boolF HO.out.symm, Below.refl _ _⟩

def casesCode (xs : List ACase) : Int := if casesOk xs then 0 else 5
set_option maxRecDepth 100000 in
set_option maxHeartbeats 400000 in
theorem spec_l25Cases_c {o : Bool} {e : TypeId} {xs : List ACase} {v : Value} {F : List Nat} (w : World) (h : (aCases e).rep o w xs [v] F) (hx : xs.length ≤ 1048576) :
    Calls Try.prog 52 #[v] w fun e w' => e = .returned (.int .i64 (casesCode xs)) ∧ Below w.heap.size w w' := by
  obtain ⟨A, c, rfl, hc1, hc2, hr⟩ := aCases_open h
  clear h
  go_enter Try.func52, Try.ntmps52
  go_wp2_with fail
  go_loopw [3] (fun i wr => ∃ k : Nat, k ≤ xs.length ∧ i = .int .i64 k ∧ Hid ((xs.take k).all caseOk = true) ∧ w = wr) (fun i _ => xs.length - (intOf i).toNat)
  case atStart => exact ⟨0, Nat.zero_le _, rfl, rfl, rfl⟩
  case round =>
    obtain ⟨k, hk, rfl, hall, rfl⟩ := hrel
    by_cases hlt : k < xs.length
    · obtain ⟨b, off, rfl, hbb, _, h0, h1, _⟩ := hr k hlt
      clear hr
      have C1 := spec_l25Text_c xs[k].want
      have C2 := spec_l25Text_c xs[k].got
      cases hA : shortB xs[k].want
      · rw [hA] at C1
        have H1 := Lib.hid C1
        have HN := Lib.hid (show casesCode xs = 5 by
          have : caseOk xs[k] = false := by simp [caseOk, hA]
          have h2 : xs.all caseOk = false := List.all_eq_false.2 ⟨xs[k], List.getElem_mem hlt, by simp [this]⟩
          simp [casesCode, casesOk, h2])
        clear C1 C2 hA
        go_wp2_with fail
        refine (H1.out _).mono ?_
        rintro e w1 ⟨rfl, rfl⟩
        go_wp2_with fail
        go_ret
        exact ⟨ret_int HN.out.symm, Below.refl _ _⟩
      · rw [hA] at C1
        have H1 := Lib.hid C1
        cases hB : shortB xs[k].got
        · rw [hB] at C2
          have H2 := Lib.hid C2
          have HN := Lib.hid (show casesCode xs = 5 by
            have : caseOk xs[k] = false := by simp [caseOk, hB]
            have h2 : xs.all caseOk = false := List.all_eq_false.2 ⟨xs[k], List.getElem_mem hlt, by simp [this]⟩
            simp [casesCode, casesOk, h2])
          clear C1 C2 hA hB
          go_wp2_with fail
          refine (H1.out _).mono ?_
          rintro e w1 ⟨rfl, rfl⟩
          go_wp2_with fail
          refine (H2.out _).mono ?_
          rintro e w1 ⟨rfl, rfl⟩
          go_wp2_with fail
          go_ret
          exact ⟨ret_int HN.out.symm, Below.refl _ _⟩
        · rw [hB] at C2
          have H2 := Lib.hid C2
          have HO := Lib.hid (show caseOk xs[k] = true by simp [caseOk, hA, hB])
          clear C1 C2 hA hB
          go_wp2_with fail
          refine (H1.out _).mono ?_
          rintro e w1 ⟨rfl, rfl⟩
          go_wp2_with fail
          refine (H2.out _).mono ?_
          rintro e w1 ⟨rfl, rfl⟩
          go_wp2_with fail
          go_roundw
          case rel => exact ⟨k + 1, by omega, by go_num, (by show _ = _; rw [List.take_succ_eq_append_getElem hlt, List.all_append, hall.out]; simp [HO.out]), by first | trivial | rfl⟩
          case measure => simp [intOf]; omega
    · obtain rfl : k = xs.length := by omega
      have hall' := hall.out
      rw [List.take_length] at hall'
      have HC : Hid (casesCode xs = if xs.length ≤ 50 then 0 else 5) := by show _ = _; simp [casesCode, casesOk, hall']
      clear hall' hall hr
      by_cases h50 : xs.length ≤ 50
      · have g : ¬ ((50 : Int) < (xs.length : Int)) := by omega
        go_wp2_with fail
        go_ret
        exact ⟨ret_int (by rw [HC.out, if_pos h50]), Below.refl _ _⟩
      · have g : (50 : Int) < (xs.length : Int) := by omega
        go_wp2_with fail
        go_ret
        exact ⟨ret_int (by rw [HC.out, if_neg h50]), Below.refl _ _⟩
end Go.Proofs.Ytelkggafmnckoaa
