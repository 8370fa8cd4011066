/- Symbols: which are valid, in the program and in the reference. Conditions: none. -/
import Derived.Test.YtkickllohilciaaTree1
import Derived.Test.YtkickllohilciaaLabel
import Derived.Test.YtkickllohilciaaBoxOk
namespace Go.Proofs.Ytkickllohilciaa
open Go Go.RowKit

def symOkB (s : PSymbol) : Bool := labelB s.label && boxOkB (boxOf s)
def symsOkB (xs : List PSymbol) : Bool := xs.all symOkB && decide (xs.length ≤ 8)
/-- An index that tells whether there is such an element. -/
def FoundSym (b : Bool) (w : World) (e : Ending) (w' : World) : Prop := ∃ r : Int, e = .returned (.int .i64 r) ∧ (decide (0 ≤ r)) = b ∧ Below w.heap.size w w'
set_option maxHeartbeats 400000 in
theorem impl_ValidSymbols1_c (s : PSymbol) (w : World) (hs : s.label.size ≤ 1048576) :
    Calls Try.prog 60 #[.agg #[.string s.label, .int .i64 s.x1, .int .i64 s.y1, .int .i64 s.x2, .int .i64 s.y2]] w fun e w' => e = .returned (.bool (!symOkB s)) ∧ Below w.heap.size w w' := by
  have C1 := fun w' => impl_IsLabel_c s.label w' hs
  have C2 := fun w' => impl_ValidBox_c (boxOf s) w'
  unfold symOkB
  generalize labelB s.label = a at C1 ⊢
  generalize boxOkB (boxOf s) = b at C2 ⊢
  have H1 := Lib.hid C1
  have H2 := Lib.hid C2
  clear C1 C2
  have al : ∀ x : Obj, Below w.heap.size w (w.alloc x) := fun x => (Below.refl _ _).alloc (Nat.le_refl _) x
  cases a
  · go_enter Try.func60, Try.ntmps60
    go_wp2_with fail
    refine (H1.out _).mono ?_
    rintro e w1 ⟨rfl, rfl⟩
    go_wp2_with fail
    go_ret
    exact ⟨rfl, al _⟩
  · go_enter Try.func60, Try.ntmps60
    go_wp2_with fail
    refine (H1.out _).mono ?_
    rintro e w1 ⟨rfl, rfl⟩
    go_wp2_with fail
    refine (H2.out _).mono ?_
    rintro e w1 ⟨rfl, rfl⟩
    go_wp2_with fail
    go_ret
    exact ⟨ret_boolI (by simp), (al _).alloc (by simp) _⟩
set_option maxRecDepth 100000 in
set_option maxHeartbeats 400000 in
theorem IndexFunc_sym {o : Bool} {e : TypeId} {xs : List PSymbol} {v : Value} {F : List Nat} (K : FuncId) (p : PSymbol → Bool) (w : World) (h : (pSymbols e).rep o w xs [v] F) (hx : xs.length ≤ 1048576)
    (hK : ∀ args w, (callFunc K args).run Try.prog w = .ok (.enter K args) w) (hf : ∀ s ∈ xs, ∀ w : World, Calls Try.prog K #[.agg #[.string s.label, .int .i64 s.x1, .int .i64 s.y1, .int .i64 s.x2, .int .i64 s.y2]] w fun e w' => e = .returned (.bool (p s)) ∧ Below w.heap.size w w') :
    Calls Try.prog 70 #[v, .func (.func K) #[] #[]] w (FoundSym (xs.any p) w) := by
  obtain ⟨A, c, rfl, hc1, hc2, hr⟩ := pSymbols_open h
  clear h
  have HF := Lib.hid hf
  clear hf
  go_enter Try.func70, Try.ntmps70
  go_wp2_with fail
  go_loopw [8] (fun i wr => ∃ k : Nat, k ≤ xs.length ∧ i = .int .i64 k ∧ Hid ((xs.take k).any p = false) ∧ Below w.heap.size w wr) (fun i _ => xs.length - (intOf i).toNat)
  case atStart => exact ⟨0, Nat.zero_le _, rfl, rfl, Below.refl _ _⟩
  case round =>
    obtain ⟨k, hk, rfl, hno, hb⟩ := hrel
    have hbs := hb.size
    by_cases hlt : k < xs.length
    · obtain ⟨b, off, rfl, hbb, _, h0, h1, h2, h3, h4, _⟩ := hr k hlt
      rw [← hb.cell (p := ⟨b, _, none⟩) hbb] at h0 h1 h2 h3 h4
      clear hr
      go_wp2_with fail
      refine (HF.out xs[k] (List.getElem_mem hlt) _).mono ?_
      rintro e w1 ⟨rfl, hb1⟩
      cases hp : p xs[k]
      · have HP := Lib.hid hp
        clear hp
        go_wp2_with fail
        go_roundw
        case rel => exact ⟨k + 1, by omega, by go_num, (by show _ = _; rw [List.take_succ_eq_append_getElem hlt, List.any_append, hno.out]; simp [HP.out]), hb.trans (hb1.mono hbs)⟩
        case measure => simp [intOf]; omega
      · have HP := Lib.hid hp
        clear hp
        go_wp2_with fail
        go_ret
        refine ⟨_, rfl, ?_, hb.trans (hb1.mono hbs)⟩
        have : xs.any p = true := List.any_eq_true.2 ⟨xs[k], List.getElem_mem hlt, HP.out⟩
        rw [this]; simp
    · obtain rfl : k = xs.length := by omega
      go_wp2_with fail
      go_ret
      refine ⟨_, rfl, ?_, hb⟩
      have := hno.out
      rw [List.take_length] at this
      rw [this]; rfl
set_option maxRecDepth 100000 in
set_option maxHeartbeats 400000 in
theorem ContainsFunc_sym {o : Bool} {e : TypeId} {xs : List PSymbol} {v : Value} {F : List Nat} (K : FuncId) (p : PSymbol → Bool) (w : World) (h : (pSymbols e).rep o w xs [v] F) (hx : xs.length ≤ 1048576)
    (hK : ∀ args w, (callFunc K args).run Try.prog w = .ok (.enter K args) w) (hf : ∀ s ∈ xs, ∀ w : World, Calls Try.prog K #[.agg #[.string s.label, .int .i64 s.x1, .int .i64 s.y1, .int .i64 s.x2, .int .i64 s.y2]] w fun e w' => e = .returned (.bool (p s)) ∧ Below w.heap.size w w') :
    Calls Try.prog 59 #[v, .func (.func K) #[] #[]] w fun e w' => e = .returned (.bool (xs.any p)) ∧ Below w.heap.size w w' := by
  have C := IndexFunc_sym K p w h hx hK hf
  have HC := Lib.hid C
  clear C hf hK
  go_enter Try.func59, Try.ntmps59
  go_wp2_with fail
  refine HC.out.mono ?_
  rintro e w1 ⟨r, rfl, hr, hb⟩
  go_wp2_with fail
  all_goals go_ret
  all_goals first | exact ⟨ret_boolI hr, hb⟩ | exact ⟨rfl, hb⟩

set_option maxRecDepth 100000 in
set_option maxHeartbeats 400000 in
theorem impl_ValidSymbols_c {o : Bool} {e : TypeId} {xs : List PSymbol} {v : Value} {F : List Nat} (w : World) (h : (pSymbols e).rep o w xs [v] F) (hx : xs.length ≤ 1048576) (hsz : ∀ c ∈ xs, c.label.size ≤ 1048576) :
    Calls Try.prog 41 #[v] w fun e w' => e = .returned (.bool (symsOkB xs)) ∧ Below w.heap.size w w' := by
  have C := ContainsFunc_sym 60 (fun s => !symOkB s) w h hx Try.call60 (fun s hs w => impl_ValidSymbols1_c s w (hsz s hs))
  have HC := Lib.hid C
  have HE : Hid ((!xs.any fun s => !symOkB s) = xs.all symOkB) := by show _ = _; simp [List.any_eq_not_all_not]
  obtain ⟨A, c, hv⟩ := slice_len h
  subst hv
  clear C hsz h
  by_cases hl : xs.length ≤ 8
  · have g : decide ((xs.length : Int) ≤ 8) = true := by simp; omega
    have HO := Lib.hid (show symsOkB xs = xs.all symOkB by simp [symsOkB, hl])
    go_enter Try.func41, Try.ntmps41
    go_wp2_with fail
    refine HC.out.mono ?_
    rintro e w1 ⟨rfl, hb⟩
    go_wp2_with fail
    go_ret
    exact ⟨ret_boolI (by rw [HO.out, HE.out]), hb⟩
  · have g : decide ((xs.length : Int) ≤ 8) = false := by simp; omega
    have HO := Lib.hid (show symsOkB xs = false by simp [symsOkB, hl])
    go_enter Try.func41, Try.ntmps41
    go_wp2_with fail
    go_ret
    exact ⟨ret_boolI HO.out.symm, Below.refl _ _⟩
set_option maxRecDepth 100000 in
set_option maxHeartbeats 400000 in
theorem spec_l20Ok_c {o : Bool} {e : TypeId} {xs : List PSymbol} {v : Value} {F : List Nat} (w : World) (h : (pSymbols e).rep o w xs [v] F) (hx : xs.length ≤ 1048576) (hsz : ∀ c ∈ xs, c.label.size ≤ 1048576) :
    Calls Try.prog 37 #[v] w fun e w' => e = .returned (.bool (symsOkB xs)) ∧ Below w.heap.size w w' := by
  obtain ⟨A, c, rfl, hc1, hc2, hr⟩ := pSymbols_open h
  clear h
  go_enter Try.func37, Try.ntmps37
  go_wp2_with fail
  go_loopw [3] (fun i wr => ∃ k : Nat, k ≤ xs.length ∧ i = .int .i64 k ∧ Hid ((xs.take k).all symOkB = true) ∧ Below w.heap.size w wr) (fun i _ => xs.length - (intOf i).toNat)
  case atStart => exact ⟨0, Nat.zero_le _, rfl, rfl, Below.refl _ _⟩
  case round =>
    obtain ⟨k, hk, rfl, hall, hb⟩ := hrel
    have hbs := hb.size
    by_cases hlt : k < xs.length
    · obtain ⟨b, off, rfl, hbb, _, h0, h1, h2, h3, h4, _⟩ := hr k hlt
      rw [← hb.cell (p := ⟨b, _, none⟩) hbb] at h0 h1 h2 h3 h4
      have C1 := fun w' => spec_IsLabel_c xs[k].label w' (hsz _ (List.getElem_mem hlt))
      have C2 := fun w' => spec_l02Box_c (boxOf xs[k]) w'
      have HF : symOkB xs[k] = false → Hid (symsOkB xs = false) := fun hf => by
        show _ = _
        have : xs.all symOkB = false := List.all_eq_false.2 ⟨xs[k], List.getElem_mem hlt, by simp [hf]⟩
        simp [symsOkB, this]
      have HT : symOkB xs[k] = true → Hid ((xs.take (k + 1)).all symOkB = true) := fun ht => by
        show _ = _
        rw [List.take_succ_eq_append_getElem hlt, List.all_append, hall.out]; simp [ht]
      unfold symOkB at HF HT
      generalize labelB xs[k].label = a at C1 HF HT
      generalize boxOkB (boxOf xs[k]) = d at C2 HF HT
      have H1 := Lib.hid C1
      have H2 := Lib.hid C2
      have HF' := Lib.hid HF
      have HT' := Lib.hid HT
      clear C1 C2 HF HT hr hsz
      cases a
      · have HFF := HF'.out rfl
        clear HF' HT'
        go_wp2_with fail
        refine (H1.out _).mono ?_
        rintro e w1 ⟨rfl, rfl⟩
        go_wp2_with fail
        go_ret
        exact ⟨ret_boolI HFF.out.symm, hb⟩
      · cases d
        · have HFF := HF'.out rfl
          clear HF' HT'
          go_wp2_with fail
          refine (H1.out _).mono ?_
          rintro e w1 ⟨rfl, rfl⟩
          go_wp2_with fail
          refine (H2.out _).mono ?_
          rintro e w1 ⟨rfl, rfl⟩
          go_wp2_with fail
          go_ret
          exact ⟨ret_boolI HFF.out.symm, hb.alloc hbs _⟩
        · have HTT := HT'.out rfl
          clear HF' HT'
          go_wp2_with fail
          refine (H1.out _).mono ?_
          rintro e w1 ⟨rfl, rfl⟩
          go_wp2_with fail
          refine (H2.out _).mono ?_
          rintro e w1 ⟨rfl, rfl⟩
          go_wp2_with fail
          go_roundw
          case rel => exact ⟨k + 1, by omega, by go_num, HTT, hb.alloc hbs _⟩
          case measure => simp [intOf]; omega
    · obtain rfl : k = xs.length := by omega
      clear hr hsz
      have HV : Hid (symsOkB xs = decide (xs.length ≤ 8)) := by
        show _ = _
        have := hall.out
        rw [List.take_length] at this
        simp [symsOkB, this]
      go_wp2_with fail
      go_ret
      exact ⟨ret_boolI (by rw [HV.out, decide_eq_decide]; omega), hb⟩
end Go.Proofs.Ytkickllohilciaa
