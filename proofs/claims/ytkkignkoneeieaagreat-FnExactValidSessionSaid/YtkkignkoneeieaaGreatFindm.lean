/- slices.ContainsFunc over strings. Conditions: none. -/
import Derived.Test.YtkkignkoneeieaaGreatStrSm
namespace Go.Proofs.YtkkignkoneeieaaGreat
open Go Go.RowKit

theorem ret_boolF {a b : Bool} (h : a = b) : Ending.returned (.bool a) = .returned (.bool b) := by rw [h]
/-- An index that tells whether there is such an element. -/
def FoundAt (b : Bool) (w : World) (e : Ending) (w' : World) : Prop := ∃ r : Int, e = .returned (.int .i64 r) ∧ (decide (0 ≤ r)) = b ∧ Below w.heap.size w w'

set_option maxRecDepth 100000 in
set_option maxHeartbeats 400000 in
theorem IndexFunc_str {o : Bool} {e : TypeId} {xs : List ByteArray} {v : Value} {F : List Nat} (K : FuncId) (p : ByteArray → Bool) (w : World) (h : (strs e).rep o w xs [v] F) (hx : xs.length ≤ 1048576)
    (hK : ∀ args w, (callFunc K args).run Tryz.prog w = .ok (.enter K args) w) (hf : ∀ s ∈ xs, ∀ w : World, Calls Tryz.prog K #[.string s] w fun e w' => e = .returned (.bool (p s)) ∧ Below w.heap.size w w') :
    Calls Tryz.prog 103 #[v, .func (.func K) #[] #[]] w (FoundAt (xs.any p) w) := by
  obtain ⟨A, c, rfl, hc1, hc2, hr⟩ := strs_open h
  clear h
  have HF := Lib.hid hf
  clear hf
  go_enter Tryz.func103, Tryz.ntmps103
  go_wp2_with fail
  go_loopw [8] (fun i wr => ∃ k : Nat, k ≤ xs.length ∧ i = .int .i64 k ∧ Hid ((xs.take k).any p = false) ∧ Below w.heap.size w wr) (fun i _ => xs.length - (intOf i).toNat)
  case atStart => exact ⟨0, Nat.zero_le _, rfl, rfl, Below.refl _ _⟩
  case round =>
    obtain ⟨k, hk, rfl, hno, hb⟩ := hrel
    have hbs := hb.size
    by_cases hlt : k < xs.length
    · obtain ⟨b, off, rfl, hbb, _, h0, _⟩ := hr k hlt
      rw [← hb.cell (p := ⟨b, _, none⟩) hbb] at h0
      clear hr
      go_wp2_with fail
      refine (HF.out xs[k] (List.getElem_mem hlt) _).mono ?_
      rintro e w1 ⟨rfl, hb1⟩
      cases hp : p xs[k]
      · have HP := Lib.hid hp
        clear hp
        go_wp2_with fail
        go_roundw
        case rel => exact ⟨k + 1, by omega, by go_num, (by show _ = _; rw [List.take_succ_eq_append_getElem hlt, List.any_append, hno.out]; simp [HP.out]), hb.trans (hb1.mono hbs)⟩
        case measure => simp [intOf]; omega
      · have HP := Lib.hid hp
        clear hp
        go_wp2_with fail
        go_ret
        refine ⟨_, rfl, ?_, hb.trans (hb1.mono hbs)⟩
        have : xs.any p = true := List.any_eq_true.2 ⟨xs[k], List.getElem_mem hlt, HP.out⟩
        rw [this]; simp
    · obtain rfl : k = xs.length := by omega
      go_wp2_with fail
      go_ret
      refine ⟨_, rfl, ?_, hb⟩
      have := hno.out
      rw [List.take_length] at this
      rw [this]; rfl
set_option maxRecDepth 100000 in
set_option maxHeartbeats 400000 in
theorem ContainsFunc_str {o : Bool} {e : TypeId} {xs : List ByteArray} {v : Value} {F : List Nat} (K : FuncId) (p : ByteArray → Bool) (w : World) (h : (strs e).rep o w xs [v] F) (hx : xs.length ≤ 1048576)
    (hK : ∀ args w, (callFunc K args).run Tryz.prog w = .ok (.enter K args) w) (hf : ∀ s ∈ xs, ∀ w : World, Calls Tryz.prog K #[.string s] w fun e w' => e = .returned (.bool (p s)) ∧ Below w.heap.size w w') :
    Calls Tryz.prog 46 #[v, .func (.func K) #[] #[]] w fun e w' => e = .returned (.bool (xs.any p)) ∧ Below w.heap.size w w' := by
  have C := IndexFunc_str K p w h hx hK hf
  have HC := Lib.hid C
  clear C hf hK
  go_enter Tryz.func46, Tryz.ntmps46
  go_wp2_with fail
  refine HC.out.mono ?_
  rintro e w1 ⟨r, rfl, hr, hb⟩
  go_wp2_with fail
  all_goals go_ret
  all_goals first | exact ⟨ret_boolF hr, hb⟩ | exact ⟨rfl, hb⟩

end Go.Proofs.YtkkignkoneeieaaGreat
