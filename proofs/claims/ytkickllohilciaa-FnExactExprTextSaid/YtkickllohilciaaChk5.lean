/- The program's checker of trees: all nodes. Conditions: none. -/
import Derived.Test.YtkickllohilciaaChk4
namespace Go.Proofs.Ytkickllohilciaa
open Go Go.RowKit

theorem useK_lenB {us vs : List Bool} {k : Int} (h : useK us k = some vs) : vs.length = us.length := useK_len h
theorem signUse_len {xs : List PSymbol} {us vs : List Bool} {n : PNode} (h : signUse xs us n = some vs) : vs.length = us.length := by
  unfold signUse at h
  split at h
  · cases e : useK us n.sign with
    | none => rw [e] at h; cases h
    | some u =>
      rw [e] at h
      simp only [Option.bind_some] at h
      split at h
      · cases h; exact useK_len e
      · cases h
  · split at h
    · cases h; rfl
    · cases h
theorem joinF_more {xs : List PSymbol} {st : ChSt} {n : PNode} (hc : ChkOk xs st) {p : ChSt × PBox} (h : joinF xs st n = some p) : p.1.used.length = st.used.length ∧ (∀ x ∈ p.1.opn, x ∈ st.opn) ∧ st.cost ≤ p.1.cost ∧ p.1.cost ≤ st.cost + 40000 := by
  have hz : boxIn ⟨0, 0, 0, 0⟩ := by unfold boxIn; simp
  have hb : ∀ k : Nat, boxIn (st.boxes.getD k ⟨0, 0, 0, 0⟩) := fun k => by
    rw [List.getD_eq_getElem?_getD]
    cases e : st.boxes[k]? with
    | none => exact hz
    | some b => exact hc.bx b (List.mem_of_getElem? e)
  have hs : ∀ k : Int, boxIn (boxOf (symAt xs k)) := fun k => by
    unfold symAt
    rw [List.getD_eq_getElem?_getD]
    cases e : xs[k.toNat]? with
    | none => exact hz
    | some b => exact hc.sy b (List.mem_of_getElem? e)
  have h1 : boxIn (partA st.boxes n) := hb _
  have h2 : boxIn (partB st.boxes n) := by unfold partB; split <;> first | exact h1 | exact hb _
  have h3 : boxIn (signB xs st.boxes n) := by unfold signB; split <;> first | exact h1 | exact hs _
  have h4 := ownF_le n.kind h1 h2 h3
  unfold joinF at h
  cases e1 : popB st.opn n with
  | none => rw [e1] at h; cases h
  | some o1 =>
    rw [e1] at h
    have l1 : ∀ x ∈ o1, x ∈ st.opn := by
      unfold popB at e1
      split at e1
      · split at e1
        · cases e1; exact fun _ h => h
        · cases e1
      · exact (popK_mem e1).2.1
    simp only [Option.bind_some] at h
    cases e2 : popK o1 n.a with
    | none => rw [e2] at h; cases h
    | some o2 =>
      rw [e2] at h
      have l2 := (popK_mem e2).2.1
      simp only [Option.bind_some] at h
      cases e3 : signUse xs st.used n with
      | none => rw [e3] at h; cases h
      | some u =>
        rw [e3] at h
        simp only [Option.bind_some] at h
        split at h
        · cases h
          exact ⟨signUse_len e3, fun x hx => l1 _ (l2 _ hx), by show st.cost ≤ st.cost + _; omega, by show st.cost + _ ≤ _; omega⟩
        · cases h
theorem stepF_ok {xs : List PSymbol} {st st' : ChSt} {n : PNode} (hc : ChkOk xs st) (hl : st.boxes.length ≤ 15) (ho : st.opn.length ≤ st.boxes.length) (h : stepF xs st n = some st') : ChkOk xs st' ∧ st'.boxes.length = st.boxes.length + 1 ∧ st'.opn.length ≤ st'.boxes.length := by
  have mk : ∀ (us : List Bool) (op : List Int) (b : PBox) (c : Int), us.length = st.used.length → (∀ x ∈ op, x ∈ st.opn) → op.length ≤ st.opn.length → boxIn b → st.cost ≤ c → c ≤ st.cost + 40000 → ChkOk xs ⟨us, op ++ [(st.boxes.length : Int)], st.boxes ++ [b], c⟩ := by
    intro us op b c h1 h2 h3 h4 h5 h6
    have hcost := hc.cost
    refine ⟨h1.trans hc.used, hc.few, ?_, by simp; omega, by simp; omega, ?_, hc.sy, by simp; omega⟩
    · intro r hr
      simp only [List.mem_append, List.mem_singleton] at hr
      simp only [List.length_append, List.length_singleton]
      rcases hr with hr | hr
      · have := hc.op r (h2 r hr); omega
      · omega
    · intro x hx
      simp only [List.mem_append, List.mem_singleton] at hx
      rcases hx with hx | rfl
      · exact hc.bx x hx
      · exact h4
  by_cases h0 : n.kind = 0
  · unfold stepF at h
    rw [if_pos h0] at h
    split at h
    · cases e : useK st.used n.a with
      | none => rw [e] at h; cases h
      | some u =>
        rw [e] at h
        simp only [Option.map_some, Option.some.injEq] at h
        subst h
        have hz : boxIn ⟨0, 0, 0, 0⟩ := by unfold boxIn; simp
        have hs : boxIn (boxOf (symAt xs n.a)) := by
          unfold symAt
          rw [List.getD_eq_getElem?_getD]
          cases e : xs[n.a.toNat]? with
          | none => exact hz
          | some b => exact hc.sy b (List.mem_of_getElem? e)
        refine ⟨mk u st.opn _ st.cost (useK_len e) (fun _ h => h) (Nat.le_refl _) (by unfold boxNode; rw [if_pos h0]; exact hs) (Int.le_refl _) (by omega), by simp, by simp; omega⟩
    · cases h
  · rw [stepF_join xs st n h0] at h
    cases e : joinF xs st n with
    | none => rw [e] at h; cases h
    | some p =>
      rw [e] at h
      simp only [Option.map_some, Option.some.injEq] at h
      subst h
      obtain ⟨h1, h2, h3⟩ := joinF_ok hc e
      obtain ⟨h4, h5, h6, h7⟩ := joinF_more hc e
      exact ⟨mk p.1.used p.1.opn p.2 p.1.cost h4 h5 h3 h1 h6 h7, by simp, by simp; omega⟩
theorem runF_none {xs : List PSymbol} {ns : List PNode} {k : Nat} (h : runF xs ns k = none) : ∀ m, k ≤ m → runF xs ns m = none
  | 0, hm => by
    obtain rfl : k = 0 := by omega
    exact h
  | m + 1, hm => by
    by_cases e : k = m + 1
    · subst e; exact h
    · rw [runF, runF_none h m (by omega)]; rfl
set_option maxRecDepth 100000 in
set_option maxHeartbeats 1000000 in
theorem Index_bool {e : TypeId} {o : Bool} {us : List Bool} {v : Value} {F : List Nat} (w : World) (h : (bools e).rep o w us [v] F) (hl : us.length ≤ 1048576) :
    Calls Try.prog 76 #[v, .bool false] w fun en w' => ∃ r : Int, en = .returned (.int .i64 r) ∧ decide (0 ≤ r) = !(us.all id) ∧ w' = w := by
  obtain ⟨A, c, rfl, hc1, hc2, hr⟩ := bools_open h
  go_enter Try.func76, Try.ntmps76
  go_wp2_with fail
  go_loopw [5, 8] (fun _ i wr => ∃ k : Nat, k ≤ us.length ∧ i = .int .i64 k ∧ (∀ j (hj : j < us.length), j < k → us[j] = true) ∧ wr = w) (fun _ i _ => us.length - (intOf i).toNat)
  case atStart => exact ⟨0, Nat.zero_le _, rfl, fun _ _ h => by omega, rfl⟩
  case round =>
    obtain ⟨k, hk, rfl, hall, rfl⟩ := hrel
    by_cases hlt : k < us.length
    · obtain ⟨b, off, rfl, _, _, h0⟩ := hr k hlt
      have i1 : (k : Int) < (us.length : Int) := by omega
      have i2 : IntKind.i64.wrap ((k : Int) + 1) = (k : Int) + 1 := IntWalk.i64_in _ (by omega)
      have i3 : (0 : Int) ≤ (k : Int) := by omega
      have HA := Lib.hid hall
      clear hall hr
      cases hv : us[k]
      · rw [hv] at h0
        go_wp2_with fail
        go_ret
        refine ⟨_, rfl, ?_, rfl⟩
        have : us.all id = false := by
          rw [List.all_eq_false]
          exact ⟨us[k], List.getElem_mem hlt, by simp [hv]⟩
        rw [this]
        simp
      · rw [hv] at h0
        go_wp2_with fail
        go_roundw
        case rel => exact ⟨k + 1, by omega, by go_num, fun j hj hjk => by
          by_cases e : j = k
          · subst e; exact hv
          · exact HA.out j hj (by omega), trivial⟩
        case measure => simp [intOf]; omega
    · have i1 : ¬ ((k : Int) < (us.length : Int)) := by omega
      have HA : Hid (us.all id = true) := by
        show _ = _
        rw [List.all_eq_true]
        intro x hx
        obtain ⟨j, hj, rfl⟩ := List.getElem_of_mem hx
        exact hall j hj (by omega)
      clear hr hall
      go_wp2_with fail
      go_ret
      refine ⟨_, rfl, ?_, rfl⟩
      rw [HA.out]
      decide
theorem Contains_bool {e : TypeId} {o : Bool} {us : List Bool} {v : Value} {F : List Nat} (w : World) (h : (bools e).rep o w us [v] F) (hl : us.length ≤ 1048576) :
    Calls Try.prog 64 #[v, .bool false] w fun en w' => en = .returned (.bool (!(us.all id))) ∧ w' = w := by
  have C := Lib.hid (Index_bool w h hl)
  go_enter Try.func64, Try.ntmps64
  go_wp2_with fail
  refine C.out.mono ?_
  rintro en w1 ⟨r, rfl, hr, rfl⟩
  have HR := Lib.hid hr
  clear hr
  go_wp2_with fail
  go_ret
  exact ⟨by rw [← HR.out]; rfl, rfl⟩
end Go.Proofs.Ytkickllohilciaa
