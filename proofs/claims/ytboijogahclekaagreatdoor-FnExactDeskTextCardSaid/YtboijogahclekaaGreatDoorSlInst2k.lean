/- slices.Insert at the types of pages. Conditions: none. -/
import Derived.Test.YtboijogahclekaaGreatDoorSlInstk
namespace Go.Proofs.YtboijogahclekaaGreatDoor
open Go Go.RowKit
def InsStr (xs : List (ByteArray)) (y : ByteArray) (i : Nat) (v : Value) (F Fy : List Nat) (w : World) (e' : Ending) (w' : World) : Prop :=
 ∃ u F', e' = .returned u ∧ ((str).slice 9).rep true w' (xs.take i ++ y :: xs.drop i) [u] F' ∧ (∀ B, Fresh B (F ++ Fy) → B ≤ w.heap.size → Fresh B F') ∧ Only F w w' ∧ (∀ b ∈ F', b ∈ F ++ Fy ∨ w.heap.size ≤ b) ∧ Only v.ownBlock.toList w w'
set_option maxRecDepth 100000 in
set_option maxHeartbeats 1000000 in
theorem Insert_end_Str {xs : List (ByteArray)} {v : Value} {F Fy : List Nat} {y : ByteArray} {u : Value} (w : World) (h : ((str).slice 9).rep true w xs [v] F) (hy : (str).rep true w y [u] Fy) (hnd : (F ++ Fy).Nodup) (hx : xs.length ≤ 1048576) (vb : Nat) (hv : Row w vb 9 [u]) (n : Nat) (hn : n = xs.length) :
 Calls Tryz.prog 151 #[v, .int .i64 (n : Int), .slice (some ⟨vb, 0, none⟩) 1 1] w (InsStr xs y n v F Fy w) := by
 have e1 : xs.take n ++ y :: xs.drop n = xs ++ [y] := by rw [hn]; simp
 unfold InsStr
 rw [e1]
 obtain ⟨A, c, hvv, hl, hc, _⟩ := slice_open h
 rw [← hn] at hvv hl hx
 subst hvv
 have HR := Lib.hid h
 have HY := Lib.hid (repL_single.2 hy)
 have HN := Lib.hid hnd
 have hat : CellsAt w (some ⟨vb, 0, none⟩) [u] := fun _ => ⟨vb, 0, rfl, fun j v hj => by rw [Nat.zero_add]; exact hv.cell' hj⟩
 have HA := Lib.hid hat
 have HX := Lib.hid hn
 clear h hy hnd hat hn e1 hv
 unfold maxLen at hc
 by_cases hcn : c = n
 all_goals
  go_enter Tryz.func151, Tryz.ntmps151
  go_wp2_with (at_builtin; refine wpList_append_repX (T := str) (e := 9) (ys := [y]) rfl (.tmp 23) (.tmp 24) rfl Tryz.underlying39 Tryz.infoStr rfl (by decide) rfl HR.out rfl HY.out HA.out (by simp) HN.out (by rw [← HX.out]; simp [maxLen]; omega) (by rw [← HX.out]; simp; omega) ?_; intro v2 w2 F2 r2 o2 q2 p2)
  go_ret
  exact ⟨_, F2, rfl, r2, q2, o2, p2.1, p2.2.1⟩
set_option maxRecDepth 100000 in
set_option maxHeartbeats 1000000 in
theorem Insert_shift_Str {cs rest : List Value} {u : Value} (w : World) (g n c i vb : Nat) (R : Row w g 9 (cs ++ rest)) (hcl : cs.length = n) (hrl : (cs ++ rest).length = c) (hi : i < n) (hroom : n + 1 ≤ c) (hc63 : c ≤ 9223372036854775807)
 (V : Row w vb 9 [u]) (hvb : vb ≠ g) (h1c : ∀ v ∈ cs, v.oneCell' = true) (h1u : u.oneCell' = true) :
 Calls Tryz.prog 151 #[.slice (some ⟨g, 0, none⟩) n c, .int .i64 (i : Int), .slice (some ⟨vb, 0, none⟩) 1 1] w fun e' w' =>
  e' = .returned (.slice (some ⟨g, 0, none⟩) (n + 1) c) ∧ w' = (w.drew.setCells g (i + 1) (cs.drop i)).setCells g i [u] := by
 have hz2 : ¬ ((i : Int) = (n : Int)) := by omega
 have hsz : (Tryz.prog.info? 9).map (·.size) = some 1 := by kernel_rfl
 have hov : ∀ lb cb, (callFunc 174 #[.slice (some ⟨vb, 0, none⟩) 1 1, .slice (some ⟨g, i + 1, none⟩) lb cb]).run Tryz.prog w = .ok (.value (.bool false)) w := fun lb cb => by
  rw [run_callFunc_extern Tryz.func174 (by kernel_rfl) (by kernel_rfl) (by kernel_rfl) (e := Extern.SlicesOverlaps.overlaps #[39, 39] #[4]) (by kernel_rfl),
   Lib.run_overlaps_apart w 39 4 9 Tryz.underlying39 1 (fun _ => by kernel_rfl) ⟨vb, 0, none⟩ ⟨g, i + 1, none⟩ 1 1 lb cb hvb 9 9 1 c (by simpa using V.shape) (by rw [R.shape, hrl]) (by omega) (V.frozen _) (V.frozen _)]
  rfl
 have hdl : (cs.drop i).length = n - i := by rw [List.length_drop, hcl]
 have hw1 := IntWalk.i64_in ((i : Int) + 1) (by omega)
 have hw2 := IntWalk.i64_in ((n : Int) + 1) (by omega)
 have hb1 : (0 : Int) ≤ (i : Int) + 1 := by omega
 have hb0 : (0 : Int) ≤ (n : Int) + 1 := by omega
 have hin : i ≤ n := by omega
 have htn : ((i : Int) + 1).toNat = i + 1 := by omega
 have htn2 : ((n : Int) + 1).toNat = n + 1 := by omega
 have hb2 : ¬ (c = i + 1) := by omega
 have hb3 : (i : Int) ≤ (n : Int) + 1 := by omega
 have hb4 : ¬ (c = i) := by omega
 have hb5 : (i : Int) + 1 ≤ (n : Int) + 1 := by omega
 have hb6 : i ≤ n + 1 := by omega
 have hb7 : i + 1 ≤ n + 1 := by omega
 have hb8 : ¬ ((c : Int) < (n : Int) + 1) := by omega
 have hb9 : (n : Int) + 1 ≤ (c : Int) := by omega
 have isS : ∀ k, k < c → (w.cell? ⟨g, k, none⟩).isSome = true := fun k hk => R.isS (by omega)
 have hcp1 : ∀ ty dl dc sl sc, dl = n - i → sl = n + 1 - i → (Builtin.copy_ #[39, 39] ty #[.slice (some ⟨g, i + 1, none⟩) dl dc, .slice (some ⟨g, i, none⟩) sl sc]).run Tryz.prog w.drew = .ok (goInt (cs.drop i).length) (w.drew.setCells g (i + 1) (cs.drop i)) := fun ty dl dc sl sc h1 h2 =>
  run_copy_cells w.drew _ _ ty 9 g (i + 1) dl dc ⟨g, i, none⟩ sl sc (cs.drop i) Tryz.underlying39 hsz (by rw [hdl, h1, h2]; simp only [Nat.min_def]; split <;> omega)
   (fun j v hj => by
     have hj' : j < (cs.drop i).length := (List.getElem?_eq_some_iff.1 hj).1
     have ea : ((⟨g, i, none⟩ : Addr).add j) = ⟨g, i + j, none⟩ := by unfold Addr.add; split <;> simp_all
     rw [ea]
     refine R.drew.cell' ?_
     rw [List.getElem?_append_left (by omega)]
     rwa [List.getElem?_drop] at hj)
   (fun j hj => R.drew.isS (by omega)) (fun j hj => R.drew.frozen _) (fun v hv => h1c v (List.mem_of_mem_drop hv))
 obtain ⟨W1, hW1⟩ : ∃ W1, W1 = w.drew.setCells g (i + 1) (cs.drop i) := ⟨_, rfl⟩
 have R1 : Row W1 g 9 ((cs ++ rest).take (i + 1) ++ cs.drop i ++ (cs ++ rest).drop (i + 1 + (cs.drop i).length)) := by
  rw [hW1]; exact R.drew.cells _ _ (by rw [hdl]; omega)
 have V1 : Row W1 vb 9 [u] := by
  rw [hW1]
  exact (Only.cells (g := g) (F := [g]) (by simp) (cs.drop i) (i + 1) (Only.refl _ w.drew)).block vb V.lt (by simpa using hvb) |>.trans V
 have hlen1 : ((cs ++ rest).take (i + 1) ++ cs.drop i ++ (cs ++ rest).drop (i + 1 + (cs.drop i).length)).length = c := by
  simp only [List.length_append, List.length_take, List.length_drop] at hrl hdl ⊢; omega
 have hcp2 : ∀ ty dl dc, dl = n + 1 - i → (Builtin.copy_ #[39, 39] ty #[.slice (some ⟨g, i, none⟩) dl dc, .slice (some ⟨vb, 0, none⟩) 1 1]).run Tryz.prog W1 = .ok (goInt [u].length) (W1.setCells g i [u]) := fun ty dl dc h1 =>
  run_copy_cells W1 _ _ ty 9 g i dl dc ⟨vb, 0, none⟩ 1 1 [u] Tryz.underlying39 hsz (by rw [h1]; simp only [Nat.min_def, List.length_singleton]; split <;> omega)
   (fun j v hj => by
     have ea : ((⟨vb, 0, none⟩ : Addr).add j) = ⟨vb, j, none⟩ := by unfold Addr.add; split <;> simp_all
     rw [ea]; exact V1.cell' hj)
   (fun j hj => R1.isS (by rw [hlen1]; simp at hj; omega)) (fun j hj => R1.frozen _) (by simpa using h1u)
 rw [← hW1] at hcp1
 have H1 := Lib.hid hcp1
 have H2 := Lib.hid hcp2
 have HW := Lib.hid hW1
 have HO := Lib.hid hov
 clear hcp1 hcp2 hW1 hov isS R1 V1 hlen1 h1c hsz R V hdl hrl hcl
 go_enter Tryz.func151, Tryz.ntmps151
 go_wp2_with (simp only [HO.out])
 go_region_law (refine step_copy_runI rfl (.tmp 73) (.tmp 76) 39 39 rfl (.slice (some ⟨g, i + 1, none⟩) (n + 1 - (i + 1)) (c - (i + 1))) (.slice (some ⟨g, i, none⟩) (n + 1 - i) (c - i)) (by simp [Act.eval, Act.put]) (by simp [Act.eval, Act.put]) (H1.out _ _ _ _ _ (by omega) rfl) ?_)
 have hcp2 := H2.out 3 (n + 1 - i) (c - i) rfl
 go_wp2_with fail
 go_ret
 exact ⟨rfl, by rw [HW.out]⟩
set_option maxRecDepth 100000 in
set_option maxHeartbeats 1000000 in
theorem Insert_grow_Str {cs : List Value} {u : Value} (w : World) (g n i vb : Nat) (R : Row w g 9 cs) (hcl : cs.length = n) (hi : i < n) (hc63 : n ≤ 1048576)
 (V : Row w vb 9 [u]) (h1c : ∀ v ∈ cs, v.oneCell' = true) (h1u : u.oneCell' = true) :
 Calls Tryz.prog 151 #[.slice (some ⟨g, 0, none⟩) n n, .int .i64 (i : Int), .slice (some ⟨vb, 0, none⟩) 1 1] w fun e' w' =>
  ∃ G rest, e' = .returned (.slice (some ⟨w.heap.size, 0, none⟩) (n + 1) G) ∧ n + 1 ≤ G ∧ G ≤ maxLen ∧ Row w' w.heap.size 9 (cs.take i ++ u :: cs.drop i ++ rest) ∧ (cs.take i ++ u :: cs.drop i ++ rest).length = G ∧ Below w.heap.size w w' := by
 obtain ⟨i0, hi0, hz0, hzs, hzb⟩ := info_parts Tryz.infoStr
 have hz2 : ¬ ((i : Int) = (n : Int)) := by omega
 have hsz : (Tryz.prog.info? 9).map (·.size) = some 1 := by kernel_rfl
 have hbw := R.lt
 have hvw := V.lt
 have hkk : (n : Int) + 1 - (i : Int) = ((n + 1 - i : Nat) : Int) := by omega
 have hik : i + (n + 1 - i) = n + 1 := by omega
 have hadd : ∀ b o j, ((⟨b, o, none⟩ : Addr).add j) = ⟨b, o + j, none⟩ := fun b o j => by unfold Addr.add; split <;> simp_all
 have hold : (Builtin.firstCells i0.size i (.slice (some ⟨g, 0, none⟩) i n)).run Tryz.prog w.drew = .ok (cs.take i).toArray w.drew := by
  rw [hzs]
  exact run_firstCells_some w.drew 1 i ⟨g, 0, none⟩ i n (cs.take i) (by rw [List.length_take]; omega) (fun j v hj => by
   rw [hadd, Nat.zero_add]
   rw [List.getElem?_take] at hj
   split at hj
   · exact R.drew.cell' hj
   · cases hj)
 have hrz : ∀ ty, (Builtin.append_ #[39, 3] ty #[.slice (some ⟨g, 0, none⟩) i n, .int .i64 ((n : Int) + 1 - (i : Int))]).run Tryz.prog w =
  .ok (.slice (some ⟨w.heap.size, 0, none⟩) (n + 1) (grownCap w (n + 1) n 9)) (w.drew.alloc (.cells ((cs.take i).toArray ++ Builtin.zeroCells (Value.string .empty).cells (n + 1 - i) ++ Builtin.zeroCells (Value.string .empty).cells (grownCap w (n + 1) n 9 - (n + 1))) 9)) := fun ty => by
  have h := Lib.run_append_grow_zeros w 39 3 ty 9 i0 _ .i64 .i64 Tryz.underlying39 Tryz.underlying3 hi0 hz0 (some ⟨g, 0, none⟩) i n (cs.take i) hold (n + 1 - i) (by omega) (by rw [hzs]; decide) (by omega) (by omega) (by rw [hzb]; omega) (by rw [hzb, hik]; exact growslice_fits (by omega) (by omega))
  rw [hik] at h
  rw [hkk]
  exact h
 obtain ⟨G, hG⟩ : ∃ G, G = grownCap w (n + 1) n 9 := ⟨_, rfl⟩
 have hGn : n + 1 ≤ G := by rw [hG]; exact grownCap_ge w _ _ _
 have hGm : G ≤ maxLen := by rw [hG]; exact grownCap_le_maxLen w (n + 1) n 9 (by unfold maxLen; omega)
 rw [← hG] at hrz
 obtain ⟨mid, hmid⟩ : ∃ mid : List Value, mid = (Builtin.zeroCells (Value.string .empty).cells (n + 1 - i)).toList := ⟨_, rfl⟩
 obtain ⟨rest, hrest⟩ : ∃ rest : List Value, rest = (Builtin.zeroCells (Value.string .empty).cells (G - (n + 1))).toList := ⟨_, rfl⟩
 have hml : mid.length = n + 1 - i := by rw [hmid]; simp [Builtin.zeroCells, Value.cells]
 have hrl : rest.length = G - (n + 1) := by rw [hrest]; simp [Builtin.zeroCells, Value.cells]
 have hrow : (cs.take i).toArray ++ Builtin.zeroCells (Value.string .empty).cells (n + 1 - i) ++ Builtin.zeroCells (Value.string .empty).cells (G - (n + 1)) = (cs.take i ++ mid ++ rest).toArray := by
  rw [hmid, hrest]; simp
 rw [hrow] at hrz
 obtain ⟨W1, hW1⟩ : ∃ W1, W1 = w.drew.alloc (.cells (cs.take i ++ mid ++ rest).toArray 9) := ⟨_, rfl⟩
 have R1 : Row W1 w.heap.size 9 (cs.take i ++ mid ++ rest) := by rw [hW1]; exact Row.new w.drew _ _
 have O1 : Below w.heap.size w W1 := by rw [hW1]; exact (Below.refl _ _).drew.alloc (Nat.le_refl _) _
 rw [← hW1] at hrz
 have hln : (cs.take i ++ mid ++ rest).length = G := by simp only [List.length_append, List.length_take]; omega
 have hdl : (cs.drop i).length = n - i := by rw [List.length_drop, hcl]
 have hcpA : ∀ ty dl dc, dl = n + 1 - i → (Builtin.copy_ #[39, 39] ty #[.slice (some ⟨w.heap.size, i, none⟩) dl dc, .slice (some ⟨vb, 0, none⟩) 1 1]).run Tryz.prog W1 = .ok (goInt [u].length) (W1.setCells w.heap.size i [u]) := fun ty dl dc h1 =>
  run_copy_cells W1 _ _ ty 9 w.heap.size i dl dc ⟨vb, 0, none⟩ 1 1 [u] Tryz.underlying39 hsz (by rw [h1]; simp only [Nat.min_def, List.length_singleton]; split <;> omega)
   (fun j v hj => by rw [hadd, Nat.zero_add]; exact (V.below O1 hvw).cell' hj)
   (fun j hj => R1.isS (by rw [hln]; simp at hj; omega)) (fun j hj => R1.frozen _) (by simpa using h1u)
 obtain ⟨W2, hW2⟩ : ∃ W2, W2 = W1.setCells w.heap.size i [u] := ⟨_, rfl⟩
 have R2 : Row W2 w.heap.size 9 (cs.take i ++ u :: (mid.drop 1 ++ rest)) := by
  have h := R1.cells [u] i (by rw [hln]; simp; omega)
  rw [← hW2] at h
  have l1 : (cs.take i).length = i := by rw [List.length_take]; omega
  obtain ⟨m0, mid', rfl⟩ : ∃ m0 mid', mid = m0 :: mid' := by
   cases mid with
   | nil => simp at hml; omega
   | cons a b => exact ⟨_, _, rfl⟩
  have ea : cs.take i ++ m0 :: mid' ++ rest = cs.take i ++ (m0 :: (mid' ++ rest)) := by simp
  rw [ea, List.take_left' l1, ← List.drop_drop, List.drop_left' l1] at h
  simpa using h
 have O2 : Below w.heap.size w W2 := by
  rw [hW2]
  exact O1.trans ((Only.cells (g := w.heap.size) (F := [w.heap.size]) (by simp) [u] i (Only.refl _ W1)).below O1.size (by simp))
 rw [← hW2] at hcpA
 have hcpB : ∀ ty dl dc sc, dl = n - i → (Builtin.copy_ #[39, 39] ty #[.slice (some ⟨w.heap.size, i + 1, none⟩) dl dc, .slice (some ⟨g, i, none⟩) (n - i) sc]).run Tryz.prog W2.drew = .ok (goInt (cs.drop i).length) (W2.drew.setCells w.heap.size (i + 1) (cs.drop i)) := fun ty dl dc sc h1 =>
  run_copy_cells W2.drew _ _ ty 9 w.heap.size (i + 1) dl dc ⟨g, i, none⟩ (n - i) sc (cs.drop i) Tryz.underlying39 hsz (by rw [hdl, h1]; simp)
   (fun j v hj => by
     rw [hadd]
     refine (R.below O2 hbw).drew.cell' ?_
     rwa [List.getElem?_drop] at hj)
   (fun j hj => R2.drew.isS (by
     simp only [List.length_append, List.length_cons, List.length_take, List.length_drop] at hj hdl hml hrl ⊢; omega)) (fun j hj => R2.drew.frozen _) (fun v hv => h1c v (List.mem_of_mem_drop hv))
 have fin : ∀ W3, W3 = W2.drew.setCells w.heap.size (i + 1) (cs.drop i) → Row W3 w.heap.size 9 (cs.take i ++ u :: cs.drop i ++ rest) ∧ Below w.heap.size w W3 := by
  intro W3 hW3
  constructor
  · have h := R2.drew.cells (cs.drop i) (i + 1) (by simp only [List.length_append, List.length_cons, List.length_take, List.length_drop] at hdl hml hrl ⊢; omega)
    rw [← hW3] at h
    have l1 : (cs.take i ++ [u]).length = i + 1 := by rw [List.length_append, List.length_take]; simp; omega
    have e1 : cs.take i ++ u :: (mid.drop 1 ++ rest) = (cs.take i ++ [u]) ++ (mid.drop 1 ++ rest) := by simp
    rw [e1, List.take_left' l1, ← List.drop_drop, List.drop_left' l1, List.drop_left' (by rw [List.length_drop, hml, hdl]; omega)] at h
    simpa using h
  · rw [hW3]
    exact O2.drew.trans ((Only.cells (g := w.heap.size) (F := [w.heap.size]) (by simp) (cs.drop i) (i + 1) (Only.refl _ W2.drew)).below O2.size (by simp))
 have hfl : (cs.take i ++ u :: cs.drop i ++ rest).length = G := by simp only [List.length_append, List.length_cons, List.length_take, List.length_drop] at hdl hrl ⊢; omega
 have hw1 := IntWalk.i64_in ((i : Int) + 1) (by omega)
 have hw2 := IntWalk.i64_in ((n : Int) + 1) (by omega)
 have hw3 := IntWalk.i64_in ((n : Int) + 1 - (i : Int)) (by omega)
 have hb1 : (0 : Int) ≤ (i : Int) + 1 := by omega
 have hin : i ≤ n := by omega
 have htn : ((i : Int) + 1).toNat = i + 1 := by omega
 have hGi : ¬ (G = i) := by omega
 have hGim : ¬ (G = i + 1) := by omega
 have hci : ¬ (n = i) := by omega
 have hb3 : (i : Int) ≤ (n : Int) := by omega
 have hb4 : (n : Int) < (n : Int) + 1 := by omega
 have hb5 : (i : Int) + 1 ≤ (n : Int) + 1 := by omega
 have hb6 : i + 1 ≤ n + 1 := by omega
 have hb7 : i ≤ n + 1 := by omega
 have hb8 : (i : Int) ≤ (n : Int) + 1 := by omega
 unfold maxLen at hGm
 have HZ := Lib.hid hrz
 have hcpA1 := hcpA 3 (n + 1 - i) (G - i) rfl
 have HB := Lib.hid hcpB
 have HF := Lib.hid fin
 have HFL := Lib.hid hfl
 clear hcpA hcpB fin hfl R R1 R2 V h1c h1u hcl hsz hkk hik hadd hold hrz hml hrl hrow hW1 hW2 hln hdl hmid hrest O1 O2 hz0 hzs hzb hi0 hG
 go_enter Tryz.func151, Tryz.ntmps151
 go_wp2_with (at_builtin; refine Lib.wpList_append_run _ rfl (.tmp 34) (.tmp 39) _ _ rfl _ _ rfl rfl _ _ (HZ.out _) ?_)
 go_region_law (refine step_copy_runI rfl (.tmp 50) (.tmp 53) 39 39 rfl (.slice (some ⟨w.heap.size, i + 1, none⟩) (n + 1 - (i + 1)) (G - (i + 1))) (.slice (some ⟨g, i, none⟩) (n - i) (n - i)) (by simp [Act.eval, Act.put]) (by simp [Act.eval, Act.put]) (HB.out _ _ _ _ (by omega)) ?_)
 go_wp2_with fail
 go_ret
 exact ⟨G, rest, rfl, hGn, by unfold maxLen; omega, (HF.out _ rfl).1, HFL.out, (HF.out _ rfl).2⟩
set_option maxHeartbeats 1000000 in
theorem Insert_Str {xs : List (ByteArray)} {v : Value} {F Fy : List Nat} {y : ByteArray} {u : Value} (w : World) (h : ((str).slice 9).rep true w xs [v] F) (hy : (str).rep true w y [u] Fy) (hnd : (F ++ Fy).Nodup) (hx : xs.length ≤ 1048576) (vb : Nat) (hv : Row w vb 9 [u]) (hvb : vb ∉ F) (n : Int) (i : Nat) (hn : n = (i : Int)) (hi : i ≤ xs.length) :
 Calls Tryz.prog 151 #[v, .int .i64 n, .slice (some ⟨vb, 0, none⟩) 1 1] w (InsStr xs y i v F Fy w) := by
 subst hn
 by_cases hlt : i < xs.length
 · obtain ⟨g, c, cs, rest, G, rfl, hl, hc, hrow, hrp, hlen, rfl⟩ := row_of_slice h (by omega)
   have hcl : cs.length = xs.length := by have := repL_len hrp; rw [this]; exact Nat.mul_one _
   have hlen' : (cs ++ rest).length = c := by rw [hlen]; exact Nat.mul_one _
   have hvg : vb ≠ g := fun e => hvb (by simp [e])
   have h1u : u.oneCell' = true := (str).one hy u (by simp)
   have hnd' : g ∉ G ++ Fy ∧ (G ++ Fy).Nodup := List.nodup_cons.1 hnd
   obtain ⟨F1, F2, rfl, hp1, hp2⟩ := repL_at hrp i (by omega)
   rw [show i * (str).size = i from Nat.mul_one _] at hp1 hp2
   have hsub : ∀ B, Fresh B (g :: (F1 ++ F2) ++ Fy) → Fresh B (F1 ++ (Fy ++ F2)) := fun B hB => by
    have h2 : (F1 ++ F2 ++ Fy).Perm (F1 ++ (Fy ++ F2)) := by rw [List.append_assoc]; exact (List.perm_append_comm).append_left _
    exact ⟨h2.nodup_iff.1 hnd'.2, fun b hb => hB.2 b (by have := h2.mem_iff.2 hb; simp only [List.cons_append, List.mem_cons]; exact .inr this)⟩
   have hperm : ∀ b, b ∈ F1 ++ (Fy ++ F2) → b ≠ g := fun b hb e => hnd'.1 (by subst e; simp only [List.mem_append] at hb ⊢; rcases hb with hb | hb | hb <;> simp [hb])
   have mk : ∀ W : World, Only [g] w W → repL (str) true W (xs.take i ++ y :: xs.drop i) (cs.take i ++ u :: cs.drop i) (F1 ++ (Fy ++ F2)) := fun W hW => by
    have k1 := repL_kept hp1 fun b hb => hW.block b (repL_lt hp1 b hb) (by simpa using hperm b (by simp [hb]))
    have k2 := repL_kept hp2 fun b hb => hW.block b (repL_lt hp2 b hb) (by simpa using hperm b (by simp [hb]))
    have k3 := (str).kept hy fun b hb => hW.block b ((str).lt hy b hb) (by simpa using hperm b (by simp [hb]))
    exact repL_append k1 ⟨[u], _, Fy, F2, rfl, rfl, k3, k2⟩
   have hl2 : (xs.take i ++ y :: xs.drop i).length = xs.length + 1 := by simp only [List.length_append, List.length_take, List.length_cons, List.length_drop]; omega
   have hl3 : (cs.take i ++ u :: cs.drop i).length = xs.length + 1 := by simp only [List.length_append, List.length_take, List.length_cons, List.length_drop]; omega
   unfold maxLen at hc
   by_cases hroom : xs.length + 1 ≤ c
   · refine (Insert_shift_Str w g xs.length c i vb hrow hcl hlen' hlt hroom hc hv hvg (repL_one hrp) h1u).mono ?_
     rintro e' w' ⟨rfl, hw'⟩
     have hO : Only [g] w w' := by rw [hw']; exact Only.cells (by simp) _ _ (Only.cells (by simp) _ _ ⟨rfl, rfl, rfl, Nat.le_refl _, fun _ _ _ => rfl⟩)
     have hrow' : Row w' g 9 ((cs.take i ++ u :: cs.drop i) ++ rest.drop 1) := by
      have hdl : (cs.drop i).length = xs.length - i := by rw [List.length_drop, hcl]
      have R1 := hrow.drew.cells (cs.drop i) (i + 1) (by omega)
      have q1 : i + 1 + (cs.drop i).length = xs.length + 1 := by omega
      rw [q1] at R1
      have R2 := R1.cells [u] i (by simp only [List.length_append, List.length_take, List.length_drop] at hlen' ⊢; simp; omega)
      rw [← hw'] at R2
      have q2 : (cs ++ rest).drop (xs.length + 1) = rest.drop 1 := by rw [← List.drop_drop, List.drop_left' hcl]
      have q3 : (cs ++ rest).take (i + 1) = cs.take i ++ [cs[i]'(by omega)] := by
       rw [List.take_append_of_le_length (by omega), List.take_succ_eq_append_getElem (by omega)]
      have l1 : (cs.take i).length = i := by rw [List.length_take]; omega
      rw [q2, q3] at R2
      simp only [List.append_assoc, List.length_singleton] at R2
      rw [List.take_left' l1, ← List.drop_drop, List.drop_left' l1] at R2
      simpa using R2
     refine ⟨_, g :: (F1 ++ (Fy ++ F2)), rfl, slice_of_room hrow' (mk w' hO) hl2 (by omega) (by unfold maxLen; omega) ?_, fun B hB _ => ?_, hO.mono (by intro x hx; simp at hx; simp [hx]), fun b hb => .inl (by simp only [List.mem_append, List.mem_cons] at hb ⊢; rcases hb with hb | hb | hb | hb <;> simp [hb]), hO⟩
     · rw [List.length_append, hl3, List.length_drop, show c * (str).size = c from Nat.mul_one _]
       rw [List.length_append] at hlen'; omega
     · have := hsub B hB
       exact ⟨List.nodup_cons.2 ⟨fun hin => hperm g hin rfl, this.1⟩, fun b hb => by
        rcases List.mem_cons.1 hb with rfl | hb
        · exact hB.2 _ (by simp)
        · exact this.2 b hb⟩
   · have hcn : c = xs.length := by omega
     subst hcn
     have hr0 : rest = [] := List.eq_nil_of_length_eq_zero (by rw [List.length_append] at hlen'; omega)
     subst hr0
     rw [List.append_nil] at hrow
     refine (Insert_grow_Str w g xs.length i vb hrow hcl hlt hx hv (repL_one hrp) h1u).mono ?_
     rintro e' w' ⟨G', rest', rfl, hG1, hG2, R', hlen2, hb⟩
     refine ⟨_, w.heap.size :: (F1 ++ (Fy ++ F2)), rfl, slice_of_room R' (mk w' (Only.of_below hb)) hl2 hG1 hG2 (by rw [hlen2]; exact (Nat.mul_one _).symm), fun B hB hBs => ?_, Only.of_below hb, fun b hb => by
      rcases List.mem_cons.1 hb with rfl | hb
      · exact .inr (Nat.le_refl _)
      · exact .inl (by simp only [List.mem_append, List.mem_cons] at hb ⊢; rcases hb with hb | hb | hb <;> simp [hb]), Only.of_below hb⟩
     have := hsub B hB
     refine ⟨List.nodup_cons.2 ⟨fun hin => ?_, this.1⟩, fun b hb => by
      rcases List.mem_cons.1 hb with rfl | hb
      · exact hBs
      · exact this.2 b hb⟩
     have hlt2 := repL_lt (mk w (Only.refl _ _)) _ hin
     omega
 · obtain rfl : i = xs.length := by omega
   exact Insert_end_Str w h hy hnd hx vb hv _ rfl
def InsLine (xs : List (PLine)) (y : PLine) (i : Nat) (v : Value) (F Fy : List Nat) (w : World) (e' : Ending) (w' : World) : Prop :=
 ∃ u F', e' = .returned u ∧ ((pLine).slice 159).rep true w' (xs.take i ++ y :: xs.drop i) [u] F' ∧ (∀ B, Fresh B (F ++ Fy) → B ≤ w.heap.size → Fresh B F') ∧ Only F w w' ∧ (∀ b ∈ F', b ∈ F ++ Fy ∨ w.heap.size ≤ b) ∧ Only v.ownBlock.toList w w'
set_option maxRecDepth 100000 in
set_option maxHeartbeats 1000000 in
theorem Insert_end_Line {xs : List (PLine)} {v : Value} {F Fy : List Nat} {y : PLine} {u : Value} (w : World) (h : ((pLine).slice 159).rep true w xs [v] F) (hy : (pLine).rep true w y [u] Fy) (hnd : (F ++ Fy).Nodup) (hx : xs.length ≤ 1048576) (vb : Nat) (hv : Row w vb 159 [u]) (n : Nat) (hn : n = xs.length) :
 Calls Tryz.prog 153 #[v, .int .i64 (n : Int), .slice (some ⟨vb, 0, none⟩) 1 1] w (InsLine xs y n v F Fy w) := by
 have e1 : xs.take n ++ y :: xs.drop n = xs ++ [y] := by rw [hn]; simp
 unfold InsLine
 rw [e1]
 obtain ⟨A, c, hvv, hl, hc, _⟩ := slice_open h
 rw [← hn] at hvv hl hx
 subst hvv
 have HR := Lib.hid h
 have HY := Lib.hid (repL_single.2 hy)
 have HN := Lib.hid hnd
 have hat : CellsAt w (some ⟨vb, 0, none⟩) [u] := fun _ => ⟨vb, 0, rfl, fun j v hj => by rw [Nat.zero_add]; exact hv.cell' hj⟩
 have HA := Lib.hid hat
 have HX := Lib.hid hn
 clear h hy hnd hat hn e1 hv
 unfold maxLen at hc
 by_cases hcn : c = n
 all_goals
  go_enter Tryz.func153, Tryz.ntmps153
  go_wp2_with (at_builtin; refine wpList_append_repX (T := pLine) (e := 159) (ys := [y]) rfl (.tmp 23) (.tmp 24) rfl Tryz.underlying68 Tryz.infoLine rfl (by decide) rfl HR.out rfl HY.out HA.out (by simp) HN.out (by rw [← HX.out]; simp [maxLen]; omega) (by rw [← HX.out]; simp; omega) ?_; intro v2 w2 F2 r2 o2 q2 p2)
  go_ret
  exact ⟨_, F2, rfl, r2, q2, o2, p2.1, p2.2.1⟩
set_option maxRecDepth 100000 in
set_option maxHeartbeats 1000000 in
theorem Insert_shift_Line {cs rest : List Value} {u : Value} (w : World) (g n c i vb : Nat) (R : Row w g 159 (cs ++ rest)) (hcl : cs.length = n) (hrl : (cs ++ rest).length = c) (hi : i < n) (hroom : n + 1 ≤ c) (hc63 : c ≤ 9223372036854775807)
 (V : Row w vb 159 [u]) (hvb : vb ≠ g) (h1c : ∀ v ∈ cs, v.oneCell' = true) (h1u : u.oneCell' = true) :
 Calls Tryz.prog 153 #[.slice (some ⟨g, 0, none⟩) n c, .int .i64 (i : Int), .slice (some ⟨vb, 0, none⟩) 1 1] w fun e' w' =>
  e' = .returned (.slice (some ⟨g, 0, none⟩) (n + 1) c) ∧ w' = (w.drew.setCells g (i + 1) (cs.drop i)).setCells g i [u] := by
 have hz2 : ¬ ((i : Int) = (n : Int)) := by omega
 have hsz : (Tryz.prog.info? 159).map (·.size) = some 1 := by kernel_rfl
 have hov : ∀ lb cb, (callFunc 176 #[.slice (some ⟨vb, 0, none⟩) 1 1, .slice (some ⟨g, i + 1, none⟩) lb cb]).run Tryz.prog w = .ok (.value (.bool false)) w := fun lb cb => by
  rw [run_callFunc_extern Tryz.func176 (by kernel_rfl) (by kernel_rfl) (by kernel_rfl) (e := Extern.SlicesOverlaps.overlaps #[68, 68] #[4]) (by kernel_rfl),
   Lib.run_overlaps_apart w 68 4 159 Tryz.underlying68 1 (fun _ => by kernel_rfl) ⟨vb, 0, none⟩ ⟨g, i + 1, none⟩ 1 1 lb cb hvb 159 159 1 c (by simpa using V.shape) (by rw [R.shape, hrl]) (by omega) (V.frozen _) (V.frozen _)]
  rfl
 have hdl : (cs.drop i).length = n - i := by rw [List.length_drop, hcl]
 have hw1 := IntWalk.i64_in ((i : Int) + 1) (by omega)
 have hw2 := IntWalk.i64_in ((n : Int) + 1) (by omega)
 have hb1 : (0 : Int) ≤ (i : Int) + 1 := by omega
 have hb0 : (0 : Int) ≤ (n : Int) + 1 := by omega
 have hin : i ≤ n := by omega
 have htn : ((i : Int) + 1).toNat = i + 1 := by omega
 have htn2 : ((n : Int) + 1).toNat = n + 1 := by omega
 have hb2 : ¬ (c = i + 1) := by omega
 have hb3 : (i : Int) ≤ (n : Int) + 1 := by omega
 have hb4 : ¬ (c = i) := by omega
 have hb5 : (i : Int) + 1 ≤ (n : Int) + 1 := by omega
 have hb6 : i ≤ n + 1 := by omega
 have hb7 : i + 1 ≤ n + 1 := by omega
 have hb8 : ¬ ((c : Int) < (n : Int) + 1) := by omega
 have hb9 : (n : Int) + 1 ≤ (c : Int) := by omega
 have isS : ∀ k, k < c → (w.cell? ⟨g, k, none⟩).isSome = true := fun k hk => R.isS (by omega)
 have hcp1 : ∀ ty dl dc sl sc, dl = n - i → sl = n + 1 - i → (Builtin.copy_ #[68, 68] ty #[.slice (some ⟨g, i + 1, none⟩) dl dc, .slice (some ⟨g, i, none⟩) sl sc]).run Tryz.prog w.drew = .ok (goInt (cs.drop i).length) (w.drew.setCells g (i + 1) (cs.drop i)) := fun ty dl dc sl sc h1 h2 =>
  run_copy_cells w.drew _ _ ty 159 g (i + 1) dl dc ⟨g, i, none⟩ sl sc (cs.drop i) Tryz.underlying68 hsz (by rw [hdl, h1, h2]; simp only [Nat.min_def]; split <;> omega)
   (fun j v hj => by
     have hj' : j < (cs.drop i).length := (List.getElem?_eq_some_iff.1 hj).1
     have ea : ((⟨g, i, none⟩ : Addr).add j) = ⟨g, i + j, none⟩ := by unfold Addr.add; split <;> simp_all
     rw [ea]
     refine R.drew.cell' ?_
     rw [List.getElem?_append_left (by omega)]
     rwa [List.getElem?_drop] at hj)
   (fun j hj => R.drew.isS (by omega)) (fun j hj => R.drew.frozen _) (fun v hv => h1c v (List.mem_of_mem_drop hv))
 obtain ⟨W1, hW1⟩ : ∃ W1, W1 = w.drew.setCells g (i + 1) (cs.drop i) := ⟨_, rfl⟩
 have R1 : Row W1 g 159 ((cs ++ rest).take (i + 1) ++ cs.drop i ++ (cs ++ rest).drop (i + 1 + (cs.drop i).length)) := by
  rw [hW1]; exact R.drew.cells _ _ (by rw [hdl]; omega)
 have V1 : Row W1 vb 159 [u] := by
  rw [hW1]
  exact (Only.cells (g := g) (F := [g]) (by simp) (cs.drop i) (i + 1) (Only.refl _ w.drew)).block vb V.lt (by simpa using hvb) |>.trans V
 have hlen1 : ((cs ++ rest).take (i + 1) ++ cs.drop i ++ (cs ++ rest).drop (i + 1 + (cs.drop i).length)).length = c := by
  simp only [List.length_append, List.length_take, List.length_drop] at hrl hdl ⊢; omega
 have hcp2 : ∀ ty dl dc, dl = n + 1 - i → (Builtin.copy_ #[68, 68] ty #[.slice (some ⟨g, i, none⟩) dl dc, .slice (some ⟨vb, 0, none⟩) 1 1]).run Tryz.prog W1 = .ok (goInt [u].length) (W1.setCells g i [u]) := fun ty dl dc h1 =>
  run_copy_cells W1 _ _ ty 159 g i dl dc ⟨vb, 0, none⟩ 1 1 [u] Tryz.underlying68 hsz (by rw [h1]; simp only [Nat.min_def, List.length_singleton]; split <;> omega)
   (fun j v hj => by
     have ea : ((⟨vb, 0, none⟩ : Addr).add j) = ⟨vb, j, none⟩ := by unfold Addr.add; split <;> simp_all
     rw [ea]; exact V1.cell' hj)
   (fun j hj => R1.isS (by rw [hlen1]; simp at hj; omega)) (fun j hj => R1.frozen _) (by simpa using h1u)
 rw [← hW1] at hcp1
 have H1 := Lib.hid hcp1
 have H2 := Lib.hid hcp2
 have HW := Lib.hid hW1
 have HO := Lib.hid hov
 clear hcp1 hcp2 hW1 hov isS R1 V1 hlen1 h1c hsz R V hdl hrl hcl
 go_enter Tryz.func153, Tryz.ntmps153
 go_wp2_with (simp only [HO.out])
 go_region_law (refine step_copy_runI rfl (.tmp 73) (.tmp 76) 68 68 rfl (.slice (some ⟨g, i + 1, none⟩) (n + 1 - (i + 1)) (c - (i + 1))) (.slice (some ⟨g, i, none⟩) (n + 1 - i) (c - i)) (by simp [Act.eval, Act.put]) (by simp [Act.eval, Act.put]) (H1.out _ _ _ _ _ (by omega) rfl) ?_)
 have hcp2 := H2.out 3 (n + 1 - i) (c - i) rfl
 go_wp2_with fail
 go_ret
 exact ⟨rfl, by rw [HW.out]⟩
set_option maxRecDepth 100000 in
set_option maxHeartbeats 1000000 in
theorem Insert_grow_Line {cs : List Value} {u : Value} (w : World) (g n i vb : Nat) (R : Row w g 159 cs) (hcl : cs.length = n) (hi : i < n) (hc63 : n ≤ 1048576)
 (V : Row w vb 159 [u]) (h1c : ∀ v ∈ cs, v.oneCell' = true) (h1u : u.oneCell' = true) :
 Calls Tryz.prog 153 #[.slice (some ⟨g, 0, none⟩) n n, .int .i64 (i : Int), .slice (some ⟨vb, 0, none⟩) 1 1] w fun e' w' =>
  ∃ G rest, e' = .returned (.slice (some ⟨w.heap.size, 0, none⟩) (n + 1) G) ∧ n + 1 ≤ G ∧ G ≤ maxLen ∧ Row w' w.heap.size 159 (cs.take i ++ u :: cs.drop i ++ rest) ∧ (cs.take i ++ u :: cs.drop i ++ rest).length = G ∧ Below w.heap.size w w' := by
 obtain ⟨i0, hi0, hz0, hzs, hzb⟩ := info_parts Tryz.infoLine
 have hz2 : ¬ ((i : Int) = (n : Int)) := by omega
 have hsz : (Tryz.prog.info? 159).map (·.size) = some 1 := by kernel_rfl
 have hbw := R.lt
 have hvw := V.lt
 have hkk : (n : Int) + 1 - (i : Int) = ((n + 1 - i : Nat) : Int) := by omega
 have hik : i + (n + 1 - i) = n + 1 := by omega
 have hadd : ∀ b o j, ((⟨b, o, none⟩ : Addr).add j) = ⟨b, o + j, none⟩ := fun b o j => by unfold Addr.add; split <;> simp_all
 have hold : (Builtin.firstCells i0.size i (.slice (some ⟨g, 0, none⟩) i n)).run Tryz.prog w.drew = .ok (cs.take i).toArray w.drew := by
  rw [hzs]
  exact run_firstCells_some w.drew 1 i ⟨g, 0, none⟩ i n (cs.take i) (by rw [List.length_take]; omega) (fun j v hj => by
   rw [hadd, Nat.zero_add]
   rw [List.getElem?_take] at hj
   split at hj
   · exact R.drew.cell' hj
   · cases hj)
 have hrz : ∀ ty, (Builtin.append_ #[68, 3] ty #[.slice (some ⟨g, 0, none⟩) i n, .int .i64 ((n : Int) + 1 - (i : Int))]).run Tryz.prog w =
  .ok (.slice (some ⟨w.heap.size, 0, none⟩) (n + 1) (grownCap w (n + 1) n 159)) (w.drew.alloc (.cells ((cs.take i).toArray ++ Builtin.zeroCells (Value.agg #[.slice none 0 0]).cells (n + 1 - i) ++ Builtin.zeroCells (Value.agg #[.slice none 0 0]).cells (grownCap w (n + 1) n 159 - (n + 1))) 159)) := fun ty => by
  have h := Lib.run_append_grow_zeros w 68 3 ty 159 i0 _ .i64 .i64 Tryz.underlying68 Tryz.underlying3 hi0 hz0 (some ⟨g, 0, none⟩) i n (cs.take i) hold (n + 1 - i) (by omega) (by rw [hzs]; decide) (by omega) (by omega) (by rw [hzb]; omega) (by rw [hzb, hik]; exact growslice_fits (by omega) (by omega))
  rw [hik] at h
  rw [hkk]
  exact h
 obtain ⟨G, hG⟩ : ∃ G, G = grownCap w (n + 1) n 159 := ⟨_, rfl⟩
 have hGn : n + 1 ≤ G := by rw [hG]; exact grownCap_ge w _ _ _
 have hGm : G ≤ maxLen := by rw [hG]; exact grownCap_le_maxLen w (n + 1) n 159 (by unfold maxLen; omega)
 rw [← hG] at hrz
 obtain ⟨mid, hmid⟩ : ∃ mid : List Value, mid = (Builtin.zeroCells (Value.agg #[.slice none 0 0]).cells (n + 1 - i)).toList := ⟨_, rfl⟩
 obtain ⟨rest, hrest⟩ : ∃ rest : List Value, rest = (Builtin.zeroCells (Value.agg #[.slice none 0 0]).cells (G - (n + 1))).toList := ⟨_, rfl⟩
 have hml : mid.length = n + 1 - i := by rw [hmid]; simp [Builtin.zeroCells, Value.cells]
 have hrl : rest.length = G - (n + 1) := by rw [hrest]; simp [Builtin.zeroCells, Value.cells]
 have hrow : (cs.take i).toArray ++ Builtin.zeroCells (Value.agg #[.slice none 0 0]).cells (n + 1 - i) ++ Builtin.zeroCells (Value.agg #[.slice none 0 0]).cells (G - (n + 1)) = (cs.take i ++ mid ++ rest).toArray := by
  rw [hmid, hrest]; simp
 rw [hrow] at hrz
 obtain ⟨W1, hW1⟩ : ∃ W1, W1 = w.drew.alloc (.cells (cs.take i ++ mid ++ rest).toArray 159) := ⟨_, rfl⟩
 have R1 : Row W1 w.heap.size 159 (cs.take i ++ mid ++ rest) := by rw [hW1]; exact Row.new w.drew _ _
 have O1 : Below w.heap.size w W1 := by rw [hW1]; exact (Below.refl _ _).drew.alloc (Nat.le_refl _) _
 rw [← hW1] at hrz
 have hln : (cs.take i ++ mid ++ rest).length = G := by simp only [List.length_append, List.length_take]; omega
 have hdl : (cs.drop i).length = n - i := by rw [List.length_drop, hcl]
 have hcpA : ∀ ty dl dc, dl = n + 1 - i → (Builtin.copy_ #[68, 68] ty #[.slice (some ⟨w.heap.size, i, none⟩) dl dc, .slice (some ⟨vb, 0, none⟩) 1 1]).run Tryz.prog W1 = .ok (goInt [u].length) (W1.setCells w.heap.size i [u]) := fun ty dl dc h1 =>
  run_copy_cells W1 _ _ ty 159 w.heap.size i dl dc ⟨vb, 0, none⟩ 1 1 [u] Tryz.underlying68 hsz (by rw [h1]; simp only [Nat.min_def, List.length_singleton]; split <;> omega)
   (fun j v hj => by rw [hadd, Nat.zero_add]; exact (V.below O1 hvw).cell' hj)
   (fun j hj => R1.isS (by rw [hln]; simp at hj; omega)) (fun j hj => R1.frozen _) (by simpa using h1u)
 obtain ⟨W2, hW2⟩ : ∃ W2, W2 = W1.setCells w.heap.size i [u] := ⟨_, rfl⟩
 have R2 : Row W2 w.heap.size 159 (cs.take i ++ u :: (mid.drop 1 ++ rest)) := by
  have h := R1.cells [u] i (by rw [hln]; simp; omega)
  rw [← hW2] at h
  have l1 : (cs.take i).length = i := by rw [List.length_take]; omega
  obtain ⟨m0, mid', rfl⟩ : ∃ m0 mid', mid = m0 :: mid' := by
   cases mid with
   | nil => simp at hml; omega
   | cons a b => exact ⟨_, _, rfl⟩
  have ea : cs.take i ++ m0 :: mid' ++ rest = cs.take i ++ (m0 :: (mid' ++ rest)) := by simp
  rw [ea, List.take_left' l1, ← List.drop_drop, List.drop_left' l1] at h
  simpa using h
 have O2 : Below w.heap.size w W2 := by
  rw [hW2]
  exact O1.trans ((Only.cells (g := w.heap.size) (F := [w.heap.size]) (by simp) [u] i (Only.refl _ W1)).below O1.size (by simp))
 rw [← hW2] at hcpA
 have hcpB : ∀ ty dl dc sc, dl = n - i → (Builtin.copy_ #[68, 68] ty #[.slice (some ⟨w.heap.size, i + 1, none⟩) dl dc, .slice (some ⟨g, i, none⟩) (n - i) sc]).run Tryz.prog W2.drew = .ok (goInt (cs.drop i).length) (W2.drew.setCells w.heap.size (i + 1) (cs.drop i)) := fun ty dl dc sc h1 =>
  run_copy_cells W2.drew _ _ ty 159 w.heap.size (i + 1) dl dc ⟨g, i, none⟩ (n - i) sc (cs.drop i) Tryz.underlying68 hsz (by rw [hdl, h1]; simp)
   (fun j v hj => by
     rw [hadd]
     refine (R.below O2 hbw).drew.cell' ?_
     rwa [List.getElem?_drop] at hj)
   (fun j hj => R2.drew.isS (by
     simp only [List.length_append, List.length_cons, List.length_take, List.length_drop] at hj hdl hml hrl ⊢; omega)) (fun j hj => R2.drew.frozen _) (fun v hv => h1c v (List.mem_of_mem_drop hv))
 have fin : ∀ W3, W3 = W2.drew.setCells w.heap.size (i + 1) (cs.drop i) → Row W3 w.heap.size 159 (cs.take i ++ u :: cs.drop i ++ rest) ∧ Below w.heap.size w W3 := by
  intro W3 hW3
  constructor
  · have h := R2.drew.cells (cs.drop i) (i + 1) (by simp only [List.length_append, List.length_cons, List.length_take, List.length_drop] at hdl hml hrl ⊢; omega)
    rw [← hW3] at h
    have l1 : (cs.take i ++ [u]).length = i + 1 := by rw [List.length_append, List.length_take]; simp; omega
    have e1 : cs.take i ++ u :: (mid.drop 1 ++ rest) = (cs.take i ++ [u]) ++ (mid.drop 1 ++ rest) := by simp
    rw [e1, List.take_left' l1, ← List.drop_drop, List.drop_left' l1, List.drop_left' (by rw [List.length_drop, hml, hdl]; omega)] at h
    simpa using h
  · rw [hW3]
    exact O2.drew.trans ((Only.cells (g := w.heap.size) (F := [w.heap.size]) (by simp) (cs.drop i) (i + 1) (Only.refl _ W2.drew)).below O2.size (by simp))
 have hfl : (cs.take i ++ u :: cs.drop i ++ rest).length = G := by simp only [List.length_append, List.length_cons, List.length_take, List.length_drop] at hdl hrl ⊢; omega
 have hw1 := IntWalk.i64_in ((i : Int) + 1) (by omega)
 have hw2 := IntWalk.i64_in ((n : Int) + 1) (by omega)
 have hw3 := IntWalk.i64_in ((n : Int) + 1 - (i : Int)) (by omega)
 have hb1 : (0 : Int) ≤ (i : Int) + 1 := by omega
 have hin : i ≤ n := by omega
 have htn : ((i : Int) + 1).toNat = i + 1 := by omega
 have hGi : ¬ (G = i) := by omega
 have hGim : ¬ (G = i + 1) := by omega
 have hci : ¬ (n = i) := by omega
 have hb3 : (i : Int) ≤ (n : Int) := by omega
 have hb4 : (n : Int) < (n : Int) + 1 := by omega
 have hb5 : (i : Int) + 1 ≤ (n : Int) + 1 := by omega
 have hb6 : i + 1 ≤ n + 1 := by omega
 have hb7 : i ≤ n + 1 := by omega
 have hb8 : (i : Int) ≤ (n : Int) + 1 := by omega
 unfold maxLen at hGm
 have HZ := Lib.hid hrz
 have hcpA1 := hcpA 3 (n + 1 - i) (G - i) rfl
 have HB := Lib.hid hcpB
 have HF := Lib.hid fin
 have HFL := Lib.hid hfl
 clear hcpA hcpB fin hfl R R1 R2 V h1c h1u hcl hsz hkk hik hadd hold hrz hml hrl hrow hW1 hW2 hln hdl hmid hrest O1 O2 hz0 hzs hzb hi0 hG
 go_enter Tryz.func153, Tryz.ntmps153
 go_wp2_with (at_builtin; refine Lib.wpList_append_run _ rfl (.tmp 34) (.tmp 39) _ _ rfl _ _ rfl rfl _ _ (HZ.out _) ?_)
 go_region_law (refine step_copy_runI rfl (.tmp 50) (.tmp 53) 68 68 rfl (.slice (some ⟨w.heap.size, i + 1, none⟩) (n + 1 - (i + 1)) (G - (i + 1))) (.slice (some ⟨g, i, none⟩) (n - i) (n - i)) (by simp [Act.eval, Act.put]) (by simp [Act.eval, Act.put]) (HB.out _ _ _ _ (by omega)) ?_)
 go_wp2_with fail
 go_ret
 exact ⟨G, rest, rfl, hGn, by unfold maxLen; omega, (HF.out _ rfl).1, HFL.out, (HF.out _ rfl).2⟩
set_option maxHeartbeats 1000000 in
theorem Insert_Line {xs : List (PLine)} {v : Value} {F Fy : List Nat} {y : PLine} {u : Value} (w : World) (h : ((pLine).slice 159).rep true w xs [v] F) (hy : (pLine).rep true w y [u] Fy) (hnd : (F ++ Fy).Nodup) (hx : xs.length ≤ 1048576) (vb : Nat) (hv : Row w vb 159 [u]) (hvb : vb ∉ F) (n : Int) (i : Nat) (hn : n = (i : Int)) (hi : i ≤ xs.length) :
 Calls Tryz.prog 153 #[v, .int .i64 n, .slice (some ⟨vb, 0, none⟩) 1 1] w (InsLine xs y i v F Fy w) := by
 subst hn
 by_cases hlt : i < xs.length
 · obtain ⟨g, c, cs, rest, G, rfl, hl, hc, hrow, hrp, hlen, rfl⟩ := row_of_slice h (by omega)
   have hcl : cs.length = xs.length := by have := repL_len hrp; rw [this]; exact Nat.mul_one _
   have hlen' : (cs ++ rest).length = c := by rw [hlen]; exact Nat.mul_one _
   have hvg : vb ≠ g := fun e => hvb (by simp [e])
   have h1u : u.oneCell' = true := (pLine).one hy u (by simp)
   have hnd' : g ∉ G ++ Fy ∧ (G ++ Fy).Nodup := List.nodup_cons.1 hnd
   obtain ⟨F1, F2, rfl, hp1, hp2⟩ := repL_at hrp i (by omega)
   rw [show i * (pLine).size = i from Nat.mul_one _] at hp1 hp2
   have hsub : ∀ B, Fresh B (g :: (F1 ++ F2) ++ Fy) → Fresh B (F1 ++ (Fy ++ F2)) := fun B hB => by
    have h2 : (F1 ++ F2 ++ Fy).Perm (F1 ++ (Fy ++ F2)) := by rw [List.append_assoc]; exact (List.perm_append_comm).append_left _
    exact ⟨h2.nodup_iff.1 hnd'.2, fun b hb => hB.2 b (by have := h2.mem_iff.2 hb; simp only [List.cons_append, List.mem_cons]; exact .inr this)⟩
   have hperm : ∀ b, b ∈ F1 ++ (Fy ++ F2) → b ≠ g := fun b hb e => hnd'.1 (by subst e; simp only [List.mem_append] at hb ⊢; rcases hb with hb | hb | hb <;> simp [hb])
   have mk : ∀ W : World, Only [g] w W → repL (pLine) true W (xs.take i ++ y :: xs.drop i) (cs.take i ++ u :: cs.drop i) (F1 ++ (Fy ++ F2)) := fun W hW => by
    have k1 := repL_kept hp1 fun b hb => hW.block b (repL_lt hp1 b hb) (by simpa using hperm b (by simp [hb]))
    have k2 := repL_kept hp2 fun b hb => hW.block b (repL_lt hp2 b hb) (by simpa using hperm b (by simp [hb]))
    have k3 := (pLine).kept hy fun b hb => hW.block b ((pLine).lt hy b hb) (by simpa using hperm b (by simp [hb]))
    exact repL_append k1 ⟨[u], _, Fy, F2, rfl, rfl, k3, k2⟩
   have hl2 : (xs.take i ++ y :: xs.drop i).length = xs.length + 1 := by simp only [List.length_append, List.length_take, List.length_cons, List.length_drop]; omega
   have hl3 : (cs.take i ++ u :: cs.drop i).length = xs.length + 1 := by simp only [List.length_append, List.length_take, List.length_cons, List.length_drop]; omega
   unfold maxLen at hc
   by_cases hroom : xs.length + 1 ≤ c
   · refine (Insert_shift_Line w g xs.length c i vb hrow hcl hlen' hlt hroom hc hv hvg (repL_one hrp) h1u).mono ?_
     rintro e' w' ⟨rfl, hw'⟩
     have hO : Only [g] w w' := by rw [hw']; exact Only.cells (by simp) _ _ (Only.cells (by simp) _ _ ⟨rfl, rfl, rfl, Nat.le_refl _, fun _ _ _ => rfl⟩)
     have hrow' : Row w' g 159 ((cs.take i ++ u :: cs.drop i) ++ rest.drop 1) := by
      have hdl : (cs.drop i).length = xs.length - i := by rw [List.length_drop, hcl]
      have R1 := hrow.drew.cells (cs.drop i) (i + 1) (by omega)
      have q1 : i + 1 + (cs.drop i).length = xs.length + 1 := by omega
      rw [q1] at R1
      have R2 := R1.cells [u] i (by simp only [List.length_append, List.length_take, List.length_drop] at hlen' ⊢; simp; omega)
      rw [← hw'] at R2
      have q2 : (cs ++ rest).drop (xs.length + 1) = rest.drop 1 := by rw [← List.drop_drop, List.drop_left' hcl]
      have q3 : (cs ++ rest).take (i + 1) = cs.take i ++ [cs[i]'(by omega)] := by
       rw [List.take_append_of_le_length (by omega), List.take_succ_eq_append_getElem (by omega)]
      have l1 : (cs.take i).length = i := by rw [List.length_take]; omega
      rw [q2, q3] at R2
      simp only [List.append_assoc, List.length_singleton] at R2
      rw [List.take_left' l1, ← List.drop_drop, List.drop_left' l1] at R2
      simpa using R2
     refine ⟨_, g :: (F1 ++ (Fy ++ F2)), rfl, slice_of_room hrow' (mk w' hO) hl2 (by omega) (by unfold maxLen; omega) ?_, fun B hB _ => ?_, hO.mono (by intro x hx; simp at hx; simp [hx]), fun b hb => .inl (by simp only [List.mem_append, List.mem_cons] at hb ⊢; rcases hb with hb | hb | hb | hb <;> simp [hb]), hO⟩
     · rw [List.length_append, hl3, List.length_drop, show c * (pLine).size = c from Nat.mul_one _]
       rw [List.length_append] at hlen'; omega
     · have := hsub B hB
       exact ⟨List.nodup_cons.2 ⟨fun hin => hperm g hin rfl, this.1⟩, fun b hb => by
        rcases List.mem_cons.1 hb with rfl | hb
        · exact hB.2 _ (by simp)
        · exact this.2 b hb⟩
   · have hcn : c = xs.length := by omega
     subst hcn
     have hr0 : rest = [] := List.eq_nil_of_length_eq_zero (by rw [List.length_append] at hlen'; omega)
     subst hr0
     rw [List.append_nil] at hrow
     refine (Insert_grow_Line w g xs.length i vb hrow hcl hlt hx hv (repL_one hrp) h1u).mono ?_
     rintro e' w' ⟨G', rest', rfl, hG1, hG2, R', hlen2, hb⟩
     refine ⟨_, w.heap.size :: (F1 ++ (Fy ++ F2)), rfl, slice_of_room R' (mk w' (Only.of_below hb)) hl2 hG1 hG2 (by rw [hlen2]; exact (Nat.mul_one _).symm), fun B hB hBs => ?_, Only.of_below hb, fun b hb => by
      rcases List.mem_cons.1 hb with rfl | hb
      · exact .inr (Nat.le_refl _)
      · exact .inl (by simp only [List.mem_append, List.mem_cons] at hb ⊢; rcases hb with hb | hb | hb <;> simp [hb]), Only.of_below hb⟩
     have := hsub B hB
     refine ⟨List.nodup_cons.2 ⟨fun hin => ?_, this.1⟩, fun b hb => by
      rcases List.mem_cons.1 hb with rfl | hb
      · exact hBs
      · exact this.2 b hb⟩
     have hlt2 := repL_lt (mk w (Only.refl _ _)) _ hin
     omega
 · obtain rfl : i = xs.length := by omega
   exact Insert_end_Line w h hy hnd hx vb hv _ rfl
end Go.Proofs.YtboijogahclekaaGreatDoor
