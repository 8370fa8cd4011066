/- ReadEvent of the reference, whole. Conditions: none. -/
import Derived.Test.YtahoopmiipmgpaaDoorEvRd7
namespace Go.Proofs.YtahoopmiipmgpaaDoor
open Go Go.RowKit

set_option maxRecDepth 100000 in
set_option maxHeartbeats 4000000 in
theorem spec_ReadEvent_c (s : ByteArray) (w : World) (hs : s.size ≤ 1048576) :
    Calls Tryd.prog 10 #[.string s] w fun en w' => en = .returned (.tuple #[(if refOk s.data.toList = true then .agg #[.int .i64 (refE s.data.toList).kind, .int .i64 (refE s.data.toList).x, .int .i64 (refE s.data.toList).y, .int .i64 (refE s.data.toList).t] else .agg #[.int .i64 0, .int .i64 0, .int .i64 0, .int .i64 0]), .bool (refOk s.data.toList)]) ∧ Below w.heap.size w w' := by
  have R0 := Row.new w 32 #[.int .i64 0, .int .i64 0, .int .i64 0, .int .i64 0]
  have b0 : Below w.heap.size w (w.alloc (.cells #[.int .i64 0, .int .i64 0, .int .i64 0, .int .i64 0] 32)) := (Below.refl _ _).alloc (Nat.le_refl _) _
  go_enter Tryd.func10, Tryd.ntmps10
  go_wp2_with fail
  refine (spec_l26Read_c s _ hs).mono ?_
  generalize (w.alloc (.cells #[.int .i64 0, .int .i64 0, .int .i64 0, .int .i64 0] 32)) = wa at R0 b0
  rintro en w2 ⟨⟨ek, ex, ey, et⟩, rfl, hE, b2⟩
  replace R0 := R0.later b2
  replace b0 := b0.trans (b2.mono b0.size)
  dsimp only at hE ⊢
  have HE := Lib.hid hE
  clear hE b2
  have hlt := R0.lt
  go_upto_region 2 with fail
  have R4 := Row.new w2 32 #[.int .i64 ek, .int .i64 ex, .int .i64 ey, .int .i64 et]
  have b24 : Below w2.heap.size w2 (w2.alloc (.cells #[.int .i64 ek, .int .i64 ex, .int .i64 ey, .int .i64 et] 32)) := (Below.refl _ _).alloc (Nat.le_refl _) _
  replace R0 := R0.later b24
  replace b0 := b0.trans (b24.mono b0.size)
  clear b24
  generalize (w2.alloc (.cells #[.int .i64 ek, .int .i64 ex, .int .i64 ey, .int .i64 et] 32)) = w4 at R4 R0 b0 ⊢
  have r0 := R4.cell' (i := 0) rfl
  have r1 := R4.cell' (i := 1) rfl
  have r2 := R4.cell' (i := 2) rfl
  have r3 := R4.cell' (i := 3) rfl
  have s0 := R0.cell' (i := 0) rfl
  have s1 := R0.cell' (i := 1) rfl
  have s2 := R0.cell' (i := 2) rfl
  have s3 := R0.cell' (i := 3) rfl
  have f0 := R0.frozen 0
  have f1 := R0.frozen 1
  have f2 := R0.frozen 2
  have f3 := R0.frozen 3
  have key : ∀ a b d f : Int, Row ((((w4.setCell ⟨w.heap.size, 0, none⟩ (.int .i64 a)).setCell ⟨w.heap.size, 1, none⟩ (.int .i64 b)).setCell ⟨w.heap.size, 2, none⟩ (.int .i64 d)).setCell ⟨w.heap.size, 3, none⟩ (.int .i64 f)) w.heap.size 32 [.int .i64 a, .int .i64 b, .int .i64 d, .int .i64 f] ∧ Below w.heap.size w ((((w4.setCell ⟨w.heap.size, 0, none⟩ (.int .i64 a)).setCell ⟨w.heap.size, 1, none⟩ (.int .i64 b)).setCell ⟨w.heap.size, 2, none⟩ (.int .i64 d)).setCell ⟨w.heap.size, 3, none⟩ (.int .i64 f)) := fun a b d f =>
    ⟨four_cellsE R0 rfl _ _ _ _, (((b0.setCell (p := ⟨w.heap.size, 0, none⟩) (Nat.le_refl _) _).setCell (p := ⟨w.heap.size, 1, none⟩) (Nat.le_refl _) _).setCell (p := ⟨w.heap.size, 2, none⟩) (Nat.le_refl _) _).setCell (p := ⟨w.heap.size, 3, none⟩) (Nat.le_refl _) _⟩
  have KEY := Lib.hid key
  clear key
  cases ho : refOk s.data.toList
  · go_wp2_with fail
    all_goals
      obtain ⟨R9, b9⟩ := KEY.out 0 0 0 0
      clear s0 s1 s2 s3 f0 f1 f2 f3 r0 r1 r2 r3
      generalize (((w4.setCell ⟨w.heap.size, 0, none⟩ (.int .i64 0)).setCell ⟨w.heap.size, 1, none⟩ (.int .i64 0)).setCell ⟨w.heap.size, 2, none⟩ (.int .i64 0)).setCell ⟨w.heap.size, 3, none⟩ (.int .i64 0) = w9 at R9 b9 ⊢
      have z0 := R9.cell' (i := 0) rfl
      have z1 := R9.cell' (i := 1) rfl
      have z2 := R9.cell' (i := 2) rfl
      have z3 := R9.cell' (i := 3) rfl
      refine bodyPost_ret (v := .tuple #[.agg #[.int .i64 0, .int .i64 0, .int .i64 0, .int .i64 0], .bool false]) (by simp [results, Tryd.results10, go_sem, z0, z1, z2, z3]) rfl ?_
      exact ⟨by simp, b9⟩
  · have h2 := HE.out ho
    go_wp2_with fail
    all_goals
      obtain ⟨R9, b9⟩ := KEY.out ek ex ey et
      clear s0 s1 s2 s3 f0 f1 f2 f3 r0 r1 r2 r3
      generalize (((w4.setCell ⟨w.heap.size, 0, none⟩ (.int .i64 ek)).setCell ⟨w.heap.size, 1, none⟩ (.int .i64 ex)).setCell ⟨w.heap.size, 2, none⟩ (.int .i64 ey)).setCell ⟨w.heap.size, 3, none⟩ (.int .i64 et) = w9 at R9 b9 ⊢
      have z0 := R9.cell' (i := 0) rfl
      have z1 := R9.cell' (i := 1) rfl
      have z2 := R9.cell' (i := 2) rfl
      have z3 := R9.cell' (i := 3) rfl
      refine bodyPost_ret (v := .tuple #[.agg #[.int .i64 ek, .int .i64 ex, .int .i64 ey, .int .i64 et], .bool true]) (by simp [results, Tryd.results10, go_sem, z0, z1, z2, z3]) rfl ?_
      exact ⟨by simp [← h2], b9⟩
end Go.Proofs.YtahoopmiipmgpaaDoor
