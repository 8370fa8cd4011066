/- What it costs to join two boxes, in the program. Conditions: none. -/
import Derived.Test.YtmopioaojdlnkaaTkt
import Derived.Test.YtmopioaojdlnkaaInt
namespace Go.Proofs.Ytmopioaojdlnkaa
open Go Go.RowKit
theorem and12 {p1 p2 p3 p4 p5 p6 p7 p8 p9 p10 p11 p12 : Prop} (h1 : p1) (h2 : p2) (h3 : p3) (h4 : p4) (h5 : p5) (h6 : p6) (h7 : p7) (h8 : p8) (h9 : p9) (h10 : p10) (h11 : p11) (h12 : p12) : p1 ∧ p2 ∧ p3 ∧ p4 ∧ p5 ∧ p6 ∧ p7 ∧ p8 ∧ p9 ∧ p10 ∧ p11 ∧ p12 := ⟨h1, h2, h3, h4, h5, h6, h7, h8, h9, h10, h11, h12⟩
theorem three_boxes (w : World) (a b s : PBox) : Row (((w.alloc (.cells #[.int .i64 a.x1, .int .i64 a.y1, .int .i64 a.x2, .int .i64 a.y2] 48)).alloc (.cells #[.int .i64 b.x1, .int .i64 b.y1, .int .i64 b.x2, .int .i64 b.y2] 48)).alloc (.cells #[.int .i64 s.x1, .int .i64 s.y1, .int .i64 s.x2, .int .i64 s.y2] 48)) w.heap.size 48 (#[.int .i64 a.x1, .int .i64 a.y1, .int .i64 a.x2, .int .i64 a.y2]).toList ∧ Row (((w.alloc (.cells #[.int .i64 a.x1, .int .i64 a.y1, .int .i64 a.x2, .int .i64 a.y2] 48)).alloc (.cells #[.int .i64 b.x1, .int .i64 b.y1, .int .i64 b.x2, .int .i64 b.y2] 48)).alloc (.cells #[.int .i64 s.x1, .int .i64 s.y1, .int .i64 s.x2, .int .i64 s.y2] 48)) (w.heap.size + 1) 48 (#[.int .i64 b.x1, .int .i64 b.y1, .int .i64 b.x2, .int .i64 b.y2]).toList ∧ Row (((w.alloc (.cells #[.int .i64 a.x1, .int .i64 a.y1, .int .i64 a.x2, .int .i64 a.y2] 48)).alloc (.cells #[.int .i64 b.x1, .int .i64 b.y1, .int .i64 b.x2, .int .i64 b.y2] 48)).alloc (.cells #[.int .i64 s.x1, .int .i64 s.y1, .int .i64 s.x2, .int .i64 s.y2] 48)) (w.heap.size + 1 + 1) 48 (#[.int .i64 s.x1, .int .i64 s.y1, .int .i64 s.x2, .int .i64 s.y2]).toList := by
 refine ⟨((Row.new w _ _).alloc _).alloc _, ?_, ?_⟩
 · have := (Row.new (w.alloc (.cells #[.int .i64 a.x1, .int .i64 a.y1, .int .i64 a.x2, .int .i64 a.y2] 48)) 48 #[.int .i64 b.x1, .int .i64 b.y1, .int .i64 b.x2, .int .i64 b.y2]).alloc (.cells #[.int .i64 s.x1, .int .i64 s.y1, .int .i64 s.x2, .int .i64 s.y2] 48)
   simpa using this
 · have := Row.new ((w.alloc (.cells #[.int .i64 a.x1, .int .i64 a.y1, .int .i64 a.x2, .int .i64 a.y2] 48)).alloc (.cells #[.int .i64 b.x1, .int .i64 b.y1, .int .i64 b.x2, .int .i64 b.y2] 48)) 48 #[.int .i64 s.x1, .int .i64 s.y1, .int .i64 s.x2, .int .i64 s.y2]
   simpa using this
theorem absI_le {n m : Int} (h : -m ≤ n ∧ n ≤ m) : 0 ≤ absI n ∧ absI n ≤ m := by
 unfold absI; split <;> omega
theorem ret_pair {a b : Int} {c d : Bool} (h : a = b) (h' : c = d) : Ending.returned (.tuple #[.int .i64 a, .bool c]) = .returned (.tuple #[.int .i64 b, .bool d]) := by rw [h, h']
set_option maxRecDepth 100000 in
set_option maxHeartbeats 4000000 in
theorem impl_joinCost_c (kind : Int) (a b s : PBox) (w : World) (ha : boxIn a) (hb : boxIn b) (hs : boxIn s) :
 Calls Try.prog 83 #[.int .i64 kind, .agg #[.int .i64 a.x1, .int .i64 a.y1, .int .i64 a.x2, .int .i64 a.y2], .agg #[.int .i64 b.x1, .int .i64 b.y1, .int .i64 b.x2, .int .i64 b.y2], .agg #[.int .i64 s.x1, .int .i64 s.y1, .int .i64 s.x2, .int .i64 s.y2]] w fun e w' => e = .returned (.tuple #[.int .i64 (ownF kind a b s), .bool (fitsF kind a b s)]) ∧ Below w.heap.size w w' := by
 have ha' := ha
 have hb' := hb
 have hs' := hs
 unfold boxIn at ha' hb' hs'
 by_cases k1 : kind = 1
 · subst k1
   have e1 := IntWalk.i64_in (a.y1 + a.y2) (by omega)
   have e2 := IntWalk.i64_in (a.y1 + a.y2 - b.y1) (by omega)
   have e3 := IntWalk.i64_in (a.y1 + a.y2 - b.y1 - b.y2) (by omega)
   have e4 := IntWalk.i64_in (b.x1 - a.x2) (by omega)
   have h1 := absI_le (n := a.y1 + a.y2 - b.y1 - b.y2) (m := 9000) (by omega)
   have e5 := IntWalk.i64_in (absI (a.y1 + a.y2 - b.y1 - b.y2)) (by omega)
   have e6 := IntWalk.i64_in (absI (a.y1 + a.y2 - b.y1 - b.y2) + (b.x1 - a.x2)) (by omega)
   by_cases hx : b.x1 - a.x2 < 0
   · go_enter Try.func83, Try.ntmps83
     go_wp2_with fail
     obtain ⟨Ra, Rb, Rs⟩ := three_boxes w a b s
     replace Ra := Ra.drew
     replace Rb := Rb.drew
     replace Rs := Rs.drew
     have hS : (fun w' => w'.cell? ⟨w.heap.size, 0, none⟩ = some (.int .i64 a.x1) ∧ w'.cell? ⟨w.heap.size, 1, none⟩ = some (.int .i64 a.y1) ∧ w'.cell? ⟨w.heap.size, 2, none⟩ = some (.int .i64 a.x2) ∧ w'.cell? ⟨w.heap.size, 3, none⟩ = some (.int .i64 a.y2) ∧ w'.cell? ⟨w.heap.size + 1, 0, none⟩ = some (.int .i64 b.x1) ∧ w'.cell? ⟨w.heap.size + 1, 1, none⟩ = some (.int .i64 b.y1) ∧ w'.cell? ⟨w.heap.size + 1, 2, none⟩ = some (.int .i64 b.x2) ∧ w'.cell? ⟨w.heap.size + 1, 3, none⟩ = some (.int .i64 b.y2) ∧ w'.cell? ⟨w.heap.size + 1 + 1, 0, none⟩ = some (.int .i64 s.x1) ∧ w'.cell? ⟨w.heap.size + 1 + 1, 1, none⟩ = some (.int .i64 s.y1) ∧ w'.cell? ⟨w.heap.size + 1 + 1, 2, none⟩ = some (.int .i64 s.x2) ∧ w'.cell? ⟨w.heap.size + 1 + 1, 3, none⟩ = some (.int .i64 s.y2)) (((w.alloc (.cells #[.int .i64 a.x1, .int .i64 a.y1, .int .i64 a.x2, .int .i64 a.y2] 48)).alloc (.cells #[.int .i64 b.x1, .int .i64 b.y1, .int .i64 b.x2, .int .i64 b.y2] 48)).alloc (.cells #[.int .i64 s.x1, .int .i64 s.y1, .int .i64 s.x2, .int .i64 s.y2] 48)).drew := ⟨Ra.c0, Ra.c1, Ra.c2, Ra.c3, Rb.c0, Rb.c1, Rb.c2, Rb.c3, Rs.c0, Rs.c1, Rs.c2, Rs.c3⟩
     dsimp only at hS
     have al : Below w.heap.size w (((w.alloc (.cells #[.int .i64 a.x1, .int .i64 a.y1, .int .i64 a.x2, .int .i64 a.y2] 48)).alloc (.cells #[.int .i64 b.x1, .int .i64 b.y1, .int .i64 b.x2, .int .i64 b.y2] 48)).alloc (.cells #[.int .i64 s.x1, .int .i64 s.y1, .int .i64 s.x2, .int .i64 s.y2] 48)).drew := ((((Below.refl _ _).alloc (Nat.le_refl _) _).alloc (by simp) _).alloc (by simp; omega) _).drew
     refine wp_region_held_drew (S := (fun w' => w'.cell? ⟨w.heap.size, 0, none⟩ = some (.int .i64 a.x1) ∧ w'.cell? ⟨w.heap.size, 1, none⟩ = some (.int .i64 a.y1) ∧ w'.cell? ⟨w.heap.size, 2, none⟩ = some (.int .i64 a.x2) ∧ w'.cell? ⟨w.heap.size, 3, none⟩ = some (.int .i64 a.y2) ∧ w'.cell? ⟨w.heap.size + 1, 0, none⟩ = some (.int .i64 b.x1) ∧ w'.cell? ⟨w.heap.size + 1, 1, none⟩ = some (.int .i64 b.y1) ∧ w'.cell? ⟨w.heap.size + 1, 2, none⟩ = some (.int .i64 b.x2) ∧ w'.cell? ⟨w.heap.size + 1, 3, none⟩ = some (.int .i64 b.y2) ∧ w'.cell? ⟨w.heap.size + 1 + 1, 0, none⟩ = some (.int .i64 s.x1) ∧ w'.cell? ⟨w.heap.size + 1 + 1, 1, none⟩ = some (.int .i64 s.y1) ∧ w'.cell? ⟨w.heap.size + 1 + 1, 2, none⟩ = some (.int .i64 s.x2) ∧ w'.cell? ⟨w.heap.size + 1 + 1, 3, none⟩ = some (.int .i64 s.y2))) (by kernel_rfl) hS (fun _ => ?_)
     refine tJ 0 hS ?_
     refine tJ 1 hS ?_
     refine tJ 2 hS ?_
     refine tJ 3 hS ?_
     refine tJ 4 hS ?_
     refine tJ 5 hS ?_
     refine tJ 6 hS ?_
     refine tJ 7 hS ?_
     refine tJ 8 hS ?_
     refine tJ 9 hS ?_
     refine tJ 10 hS ?_
     refine tC (i := 11) 92 #[Go.Operand.tmp 23] #[.int .i64 (a.y1 + a.y2 - b.y1 - b.y2)] Try.call92 (fun w => impl_abs_c _ w (by omega)) hS ?_
     simp only [Act.put, pA, pB, pC]
     refine tJ 12 hS ?_
     refine tJ 13 hS ?_
     refine tJ 14 hS ?_
     refine tJ 15 hS ?_
     refine tJ 16 hS ?_
     refine tJ 17 hS ?_
     refine tJ 18 hS ?_
     refine tJ 19 hS ?_
     refine tJ 20 hS ?_
     refine rJ 21 fun K hK => ?_
     refine step_call 93 #[.tmp 32, .tmp 33] _ rfl rfl #[.agg #[.int .i64 a.x1, .int .i64 a.y1, .int .i64 a.x2, .int .i64 a.y2], .agg #[.int .i64 b.x1, .int .i64 b.y1, .int .i64 b.x2, .int .i64 b.y2]] Try.call93 (by go_simp) (impl_relation_c a b _ ha hb) ?_
     rintro e w1 ⟨rfl, rfl⟩
     refine ⟨_, rfl, ?_⟩
     replace Ra := (Ra.alloc (.cells #[.int .i64 a.x1, .int .i64 a.y1, .int .i64 a.x2, .int .i64 a.y2] 48)).alloc (.cells #[.int .i64 b.x1, .int .i64 b.y1, .int .i64 b.x2, .int .i64 b.y2] 48)
     replace Rb := (Rb.alloc (.cells #[.int .i64 a.x1, .int .i64 a.y1, .int .i64 a.x2, .int .i64 a.y2] 48)).alloc (.cells #[.int .i64 b.x1, .int .i64 b.y1, .int .i64 b.x2, .int .i64 b.y2] 48)
     replace Rs := (Rs.alloc (.cells #[.int .i64 a.x1, .int .i64 a.y1, .int .i64 a.x2, .int .i64 a.y2] 48)).alloc (.cells #[.int .i64 b.x1, .int .i64 b.y1, .int .i64 b.x2, .int .i64 b.y2] 48)
     replace hS := and12 (Ra.c0) (Ra.c1) (Ra.c2) (Ra.c3) (Rb.c0) (Rb.c1) (Rb.c2) (Rb.c3) (Rs.c0) (Rs.c1) (Rs.c2) (Rs.c3)
     refine bJ hK hS ?_
     clear hK K
     simp only [Act.put, pA, pB, pC]
     refine tJ 22 hS ?_
     refine tJ 23 hS ?_
     refine tJ 24 hS ?_
     refine wpAnyH_done (by kernel_rfl) ?_ _
     go_wp2_with fail
     go_ret2
     exact ⟨ret_pair (by simp only [ownF, if_true]; omega) (by rw [Bool.eq_iff_iff]; simp [fitsF]), (al.alloc (by simp; omega) _).alloc (by simp; omega) _⟩
   · have hx' : 0 ≤ b.x1 - a.x2 := by omega
     go_enter Try.func83, Try.ntmps83
     go_wp2_with fail
     obtain ⟨Ra, Rb, Rs⟩ := three_boxes w a b s
     replace Ra := Ra.drew
     replace Rb := Rb.drew
     replace Rs := Rs.drew
     have hS : (fun w' => w'.cell? ⟨w.heap.size, 0, none⟩ = some (.int .i64 a.x1) ∧ w'.cell? ⟨w.heap.size, 1, none⟩ = some (.int .i64 a.y1) ∧ w'.cell? ⟨w.heap.size, 2, none⟩ = some (.int .i64 a.x2) ∧ w'.cell? ⟨w.heap.size, 3, none⟩ = some (.int .i64 a.y2) ∧ w'.cell? ⟨w.heap.size + 1, 0, none⟩ = some (.int .i64 b.x1) ∧ w'.cell? ⟨w.heap.size + 1, 1, none⟩ = some (.int .i64 b.y1) ∧ w'.cell? ⟨w.heap.size + 1, 2, none⟩ = some (.int .i64 b.x2) ∧ w'.cell? ⟨w.heap.size + 1, 3, none⟩ = some (.int .i64 b.y2) ∧ w'.cell? ⟨w.heap.size + 1 + 1, 0, none⟩ = some (.int .i64 s.x1) ∧ w'.cell? ⟨w.heap.size + 1 + 1, 1, none⟩ = some (.int .i64 s.y1) ∧ w'.cell? ⟨w.heap.size + 1 + 1, 2, none⟩ = some (.int .i64 s.x2) ∧ w'.cell? ⟨w.heap.size + 1 + 1, 3, none⟩ = some (.int .i64 s.y2)) (((w.alloc (.cells #[.int .i64 a.x1, .int .i64 a.y1, .int .i64 a.x2, .int .i64 a.y2] 48)).alloc (.cells #[.int .i64 b.x1, .int .i64 b.y1, .int .i64 b.x2, .int .i64 b.y2] 48)).alloc (.cells #[.int .i64 s.x1, .int .i64 s.y1, .int .i64 s.x2, .int .i64 s.y2] 48)).drew := ⟨Ra.c0, Ra.c1, Ra.c2, Ra.c3, Rb.c0, Rb.c1, Rb.c2, Rb.c3, Rs.c0, Rs.c1, Rs.c2, Rs.c3⟩
     dsimp only at hS
     have al : Below w.heap.size w (((w.alloc (.cells #[.int .i64 a.x1, .int .i64 a.y1, .int .i64 a.x2, .int .i64 a.y2] 48)).alloc (.cells #[.int .i64 b.x1, .int .i64 b.y1, .int .i64 b.x2, .int .i64 b.y2] 48)).alloc (.cells #[.int .i64 s.x1, .int .i64 s.y1, .int .i64 s.x2, .int .i64 s.y2] 48)).drew := ((((Below.refl _ _).alloc (Nat.le_refl _) _).alloc (by simp) _).alloc (by simp; omega) _).drew
     refine wp_region_held_drew (S := (fun w' => w'.cell? ⟨w.heap.size, 0, none⟩ = some (.int .i64 a.x1) ∧ w'.cell? ⟨w.heap.size, 1, none⟩ = some (.int .i64 a.y1) ∧ w'.cell? ⟨w.heap.size, 2, none⟩ = some (.int .i64 a.x2) ∧ w'.cell? ⟨w.heap.size, 3, none⟩ = some (.int .i64 a.y2) ∧ w'.cell? ⟨w.heap.size + 1, 0, none⟩ = some (.int .i64 b.x1) ∧ w'.cell? ⟨w.heap.size + 1, 1, none⟩ = some (.int .i64 b.y1) ∧ w'.cell? ⟨w.heap.size + 1, 2, none⟩ = some (.int .i64 b.x2) ∧ w'.cell? ⟨w.heap.size + 1, 3, none⟩ = some (.int .i64 b.y2) ∧ w'.cell? ⟨w.heap.size + 1 + 1, 0, none⟩ = some (.int .i64 s.x1) ∧ w'.cell? ⟨w.heap.size + 1 + 1, 1, none⟩ = some (.int .i64 s.y1) ∧ w'.cell? ⟨w.heap.size + 1 + 1, 2, none⟩ = some (.int .i64 s.x2) ∧ w'.cell? ⟨w.heap.size + 1 + 1, 3, none⟩ = some (.int .i64 s.y2))) (by kernel_rfl) hS (fun _ => ?_)
     refine tJ 0 hS ?_
     refine tJ 1 hS ?_
     refine tJ 2 hS ?_
     refine tJ 3 hS ?_
     refine tJ 4 hS ?_
     refine tJ 5 hS ?_
     refine tJ 6 hS ?_
     refine tJ 7 hS ?_
     refine tJ 8 hS ?_
     refine tJ 9 hS ?_
     refine tJ 10 hS ?_
     refine tC (i := 11) 92 #[Go.Operand.tmp 23] #[.int .i64 (a.y1 + a.y2 - b.y1 - b.y2)] Try.call92 (fun w => impl_abs_c _ w (by omega)) hS ?_
     simp only [Act.put, pA, pB, pC]
     refine tJ 12 hS ?_
     refine tJ 13 hS ?_
     refine tJ 14 hS ?_
     refine tJ 15 hS ?_
     refine tJ 16 hS ?_
     refine tJ 17 hS ?_
     refine tJ 18 hS ?_
     refine tJ 19 hS ?_
     refine tJ 20 hS ?_
     refine rJ 21 fun K hK => ?_
     refine step_call 93 #[.tmp 32, .tmp 33] _ rfl rfl #[.agg #[.int .i64 a.x1, .int .i64 a.y1, .int .i64 a.x2, .int .i64 a.y2], .agg #[.int .i64 b.x1, .int .i64 b.y1, .int .i64 b.x2, .int .i64 b.y2]] Try.call93 (by go_simp) (impl_relation_c a b _ ha hb) ?_
     rintro e w1 ⟨rfl, rfl⟩
     refine ⟨_, rfl, ?_⟩
     replace Ra := (Ra.alloc (.cells #[.int .i64 a.x1, .int .i64 a.y1, .int .i64 a.x2, .int .i64 a.y2] 48)).alloc (.cells #[.int .i64 b.x1, .int .i64 b.y1, .int .i64 b.x2, .int .i64 b.y2] 48)
     replace Rb := (Rb.alloc (.cells #[.int .i64 a.x1, .int .i64 a.y1, .int .i64 a.x2, .int .i64 a.y2] 48)).alloc (.cells #[.int .i64 b.x1, .int .i64 b.y1, .int .i64 b.x2, .int .i64 b.y2] 48)
     replace Rs := (Rs.alloc (.cells #[.int .i64 a.x1, .int .i64 a.y1, .int .i64 a.x2, .int .i64 a.y2] 48)).alloc (.cells #[.int .i64 b.x1, .int .i64 b.y1, .int .i64 b.x2, .int .i64 b.y2] 48)
     replace hS := and12 (Ra.c0) (Ra.c1) (Ra.c2) (Ra.c3) (Rb.c0) (Rb.c1) (Rb.c2) (Rb.c3) (Rs.c0) (Rs.c1) (Rs.c2) (Rs.c3)
     refine bJ hK hS ?_
     clear hK K
     simp only [Act.put, pA, pB, pC]
     refine tJ 22 hS ?_
     refine tJ 23 hS ?_
     refine tJ 24 hS ?_
     refine wpAnyH_done (by kernel_rfl) ?_ _
     go_wp2_with fail
     go_ret2
     exact ⟨ret_pair (by simp only [ownF, if_true]; omega) (by rw [Bool.eq_iff_iff]; simp [fitsF]), (al.alloc (by simp; omega) _).alloc (by simp; omega) _⟩
 · by_cases k2 : kind = 2
   · subst k2
     have e1 := IntWalk.i64_in (a.x1 + a.x2) (by omega)
     have e2 := IntWalk.i64_in (a.x1 + a.x2 - s.x1) (by omega)
     have e3 := IntWalk.i64_in (a.x1 + a.x2 - s.x1 - s.x2) (by omega)
     have e4 := IntWalk.i64_in (b.x1 + b.x2) (by omega)
     have e5 := IntWalk.i64_in (b.x1 + b.x2 - s.x1) (by omega)
     have e6 := IntWalk.i64_in (b.x1 + b.x2 - s.x1 - s.x2) (by omega)
     have h1 := absI_le (n := a.x1 + a.x2 - s.x1 - s.x2) (m := 9000) (by omega)
     have h2 := absI_le (n := b.x1 + b.x2 - s.x1 - s.x2) (m := 9000) (by omega)
     have e7 := IntWalk.i64_in (absI (a.x1 + a.x2 - s.x1 - s.x2) + absI (b.x1 + b.x2 - s.x1 - s.x2)) (by omega)
     by_cases hr : relF s a = 2
     · have g : (relF s a == 2) = true := by simp [hr]
       have R := Lib.hid hr
       clear hr
       go_enter Try.func83, Try.ntmps83
       go_wp2_with fail
       obtain ⟨Ra, Rb, Rs⟩ := three_boxes w a b s
       replace Ra := Ra.drew
       replace Rb := Rb.drew
       replace Rs := Rs.drew
       have hS : (fun w' => w'.cell? ⟨w.heap.size, 0, none⟩ = some (.int .i64 a.x1) ∧ w'.cell? ⟨w.heap.size, 1, none⟩ = some (.int .i64 a.y1) ∧ w'.cell? ⟨w.heap.size, 2, none⟩ = some (.int .i64 a.x2) ∧ w'.cell? ⟨w.heap.size, 3, none⟩ = some (.int .i64 a.y2) ∧ w'.cell? ⟨w.heap.size + 1, 0, none⟩ = some (.int .i64 b.x1) ∧ w'.cell? ⟨w.heap.size + 1, 1, none⟩ = some (.int .i64 b.y1) ∧ w'.cell? ⟨w.heap.size + 1, 2, none⟩ = some (.int .i64 b.x2) ∧ w'.cell? ⟨w.heap.size + 1, 3, none⟩ = some (.int .i64 b.y2) ∧ w'.cell? ⟨w.heap.size + 1 + 1, 0, none⟩ = some (.int .i64 s.x1) ∧ w'.cell? ⟨w.heap.size + 1 + 1, 1, none⟩ = some (.int .i64 s.y1) ∧ w'.cell? ⟨w.heap.size + 1 + 1, 2, none⟩ = some (.int .i64 s.x2) ∧ w'.cell? ⟨w.heap.size + 1 + 1, 3, none⟩ = some (.int .i64 s.y2)) (((w.alloc (.cells #[.int .i64 a.x1, .int .i64 a.y1, .int .i64 a.x2, .int .i64 a.y2] 48)).alloc (.cells #[.int .i64 b.x1, .int .i64 b.y1, .int .i64 b.x2, .int .i64 b.y2] 48)).alloc (.cells #[.int .i64 s.x1, .int .i64 s.y1, .int .i64 s.x2, .int .i64 s.y2] 48)).drew := ⟨Ra.c0, Ra.c1, Ra.c2, Ra.c3, Rb.c0, Rb.c1, Rb.c2, Rb.c3, Rs.c0, Rs.c1, Rs.c2, Rs.c3⟩
       dsimp only at hS
       have al : Below w.heap.size w (((w.alloc (.cells #[.int .i64 a.x1, .int .i64 a.y1, .int .i64 a.x2, .int .i64 a.y2] 48)).alloc (.cells #[.int .i64 b.x1, .int .i64 b.y1, .int .i64 b.x2, .int .i64 b.y2] 48)).alloc (.cells #[.int .i64 s.x1, .int .i64 s.y1, .int .i64 s.x2, .int .i64 s.y2] 48)).drew := ((((Below.refl _ _).alloc (Nat.le_refl _) _).alloc (by simp) _).alloc (by simp; omega) _).drew
       refine wp_region_held_drew (S := (fun w' => w'.cell? ⟨w.heap.size, 0, none⟩ = some (.int .i64 a.x1) ∧ w'.cell? ⟨w.heap.size, 1, none⟩ = some (.int .i64 a.y1) ∧ w'.cell? ⟨w.heap.size, 2, none⟩ = some (.int .i64 a.x2) ∧ w'.cell? ⟨w.heap.size, 3, none⟩ = some (.int .i64 a.y2) ∧ w'.cell? ⟨w.heap.size + 1, 0, none⟩ = some (.int .i64 b.x1) ∧ w'.cell? ⟨w.heap.size + 1, 1, none⟩ = some (.int .i64 b.y1) ∧ w'.cell? ⟨w.heap.size + 1, 2, none⟩ = some (.int .i64 b.x2) ∧ w'.cell? ⟨w.heap.size + 1, 3, none⟩ = some (.int .i64 b.y2) ∧ w'.cell? ⟨w.heap.size + 1 + 1, 0, none⟩ = some (.int .i64 s.x1) ∧ w'.cell? ⟨w.heap.size + 1 + 1, 1, none⟩ = some (.int .i64 s.y1) ∧ w'.cell? ⟨w.heap.size + 1 + 1, 2, none⟩ = some (.int .i64 s.x2) ∧ w'.cell? ⟨w.heap.size + 1 + 1, 3, none⟩ = some (.int .i64 s.y2))) (by kernel_rfl) hS (fun _ => ?_)
       refine tJ 0 hS ?_
       refine tJ 1 hS ?_
       refine tJ 2 hS ?_
       refine tJ 3 hS ?_
       refine tJ 4 hS ?_
       refine tJ 5 hS ?_
       refine tJ 6 hS ?_
       refine tJ 7 hS ?_
       refine tJ 8 hS ?_
       refine tJ 9 hS ?_
       refine tJ 10 hS ?_
       refine tC (i := 11) 92 #[Go.Operand.tmp 48] #[.int .i64 (a.x1 + a.x2 - s.x1 - s.x2)] Try.call92 (fun w => impl_abs_c _ w (by omega)) hS ?_
       simp only [Act.put, pA, pB, pC]
       refine tJ 12 hS ?_
       refine tJ 13 hS ?_
       refine tJ 14 hS ?_
       refine tJ 15 hS ?_
       refine tJ 16 hS ?_
       refine tJ 17 hS ?_
       refine tJ 18 hS ?_
       refine tJ 19 hS ?_
       refine tJ 20 hS ?_
       refine tJ 21 hS ?_
       refine tJ 22 hS ?_
       refine tC (i := 23) 92 #[Go.Operand.tmp 60] #[.int .i64 (b.x1 + b.x2 - s.x1 - s.x2)] Try.call92 (fun w => impl_abs_c _ w (by omega)) hS ?_
       simp only [Act.put, pA, pB, pC]
       refine tJ 24 hS ?_
       refine tJ 25 hS ?_
       refine tJ 26 hS ?_
       refine rJ 27 fun K hK => ?_
       refine step_call 93 #[.tmp 63, .tmp 64] _ rfl rfl #[.agg #[.int .i64 s.x1, .int .i64 s.y1, .int .i64 s.x2, .int .i64 s.y2], .agg #[.int .i64 a.x1, .int .i64 a.y1, .int .i64 a.x2, .int .i64 a.y2]] Try.call93 (by go_simp) (impl_relation_c s a _ hs ha) ?_
       rintro e w1 ⟨rfl, rfl⟩
       refine ⟨_, rfl, ?_⟩
       replace Ra := (Ra.alloc (.cells #[.int .i64 s.x1, .int .i64 s.y1, .int .i64 s.x2, .int .i64 s.y2] 48)).alloc (.cells #[.int .i64 a.x1, .int .i64 a.y1, .int .i64 a.x2, .int .i64 a.y2] 48)
       replace Rb := (Rb.alloc (.cells #[.int .i64 s.x1, .int .i64 s.y1, .int .i64 s.x2, .int .i64 s.y2] 48)).alloc (.cells #[.int .i64 a.x1, .int .i64 a.y1, .int .i64 a.x2, .int .i64 a.y2] 48)
       replace Rs := (Rs.alloc (.cells #[.int .i64 s.x1, .int .i64 s.y1, .int .i64 s.x2, .int .i64 s.y2] 48)).alloc (.cells #[.int .i64 a.x1, .int .i64 a.y1, .int .i64 a.x2, .int .i64 a.y2] 48)
       replace hS := and12 (Ra.c0) (Ra.c1) (Ra.c2) (Ra.c3) (Rb.c0) (Rb.c1) (Rb.c2) (Rb.c3) (Rs.c0) (Rs.c1) (Rs.c2) (Rs.c3)
       refine bJ hK hS ?_
       clear hK K
       simp only [Act.put, pA, pB, pC]
       refine tJ 28 hS ?_
       refine tJ 29 hS ?_
       refine tJ 30 hS ?_
       refine tJ 31 hS ?_
       refine rJ 32 fun K hK => ?_
       refine step_call 93 #[.tmp 68, .tmp 69] _ rfl rfl #[.agg #[.int .i64 s.x1, .int .i64 s.y1, .int .i64 s.x2, .int .i64 s.y2], .agg #[.int .i64 b.x1, .int .i64 b.y1, .int .i64 b.x2, .int .i64 b.y2]] Try.call93 (by go_simp) (impl_relation_c s b _ hs hb) ?_
       rintro e w2 ⟨rfl, rfl⟩
       refine ⟨_, rfl, ?_⟩
       replace Ra := (Ra.alloc (.cells #[.int .i64 s.x1, .int .i64 s.y1, .int .i64 s.x2, .int .i64 s.y2] 48)).alloc (.cells #[.int .i64 b.x1, .int .i64 b.y1, .int .i64 b.x2, .int .i64 b.y2] 48)
       replace Rb := (Rb.alloc (.cells #[.int .i64 s.x1, .int .i64 s.y1, .int .i64 s.x2, .int .i64 s.y2] 48)).alloc (.cells #[.int .i64 b.x1, .int .i64 b.y1, .int .i64 b.x2, .int .i64 b.y2] 48)
       replace Rs := (Rs.alloc (.cells #[.int .i64 s.x1, .int .i64 s.y1, .int .i64 s.x2, .int .i64 s.y2] 48)).alloc (.cells #[.int .i64 b.x1, .int .i64 b.y1, .int .i64 b.x2, .int .i64 b.y2] 48)
       replace hS := and12 (Ra.c0) (Ra.c1) (Ra.c2) (Ra.c3) (Rb.c0) (Rb.c1) (Rb.c2) (Rb.c3) (Rs.c0) (Rs.c1) (Rs.c2) (Rs.c3)
       refine bJ hK hS ?_
       clear hK K
       simp only [Act.put, pA, pB, pC]
       refine tJ 33 hS ?_
       refine tJ 34 hS ?_
       refine tJ 35 hS ?_
       refine tJ 36 hS ?_
       refine wpAnyH_done (by kernel_rfl) ?_ _
       go_wp2_with fail
       go_ret2
       exact ⟨ret_pair (by simp [ownF]) (by rw [Bool.eq_iff_iff]; simp [fitsF, R.out]), ((((al.alloc (by simp; omega) _).alloc (by simp; omega) _).alloc (by simp; omega) _).alloc (by simp; omega) _)⟩
     · have g : (relF s a == 2) = false := by simp [hr]
       have R := Lib.hid hr
       clear hr
       go_enter Try.func83, Try.ntmps83
       go_wp2_with fail
       obtain ⟨Ra, Rb, Rs⟩ := three_boxes w a b s
       replace Ra := Ra.drew
       replace Rb := Rb.drew
       replace Rs := Rs.drew
       have hS : (fun w' => w'.cell? ⟨w.heap.size, 0, none⟩ = some (.int .i64 a.x1) ∧ w'.cell? ⟨w.heap.size, 1, none⟩ = some (.int .i64 a.y1) ∧ w'.cell? ⟨w.heap.size, 2, none⟩ = some (.int .i64 a.x2) ∧ w'.cell? ⟨w.heap.size, 3, none⟩ = some (.int .i64 a.y2) ∧ w'.cell? ⟨w.heap.size + 1, 0, none⟩ = some (.int .i64 b.x1) ∧ w'.cell? ⟨w.heap.size + 1, 1, none⟩ = some (.int .i64 b.y1) ∧ w'.cell? ⟨w.heap.size + 1, 2, none⟩ = some (.int .i64 b.x2) ∧ w'.cell? ⟨w.heap.size + 1, 3, none⟩ = some (.int .i64 b.y2) ∧ w'.cell? ⟨w.heap.size + 1 + 1, 0, none⟩ = some (.int .i64 s.x1) ∧ w'.cell? ⟨w.heap.size + 1 + 1, 1, none⟩ = some (.int .i64 s.y1) ∧ w'.cell? ⟨w.heap.size + 1 + 1, 2, none⟩ = some (.int .i64 s.x2) ∧ w'.cell? ⟨w.heap.size + 1 + 1, 3, none⟩ = some (.int .i64 s.y2)) (((w.alloc (.cells #[.int .i64 a.x1, .int .i64 a.y1, .int .i64 a.x2, .int .i64 a.y2] 48)).alloc (.cells #[.int .i64 b.x1, .int .i64 b.y1, .int .i64 b.x2, .int .i64 b.y2] 48)).alloc (.cells #[.int .i64 s.x1, .int .i64 s.y1, .int .i64 s.x2, .int .i64 s.y2] 48)).drew := ⟨Ra.c0, Ra.c1, Ra.c2, Ra.c3, Rb.c0, Rb.c1, Rb.c2, Rb.c3, Rs.c0, Rs.c1, Rs.c2, Rs.c3⟩
       dsimp only at hS
       have al : Below w.heap.size w (((w.alloc (.cells #[.int .i64 a.x1, .int .i64 a.y1, .int .i64 a.x2, .int .i64 a.y2] 48)).alloc (.cells #[.int .i64 b.x1, .int .i64 b.y1, .int .i64 b.x2, .int .i64 b.y2] 48)).alloc (.cells #[.int .i64 s.x1, .int .i64 s.y1, .int .i64 s.x2, .int .i64 s.y2] 48)).drew := ((((Below.refl _ _).alloc (Nat.le_refl _) _).alloc (by simp) _).alloc (by simp; omega) _).drew
       refine wp_region_held_drew (S := (fun w' => w'.cell? ⟨w.heap.size, 0, none⟩ = some (.int .i64 a.x1) ∧ w'.cell? ⟨w.heap.size, 1, none⟩ = some (.int .i64 a.y1) ∧ w'.cell? ⟨w.heap.size, 2, none⟩ = some (.int .i64 a.x2) ∧ w'.cell? ⟨w.heap.size, 3, none⟩ = some (.int .i64 a.y2) ∧ w'.cell? ⟨w.heap.size + 1, 0, none⟩ = some (.int .i64 b.x1) ∧ w'.cell? ⟨w.heap.size + 1, 1, none⟩ = some (.int .i64 b.y1) ∧ w'.cell? ⟨w.heap.size + 1, 2, none⟩ = some (.int .i64 b.x2) ∧ w'.cell? ⟨w.heap.size + 1, 3, none⟩ = some (.int .i64 b.y2) ∧ w'.cell? ⟨w.heap.size + 1 + 1, 0, none⟩ = some (.int .i64 s.x1) ∧ w'.cell? ⟨w.heap.size + 1 + 1, 1, none⟩ = some (.int .i64 s.y1) ∧ w'.cell? ⟨w.heap.size + 1 + 1, 2, none⟩ = some (.int .i64 s.x2) ∧ w'.cell? ⟨w.heap.size + 1 + 1, 3, none⟩ = some (.int .i64 s.y2))) (by kernel_rfl) hS (fun _ => ?_)
       refine tJ 0 hS ?_
       refine tJ 1 hS ?_
       refine tJ 2 hS ?_
       refine tJ 3 hS ?_
       refine tJ 4 hS ?_
       refine tJ 5 hS ?_
       refine tJ 6 hS ?_
       refine tJ 7 hS ?_
       refine tJ 8 hS ?_
       refine tJ 9 hS ?_
       refine tJ 10 hS ?_
       refine tC (i := 11) 92 #[Go.Operand.tmp 48] #[.int .i64 (a.x1 + a.x2 - s.x1 - s.x2)] Try.call92 (fun w => impl_abs_c _ w (by omega)) hS ?_
       simp only [Act.put, pA, pB, pC]
       refine tJ 12 hS ?_
       refine tJ 13 hS ?_
       refine tJ 14 hS ?_
       refine tJ 15 hS ?_
       refine tJ 16 hS ?_
       refine tJ 17 hS ?_
       refine tJ 18 hS ?_
       refine tJ 19 hS ?_
       refine tJ 20 hS ?_
       refine tJ 21 hS ?_
       refine tJ 22 hS ?_
       refine tC (i := 23) 92 #[Go.Operand.tmp 60] #[.int .i64 (b.x1 + b.x2 - s.x1 - s.x2)] Try.call92 (fun w => impl_abs_c _ w (by omega)) hS ?_
       simp only [Act.put, pA, pB, pC]
       refine tJ 24 hS ?_
       refine tJ 25 hS ?_
       refine tJ 26 hS ?_
       refine rJ 27 fun K hK => ?_
       refine step_call 93 #[.tmp 63, .tmp 64] _ rfl rfl #[.agg #[.int .i64 s.x1, .int .i64 s.y1, .int .i64 s.x2, .int .i64 s.y2], .agg #[.int .i64 a.x1, .int .i64 a.y1, .int .i64 a.x2, .int .i64 a.y2]] Try.call93 (by go_simp) (impl_relation_c s a _ hs ha) ?_
       rintro e w1 ⟨rfl, rfl⟩
       refine ⟨_, rfl, ?_⟩
       replace Ra := (Ra.alloc (.cells #[.int .i64 s.x1, .int .i64 s.y1, .int .i64 s.x2, .int .i64 s.y2] 48)).alloc (.cells #[.int .i64 a.x1, .int .i64 a.y1, .int .i64 a.x2, .int .i64 a.y2] 48)
       replace Rb := (Rb.alloc (.cells #[.int .i64 s.x1, .int .i64 s.y1, .int .i64 s.x2, .int .i64 s.y2] 48)).alloc (.cells #[.int .i64 a.x1, .int .i64 a.y1, .int .i64 a.x2, .int .i64 a.y2] 48)
       replace Rs := (Rs.alloc (.cells #[.int .i64 s.x1, .int .i64 s.y1, .int .i64 s.x2, .int .i64 s.y2] 48)).alloc (.cells #[.int .i64 a.x1, .int .i64 a.y1, .int .i64 a.x2, .int .i64 a.y2] 48)
       replace hS := and12 (Ra.c0) (Ra.c1) (Ra.c2) (Ra.c3) (Rb.c0) (Rb.c1) (Rb.c2) (Rb.c3) (Rs.c0) (Rs.c1) (Rs.c2) (Rs.c3)
       refine bJ hK hS ?_
       clear hK K
       simp only [Act.put, pA, pB, pC]
       refine tJ 28 hS ?_
       refine tJ 29 hS ?_
       refine tJ0 30 hS ?_
       refine tJ0 31 hS ?_
       refine tJ0 32 hS ?_
       refine tJ0 33 hS ?_
       refine tJ 34 hS ?_
       refine tJ 35 hS ?_
       refine tJ 36 hS ?_
       refine wpAnyH_done (by kernel_rfl) ?_ _
       go_wp2_with fail
       go_ret2
       exact ⟨ret_pair (by simp [ownF]) (by rw [Bool.eq_iff_iff]; simp [fitsF, R.out]), (al.alloc (by simp; omega) _).alloc (by simp; omega) _⟩
   · by_cases k3 : kind = 3
     · subst k3
       have e1 := IntWalk.i64_in (b.x1 - a.x2) (by omega)
       have e2 := IntWalk.i64_in (b.y2 - a.y1) (by omega)
       have h1 := absI_le (n := b.x1 - a.x2) (m := 9000) (by omega)
       have h2 := absI_le (n := b.y2 - a.y1) (m := 9000) (by omega)
       have e3 := IntWalk.i64_in (absI (b.x1 - a.x2) + absI (b.y2 - a.y1)) (by omega)
       have e4 := IntWalk.i64_in (absI (b.x1 - a.x2) + absI (b.y2 - a.y1) + 20) (by omega)
       go_enter Try.func83, Try.ntmps83
       go_wp2_with fail
       obtain ⟨Ra, Rb, Rs⟩ := three_boxes w a b s
       replace Ra := Ra.drew
       replace Rb := Rb.drew
       replace Rs := Rs.drew
       have hS : (fun w' => w'.cell? ⟨w.heap.size, 0, none⟩ = some (.int .i64 a.x1) ∧ w'.cell? ⟨w.heap.size, 1, none⟩ = some (.int .i64 a.y1) ∧ w'.cell? ⟨w.heap.size, 2, none⟩ = some (.int .i64 a.x2) ∧ w'.cell? ⟨w.heap.size, 3, none⟩ = some (.int .i64 a.y2) ∧ w'.cell? ⟨w.heap.size + 1, 0, none⟩ = some (.int .i64 b.x1) ∧ w'.cell? ⟨w.heap.size + 1, 1, none⟩ = some (.int .i64 b.y1) ∧ w'.cell? ⟨w.heap.size + 1, 2, none⟩ = some (.int .i64 b.x2) ∧ w'.cell? ⟨w.heap.size + 1, 3, none⟩ = some (.int .i64 b.y2) ∧ w'.cell? ⟨w.heap.size + 1 + 1, 0, none⟩ = some (.int .i64 s.x1) ∧ w'.cell? ⟨w.heap.size + 1 + 1, 1, none⟩ = some (.int .i64 s.y1) ∧ w'.cell? ⟨w.heap.size + 1 + 1, 2, none⟩ = some (.int .i64 s.x2) ∧ w'.cell? ⟨w.heap.size + 1 + 1, 3, none⟩ = some (.int .i64 s.y2)) (((w.alloc (.cells #[.int .i64 a.x1, .int .i64 a.y1, .int .i64 a.x2, .int .i64 a.y2] 48)).alloc (.cells #[.int .i64 b.x1, .int .i64 b.y1, .int .i64 b.x2, .int .i64 b.y2] 48)).alloc (.cells #[.int .i64 s.x1, .int .i64 s.y1, .int .i64 s.x2, .int .i64 s.y2] 48)).drew := ⟨Ra.c0, Ra.c1, Ra.c2, Ra.c3, Rb.c0, Rb.c1, Rb.c2, Rb.c3, Rs.c0, Rs.c1, Rs.c2, Rs.c3⟩
       dsimp only at hS
       have al : Below w.heap.size w (((w.alloc (.cells #[.int .i64 a.x1, .int .i64 a.y1, .int .i64 a.x2, .int .i64 a.y2] 48)).alloc (.cells #[.int .i64 b.x1, .int .i64 b.y1, .int .i64 b.x2, .int .i64 b.y2] 48)).alloc (.cells #[.int .i64 s.x1, .int .i64 s.y1, .int .i64 s.x2, .int .i64 s.y2] 48)).drew := ((((Below.refl _ _).alloc (Nat.le_refl _) _).alloc (by simp) _).alloc (by simp; omega) _).drew
       refine wp_region_held_drew (S := (fun w' => w'.cell? ⟨w.heap.size, 0, none⟩ = some (.int .i64 a.x1) ∧ w'.cell? ⟨w.heap.size, 1, none⟩ = some (.int .i64 a.y1) ∧ w'.cell? ⟨w.heap.size, 2, none⟩ = some (.int .i64 a.x2) ∧ w'.cell? ⟨w.heap.size, 3, none⟩ = some (.int .i64 a.y2) ∧ w'.cell? ⟨w.heap.size + 1, 0, none⟩ = some (.int .i64 b.x1) ∧ w'.cell? ⟨w.heap.size + 1, 1, none⟩ = some (.int .i64 b.y1) ∧ w'.cell? ⟨w.heap.size + 1, 2, none⟩ = some (.int .i64 b.x2) ∧ w'.cell? ⟨w.heap.size + 1, 3, none⟩ = some (.int .i64 b.y2) ∧ w'.cell? ⟨w.heap.size + 1 + 1, 0, none⟩ = some (.int .i64 s.x1) ∧ w'.cell? ⟨w.heap.size + 1 + 1, 1, none⟩ = some (.int .i64 s.y1) ∧ w'.cell? ⟨w.heap.size + 1 + 1, 2, none⟩ = some (.int .i64 s.x2) ∧ w'.cell? ⟨w.heap.size + 1 + 1, 3, none⟩ = some (.int .i64 s.y2))) (by kernel_rfl) hS (fun _ => ?_)
       refine tJ 0 hS ?_
       refine tJ 1 hS ?_
       refine tJ 2 hS ?_
       refine tJ 3 hS ?_
       refine tJ 4 hS ?_
       refine tC (i := 5) 92 #[Go.Operand.tmp 79] #[.int .i64 (b.x1 - a.x2)] Try.call92 (fun w => impl_abs_c _ w (by omega)) hS ?_
       simp only [Act.put, pA, pB, pC]
       refine tJ 6 hS ?_
       refine tJ 7 hS ?_
       refine tJ 8 hS ?_
       refine tJ 9 hS ?_
       refine tJ 10 hS ?_
       refine tC (i := 11) 92 #[Go.Operand.tmp 85] #[.int .i64 (b.y2 - a.y1)] Try.call92 (fun w => impl_abs_c _ w (by omega)) hS ?_
       simp only [Act.put, pA, pB, pC]
       refine tJ 12 hS ?_
       refine tJ 13 hS ?_
       refine tJ 14 hS ?_
       refine tJ 15 hS ?_
       refine rJ 16 fun K hK => ?_
       refine step_call 93 #[.tmp 89, .tmp 90] _ rfl rfl #[.agg #[.int .i64 a.x1, .int .i64 a.y1, .int .i64 a.x2, .int .i64 a.y2], .agg #[.int .i64 b.x1, .int .i64 b.y1, .int .i64 b.x2, .int .i64 b.y2]] Try.call93 (by go_simp) (impl_relation_c a b _ ha hb) ?_
       rintro e w1 ⟨rfl, rfl⟩
       refine ⟨_, rfl, ?_⟩
       replace Ra := (Ra.alloc (.cells #[.int .i64 a.x1, .int .i64 a.y1, .int .i64 a.x2, .int .i64 a.y2] 48)).alloc (.cells #[.int .i64 b.x1, .int .i64 b.y1, .int .i64 b.x2, .int .i64 b.y2] 48)
       replace Rb := (Rb.alloc (.cells #[.int .i64 a.x1, .int .i64 a.y1, .int .i64 a.x2, .int .i64 a.y2] 48)).alloc (.cells #[.int .i64 b.x1, .int .i64 b.y1, .int .i64 b.x2, .int .i64 b.y2] 48)
       replace Rs := (Rs.alloc (.cells #[.int .i64 a.x1, .int .i64 a.y1, .int .i64 a.x2, .int .i64 a.y2] 48)).alloc (.cells #[.int .i64 b.x1, .int .i64 b.y1, .int .i64 b.x2, .int .i64 b.y2] 48)
       replace hS := and12 (Ra.c0) (Ra.c1) (Ra.c2) (Ra.c3) (Rb.c0) (Rb.c1) (Rb.c2) (Rb.c3) (Rs.c0) (Rs.c1) (Rs.c2) (Rs.c3)
       refine bJ hK hS ?_
       clear hK K
       simp only [Act.put, pA, pB, pC]
       refine tJ 17 hS ?_
       refine tJ 18 hS ?_
       refine tJ 19 hS ?_
       refine wpAnyH_done (by kernel_rfl) ?_ _
       go_wp2_with fail
       go_ret2
       exact ⟨ret_pair (by simp [ownF]) (by rw [Bool.eq_iff_iff]; simp [fitsF]), (al.alloc (by simp; omega) _).alloc (by simp; omega) _⟩
     · by_cases k4 : kind = 4
       · subst k4
         have e1 := IntWalk.i64_in (b.x1 - a.x2) (by omega)
         have e2 := IntWalk.i64_in (b.y1 - a.y2) (by omega)
         have h1 := absI_le (n := b.x1 - a.x2) (m := 9000) (by omega)
         have h2 := absI_le (n := b.y1 - a.y2) (m := 9000) (by omega)
         have e3 := IntWalk.i64_in (absI (b.x1 - a.x2) + absI (b.y1 - a.y2)) (by omega)
         have e4 := IntWalk.i64_in (absI (b.x1 - a.x2) + absI (b.y1 - a.y2) + 20) (by omega)
         go_enter Try.func83, Try.ntmps83
         go_wp2_with fail
         obtain ⟨Ra, Rb, Rs⟩ := three_boxes w a b s
         replace Ra := Ra.drew
         replace Rb := Rb.drew
         replace Rs := Rs.drew
         have hS : (fun w' => w'.cell? ⟨w.heap.size, 0, none⟩ = some (.int .i64 a.x1) ∧ w'.cell? ⟨w.heap.size, 1, none⟩ = some (.int .i64 a.y1) ∧ w'.cell? ⟨w.heap.size, 2, none⟩ = some (.int .i64 a.x2) ∧ w'.cell? ⟨w.heap.size, 3, none⟩ = some (.int .i64 a.y2) ∧ w'.cell? ⟨w.heap.size + 1, 0, none⟩ = some (.int .i64 b.x1) ∧ w'.cell? ⟨w.heap.size + 1, 1, none⟩ = some (.int .i64 b.y1) ∧ w'.cell? ⟨w.heap.size + 1, 2, none⟩ = some (.int .i64 b.x2) ∧ w'.cell? ⟨w.heap.size + 1, 3, none⟩ = some (.int .i64 b.y2) ∧ w'.cell? ⟨w.heap.size + 1 + 1, 0, none⟩ = some (.int .i64 s.x1) ∧ w'.cell? ⟨w.heap.size + 1 + 1, 1, none⟩ = some (.int .i64 s.y1) ∧ w'.cell? ⟨w.heap.size + 1 + 1, 2, none⟩ = some (.int .i64 s.x2) ∧ w'.cell? ⟨w.heap.size + 1 + 1, 3, none⟩ = some (.int .i64 s.y2)) (((w.alloc (.cells #[.int .i64 a.x1, .int .i64 a.y1, .int .i64 a.x2, .int .i64 a.y2] 48)).alloc (.cells #[.int .i64 b.x1, .int .i64 b.y1, .int .i64 b.x2, .int .i64 b.y2] 48)).alloc (.cells #[.int .i64 s.x1, .int .i64 s.y1, .int .i64 s.x2, .int .i64 s.y2] 48)).drew := ⟨Ra.c0, Ra.c1, Ra.c2, Ra.c3, Rb.c0, Rb.c1, Rb.c2, Rb.c3, Rs.c0, Rs.c1, Rs.c2, Rs.c3⟩
         dsimp only at hS
         have al : Below w.heap.size w (((w.alloc (.cells #[.int .i64 a.x1, .int .i64 a.y1, .int .i64 a.x2, .int .i64 a.y2] 48)).alloc (.cells #[.int .i64 b.x1, .int .i64 b.y1, .int .i64 b.x2, .int .i64 b.y2] 48)).alloc (.cells #[.int .i64 s.x1, .int .i64 s.y1, .int .i64 s.x2, .int .i64 s.y2] 48)).drew := ((((Below.refl _ _).alloc (Nat.le_refl _) _).alloc (by simp) _).alloc (by simp; omega) _).drew
         refine wp_region_held_drew (S := (fun w' => w'.cell? ⟨w.heap.size, 0, none⟩ = some (.int .i64 a.x1) ∧ w'.cell? ⟨w.heap.size, 1, none⟩ = some (.int .i64 a.y1) ∧ w'.cell? ⟨w.heap.size, 2, none⟩ = some (.int .i64 a.x2) ∧ w'.cell? ⟨w.heap.size, 3, none⟩ = some (.int .i64 a.y2) ∧ w'.cell? ⟨w.heap.size + 1, 0, none⟩ = some (.int .i64 b.x1) ∧ w'.cell? ⟨w.heap.size + 1, 1, none⟩ = some (.int .i64 b.y1) ∧ w'.cell? ⟨w.heap.size + 1, 2, none⟩ = some (.int .i64 b.x2) ∧ w'.cell? ⟨w.heap.size + 1, 3, none⟩ = some (.int .i64 b.y2) ∧ w'.cell? ⟨w.heap.size + 1 + 1, 0, none⟩ = some (.int .i64 s.x1) ∧ w'.cell? ⟨w.heap.size + 1 + 1, 1, none⟩ = some (.int .i64 s.y1) ∧ w'.cell? ⟨w.heap.size + 1 + 1, 2, none⟩ = some (.int .i64 s.x2) ∧ w'.cell? ⟨w.heap.size + 1 + 1, 3, none⟩ = some (.int .i64 s.y2))) (by kernel_rfl) hS (fun _ => ?_)
         refine tJ 0 hS ?_
         refine tJ 1 hS ?_
         refine tJ 2 hS ?_
         refine tJ 3 hS ?_
         refine tJ 4 hS ?_
         refine tC (i := 5) 92 #[Go.Operand.tmp 99] #[.int .i64 (b.x1 - a.x2)] Try.call92 (fun w => impl_abs_c _ w (by omega)) hS ?_
         simp only [Act.put, pA, pB, pC]
         refine tJ 6 hS ?_
         refine tJ 7 hS ?_
         refine tJ 8 hS ?_
         refine tJ 9 hS ?_
         refine tJ 10 hS ?_
         refine tC (i := 11) 92 #[Go.Operand.tmp 105] #[.int .i64 (b.y1 - a.y2)] Try.call92 (fun w => impl_abs_c _ w (by omega)) hS ?_
         simp only [Act.put, pA, pB, pC]
         refine tJ 12 hS ?_
         refine tJ 13 hS ?_
         refine tJ 14 hS ?_
         refine tJ 15 hS ?_
         refine rJ 16 fun K hK => ?_
         refine step_call 93 #[.tmp 109, .tmp 110] _ rfl rfl #[.agg #[.int .i64 a.x1, .int .i64 a.y1, .int .i64 a.x2, .int .i64 a.y2], .agg #[.int .i64 b.x1, .int .i64 b.y1, .int .i64 b.x2, .int .i64 b.y2]] Try.call93 (by go_simp) (impl_relation_c a b _ ha hb) ?_
         rintro e w1 ⟨rfl, rfl⟩
         refine ⟨_, rfl, ?_⟩
         replace Ra := (Ra.alloc (.cells #[.int .i64 a.x1, .int .i64 a.y1, .int .i64 a.x2, .int .i64 a.y2] 48)).alloc (.cells #[.int .i64 b.x1, .int .i64 b.y1, .int .i64 b.x2, .int .i64 b.y2] 48)
         replace Rb := (Rb.alloc (.cells #[.int .i64 a.x1, .int .i64 a.y1, .int .i64 a.x2, .int .i64 a.y2] 48)).alloc (.cells #[.int .i64 b.x1, .int .i64 b.y1, .int .i64 b.x2, .int .i64 b.y2] 48)
         replace Rs := (Rs.alloc (.cells #[.int .i64 a.x1, .int .i64 a.y1, .int .i64 a.x2, .int .i64 a.y2] 48)).alloc (.cells #[.int .i64 b.x1, .int .i64 b.y1, .int .i64 b.x2, .int .i64 b.y2] 48)
         replace hS := and12 (Ra.c0) (Ra.c1) (Ra.c2) (Ra.c3) (Rb.c0) (Rb.c1) (Rb.c2) (Rb.c3) (Rs.c0) (Rs.c1) (Rs.c2) (Rs.c3)
         refine bJ hK hS ?_
         clear hK K
         simp only [Act.put, pA, pB, pC]
         refine tJ 17 hS ?_
         refine tJ 18 hS ?_
         refine tJ 19 hS ?_
         refine wpAnyH_done (by kernel_rfl) ?_ _
         go_wp2_with fail
         go_ret2
         exact ⟨ret_pair (by simp [ownF]) (by rw [Bool.eq_iff_iff]; simp [fitsF]), (al.alloc (by simp; omega) _).alloc (by simp; omega) _⟩
       · by_cases k5 : kind = 5
         · subst k5
           go_enter Try.func83, Try.ntmps83
           go_wp2_with fail
           refine (impl_relation_c s a _ hs ha).mono ?_
           rintro e w1 ⟨rfl, rfl⟩
           go_wp2_with fail
           go_ret2
           exact ⟨ret_pair (by simp [ownF]) (by rw [Bool.eq_iff_iff]; simp [fitsF]), (((((Below.refl _ _).alloc (Nat.le_refl _) _).alloc (by simp) _).alloc (by simp; omega) _).alloc (by simp; omega) _).alloc (by simp; omega) _⟩
         · have g1 : (kind == 1) = false := by simp [k1]
           have g2 : (kind == 2) = false := by simp [k2]
           have g3 : (kind == 3) = false := by simp [k3]
           have g4 : (kind == 4) = false := by simp [k4]
           have g5 : (kind == 5) = false := by simp [k5]
           have r1 : ownF kind a b s = 0 := by simp [ownF, k1, k2, k3, k4]
           have r2 : fitsF kind a b s = false := by simp [fitsF, k1, k2, k3, k4, k5]
           rw [r1, r2]
           clear k1 k2 k3 k4 k5 r1 r2
           go_enter Try.func83, Try.ntmps83
           go_wp2_with fail
           go_ret2
           exact ⟨rfl, (((Below.refl _ _).alloc (Nat.le_refl _) _).alloc (by simp) _).alloc (by simp; omega) _⟩
end Go.Proofs.Ytmopioaojdlnkaa
