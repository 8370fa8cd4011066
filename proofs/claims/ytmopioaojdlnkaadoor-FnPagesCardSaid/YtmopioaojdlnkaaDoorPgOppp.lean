/- Pages: the opposite of a step. Conditions: none. -/
import Derived.Test.YtmopioaojdlnkaaDoorPgStepp
namespace Go.Proofs.YtmopioaojdlnkaaDoor
open Go Go.RowKit
set_option maxRecDepth 100000 in
set_option maxHeartbeats 1000000 in
theorem impl_opposite_c (s : PStep) (w : World) :
 Calls Tryd.prog 21 #[.agg #[.int .i64 s.kind, .int .i64 s.line, .int .i64 s.pos, .string s.word, .string s.old]] w fun e w' => e = .returned (.agg #[.int .i64 (oppS s).kind, .int .i64 (oppS s).line, .int .i64 (oppS s).pos, .string (oppS s).word, .string (oppS s).old]) ∧ Below w.heap.size w w' := by
 obtain ⟨kd, ln, ps, wd, od⟩ := s
 have b2 : ∀ x y : Obj, Below w.heap.size w ((w.alloc x).alloc y) := fun x y => ((Below.refl _ _).alloc (Nat.le_refl _) x).alloc (by simp) y
 by_cases h1 : kd = 1
 · subst h1
   go_enter Tryd.func21, Tryd.ntmps21
   go_wp2_with fail
   refine bodyPost_ret (v := .agg #[.int .i64 2, .int .i64 ln, .int .i64 ps, .string wd, .string od]) (by simp [results, Tryd.results21, go_sem]) rfl ⟨rfl, ?_⟩
   exact b2 _ _
 · have n1 : (kd == 1) = false := by simpa using h1
   by_cases h2 : kd = 2
   · subst h2
     go_enter Tryd.func21, Tryd.ntmps21
     go_wp2_with fail
     refine bodyPost_ret (v := .agg #[.int .i64 1, .int .i64 ln, .int .i64 ps, .string wd, .string od]) (by simp [results, Tryd.results21, go_sem]) rfl ⟨rfl, ?_⟩
     exact b2 _ _
   · have n2 : (kd == 2) = false := by simpa using h2
     by_cases h3 : kd = 3
     · subst h3
       go_enter Tryd.func21, Tryd.ntmps21
       go_wp2_with fail
       refine bodyPost_ret (v := .agg #[.int .i64 3, .int .i64 ln, .int .i64 ps, .string od, .string wd]) (by simp [results, Tryd.results21, go_sem]) rfl ⟨rfl, ?_⟩
       exact b2 _ _
     · have n3 : (kd == 3) = false := by simpa using h3
       by_cases h4 : kd = 4
       · subst h4
         go_enter Tryd.func21, Tryd.ntmps21
         go_wp2_with fail
         refine bodyPost_ret (v := .agg #[.int .i64 5, .int .i64 ln, .int .i64 ps, .string wd, .string od]) (by simp [results, Tryd.results21, go_sem]) rfl ⟨rfl, ?_⟩
         exact b2 _ _
       · have n4 : (kd == 4) = false := by simpa using h4
         by_cases h5 : kd = 5
         · subst h5
           go_enter Tryd.func21, Tryd.ntmps21
           go_wp2_with fail
           refine bodyPost_ret (v := .agg #[.int .i64 4, .int .i64 ln, .int .i64 ps, .string wd, .string od]) (by simp [results, Tryd.results21, go_sem]) rfl ⟨rfl, ?_⟩
           exact b2 _ _
         · have n5 : (kd == 5) = false := by simpa using h5
           go_enter Tryd.func21, Tryd.ntmps21
           go_wp2_with fail
           refine bodyPost_ret (v := .agg #[.int .i64 kd, .int .i64 ln, .int .i64 ps, .string wd, .string od]) (by simp [results, Tryd.results21, go_sem]) rfl ⟨by simp [oppS, h1, h2, h3, h4, h5], ?_⟩
           exact b2 _ _
set_option maxRecDepth 100000 in
set_option maxHeartbeats 1000000 in
theorem spec_l27Opposite_c (s : PStep) (w : World) :
 Calls Tryd.prog 65 #[.agg #[.int .i64 s.kind, .int .i64 s.line, .int .i64 s.pos, .string s.word, .string s.old]] w fun e w' => e = .returned (.agg #[.int .i64 (oppS s).kind, .int .i64 (oppS s).line, .int .i64 (oppS s).pos, .string (oppS s).word, .string (oppS s).old]) ∧ Below w.heap.size w w' := by
 obtain ⟨kd, ln, ps, wd, od⟩ := s
 have b2 : ∀ x y : Obj, Below w.heap.size w ((w.alloc x).alloc y) := fun x y => ((Below.refl _ _).alloc (Nat.le_refl _) x).alloc (by simp) y
 by_cases h1 : kd = 1
 · subst h1
   go_enter Tryd.func65, Tryd.ntmps65
   go_wp2_with fail
   refine bodyPost_ret (v := .agg #[.int .i64 2, .int .i64 ln, .int .i64 ps, .string wd, .string od]) (by simp [results, Tryd.results65, go_sem]) rfl ⟨rfl, ?_⟩
   exact b2 _ _
 · have n1 : (kd == 1) = false := by simpa using h1
   by_cases h2 : kd = 2
   · subst h2
     go_enter Tryd.func65, Tryd.ntmps65
     go_wp2_with fail
     refine bodyPost_ret (v := .agg #[.int .i64 1, .int .i64 ln, .int .i64 ps, .string wd, .string od]) (by simp [results, Tryd.results65, go_sem]) rfl ⟨rfl, ?_⟩
     exact b2 _ _
   · have n2 : (kd == 2) = false := by simpa using h2
     by_cases h3 : kd = 3
     · subst h3
       go_enter Tryd.func65, Tryd.ntmps65
       go_wp2_with fail
       refine bodyPost_ret (v := .agg #[.int .i64 3, .int .i64 ln, .int .i64 ps, .string od, .string wd]) (by simp [results, Tryd.results65, go_sem]) rfl ⟨rfl, ?_⟩
       exact b2 _ _
     · have n3 : (kd == 3) = false := by simpa using h3
       by_cases h4 : kd = 4
       · subst h4
         go_enter Tryd.func65, Tryd.ntmps65
         go_wp2_with fail
         refine bodyPost_ret (v := .agg #[.int .i64 5, .int .i64 ln, .int .i64 ps, .string wd, .string od]) (by simp [results, Tryd.results65, go_sem]) rfl ⟨rfl, ?_⟩
         exact b2 _ _
       · have n4 : (kd == 4) = false := by simpa using h4
         by_cases h5 : kd = 5
         · subst h5
           go_enter Tryd.func65, Tryd.ntmps65
           go_wp2_with fail
           refine bodyPost_ret (v := .agg #[.int .i64 4, .int .i64 ln, .int .i64 ps, .string wd, .string od]) (by simp [results, Tryd.results65, go_sem]) rfl ⟨rfl, ?_⟩
           exact b2 _ _
         · have n5 : (kd == 5) = false := by simpa using h5
           go_enter Tryd.func65, Tryd.ntmps65
           go_wp2_with fail
           refine bodyPost_ret (v := .agg #[.int .i64 kd, .int .i64 ln, .int .i64 ps, .string wd, .string od]) (by simp [results, Tryd.results65, go_sem]) rfl ⟨by simp [oppS, h1, h2, h3, h4, h5], ?_⟩
           exact b2 _ _
set_option maxHeartbeats 400000 in
theorem impl_ValidPage1_c (s : PStep) (w : World) :
 Calls Tryd.prog 42 #[.agg #[.int .i64 s.kind, .int .i64 s.line, .int .i64 s.pos, .string s.word, .string s.old]] w fun e w' => e = .returned (.agg #[.int .i64 s.kind, .int .i64 s.line, .int .i64 s.pos, .string s.word, .string s.old]) ∧ Below w.heap.size w w' := by
 go_enter Tryd.func42, Tryd.ntmps42
 go_wp2_with fail
 refine bodyPost_ret (v := .agg #[.int .i64 s.kind, .int .i64 s.line, .int .i64 s.pos, .string s.word, .string s.old]) (by simp [results, Tryd.results42, go_sem]) rfl ⟨rfl, ?_⟩
 exact ((Below.refl _ _).alloc (Nat.le_refl _) _).alloc (by simp) _
end Go.Proofs.YtmopioaojdlnkaaDoor
