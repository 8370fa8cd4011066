/- Pages: is a step possible? Conditions: none. -/
import Derived.Test.YtboijogahclekaaGreatDoorPgCopyk
namespace Go.Proofs.YtboijogahclekaaGreatDoor
open Go Go.RowKit
theorem canB_line {ls : List PLine} {s : PStep} (h : inRP s.line 0 ((ls.length : Int) - 1) = false) : canB ls s = false := by
 have h' : ¬ (0 ≤ s.line ∧ s.line ≤ (ls.length : Int) - 1) := fun e => by rw [(inR_iff _ _ _).2 e] at h; cases h
 cases hc : canB ls s
 · rfl
 · simp only [canB, Bool.and_eq_true, decide_eq_true_eq] at hc
   exact absurd ⟨hc.1, hc.2.1⟩ h'
def canK (ls : List PLine) (s : PStep) (n m : Int) : Bool :=
 if s.kind = 1 then inRP s.pos 0 n && (decide (n < 12) && (isWordB s.word && decide (s.old = .empty)))
 else if s.kind = 2 then inRP s.pos 0 (n - 1) && (decide ((lineAt ls s.line).getD s.pos.toNat .empty = s.word) && decide (s.old = .empty))
 else if s.kind = 3 then inRP s.pos 0 (n - 1) && (decide ((lineAt ls s.line).getD s.pos.toNat .empty = s.old) && isWordB s.word)
 else if s.kind = 4 then inRP s.pos 0 n && (decide ((ls.length : Int) < 20) && (decide (s.word = .empty) && decide (s.old = .empty)))
 else if s.kind = 5 then decide (s.line + 1 < (ls.length : Int)) && (decide (s.pos = n) && (decide (n + m ≤ 12) && (decide (s.word = .empty) && decide (s.old = .empty))))
 else false
theorem canB_kind {ls : List PLine} {s : PStep} (h : inRP s.line 0 ((ls.length : Int) - 1) = true) : canB ls s = canK ls s (lineAt ls s.line).length (lineAt ls (s.line + 1)).length := by
 obtain ⟨h1, h2⟩ := (inR_iff _ _ _).1 h
 simp [canB, canK, inRP, h1, h2, Bool.and_assoc]
theorem str_empty (s : ByteArray) : s.toList.isEmpty = decide (s = .empty) := by
 rw [Bool.eq_iff_iff]
 simp only [List.isEmpty_iff, decide_eq_true_eq]
 constructor
 · intro h
   rw [ByteArray.toList_eq] at h
   obtain ⟨⟨l⟩⟩ := s
   simp at h
   subst h; rfl
 · rintro rfl; simp
theorem toList_nil (s : ByteArray) : s.toList = [] ↔ s = .empty := by
 have h := str_empty s
 rw [Bool.eq_iff_iff] at h
 simpa [List.isEmpty_iff] using h
theorem impl_within_q {n a b : Int} {r : Bool} (h : inRP n a b = r) (w : World) : Calls Tryz.prog 72 #[.int .i64 n, .int .i64 a, .int .i64 b] w fun e w' => e = .returned (.bool r) ∧ w' = w :=
 (impl_within_c n a b w).mono fun _ _ k => ⟨by rw [k.1, h], k.2.symm⟩
theorem spec_l00In_q {n a b : Int} {r : Bool} (h : inRP n a b = r) (w : World) : Calls Tryz.prog 55 #[.int .i64 n, .int .i64 a, .int .i64 b] w fun e w' => e = .returned (.bool r) ∧ w' = w :=
 (spec_l00In_c n a b w).mono fun _ _ k => ⟨by rw [k.1, h], k.2.symm⟩
theorem fin_of {b c : Bool} {w w' : World} (h : b = c) (hb : Below w.heap.size w w') : Ending.returned (.bool b) = .returned (.bool c) ∧ Below w.heap.size w w' := ⟨ret_boolF h, hb⟩
set_option maxRecDepth 100000 in
set_option maxHeartbeats 1000000 in
theorem impl_canStep_c {o : Bool} {e : TypeId} {ls : List PLine} {v : Value} {F : List Nat} (s : PStep) (w : World) (h : (pLines e).rep o w ls [v] F) (hx : ls.length ≤ 1048576) (hw : ∀ l ∈ ls, l.length ≤ 1048576) (hok : pStepOk s) (hs : s.word.size ≤ 1048576) :
 Calls Tryz.prog 120 #[v, .agg #[.int .i64 s.kind, .int .i64 s.line, .int .i64 s.pos, .string s.word, .string s.old]] w fun e w' => e = .returned (.bool (canB ls s)) ∧ Below w.heap.size w w' := by
 obtain ⟨A, c, rfl, hc1, hc2, hr⟩ := pLines_open h
 obtain ⟨⟨k1, k2⟩, ⟨l1, l2⟩, ⟨p1, p2⟩, _, _⟩ := hok
 cases hin : inRP s.line 0 ((ls.length : Int) - 1)
 · have H := Lib.hid (canB_line hin)
   clear hr h
   go_enter Tryz.func120, Tryz.ntmps120
   go_wp2_with (go_at_call 72; refine (impl_within_c _ _ _ _).mono ?_; rintro e w2 ⟨rfl, rfl⟩)
   go_ret
   exact ⟨ret_boolF H.out.symm, (Below.refl _ _).alloc (Nat.le_refl _) _⟩
 · have HB := canB_kind hin
   obtain ⟨h1, h2⟩ := (inR_iff _ _ _).1 hin
   obtain ⟨kd, ln, ps, wd, od⟩ := s
   dsimp only at *
   obtain ⟨n, rfl⟩ := Int.eq_ofNat_of_zero_le h1
   have hlt : n < ls.length := by omega
   obtain ⟨b, off, u, Fk, rfl, hbb, _, hrk, _, h0⟩ := hr n hlt
   have hwk := hw _ (List.getElem_mem hlt)
   obtain ⟨A', c', rfl, hl1, hl2, hcell⟩ := strs_open hrk
   rw [lineAt_nat hlt] at HB
   have e1 : (n : Int) < (ls.length : Int) := by omega
   have C := impl_IsWord_c wd hs
   by_cases hk1 : kd = 1
   · subst hk1
     have HH := Lib.hid HB
     clear hr h HB hcell
     go_enter Tryz.func120, Tryz.ntmps120
     go_wp2_with (first | (go_at_call 72; refine (impl_within_c _ _ _ _).mono ?_; rintro e w2 ⟨rfl, rfl⟩) | (go_at_call 79; refine (C _).mono ?_; rintro e w2 ⟨rfl, hb2⟩; obtain ⟨hcc, hff⟩ := bcell hb2))
     all_goals go_ret
     all_goals refine fin_of ?_ ?_
     all_goals first | exact ((Below.refl _ _).alloc (Nat.le_refl _) _) | exact ((Below.refl _ _).alloc (Nat.le_refl _) _).trans (hb2.mono (by simp)) | skip
     all_goals rw [HH.out]
     all_goals simp_all [canK, str_empty]
     all_goals (intros; omega)
   · have n1 : (kd == 1) = false := by simpa using hk1
     by_cases hk2 : kd = 2
     · subst hk2
       have HH := Lib.hid HB
       clear hr h HB
       have w1 := IntWalk.i64_in ((ls[n].length : Int) - 1) (by omega)
       cases hi2 : inRP ps 0 ((ls[n].length : Int) - 1)
       · have W := impl_within_q hi2
         have HI := Lib.hid hi2
         have HW := Lib.hid W
         clear hi2 W hcell
         go_enter Tryz.func120, Tryz.ntmps120
         go_wp2_with (go_at_call 72; refine (impl_within_c _ _ _ _).mono ?_; rintro e w2 ⟨rfl, rfl⟩)
         go_quiet ((go_at_call 72; exact Calls.quiet_of_same (HW.out _)))
         go_wp2_with fail
         go_ret
         refine fin_of ?_ (below_drewN ((Below.refl _ _).alloc (Nat.le_refl _) _) _)
         rw [HH.out]; simp [canK, HI.out]
       · have W := impl_within_q hi2
         obtain ⟨g1, g2⟩ := (inR_iff _ _ _).1 hi2
         obtain ⟨a, rfl⟩ := Int.eq_ofNat_of_zero_le g1
         have hal : a < ls[n].length := by omega
         obtain ⟨b', off', rfl, hbb', _, h0', _⟩ := hcell a hal
         have hbw : b < w.heap.size := by omega
         have hbw' : b' < w.heap.size := by omega
         have gi : (a : Int) < (ls[n].length : Int) := by omega
         have HE : Hid ((lineAt ls (n : Int)).getD (a : Int).toNat .empty = ls[n][a]) := by show _ = _; rw [lineAt_nat hlt]; simp [hal]
         have HI := Lib.hid hi2
         have HW := Lib.hid W
         clear hi2 W hcell hrk
         by_cases hq : ls[n][a] = wd
         · have t1 : (ls[n][a].toList == wd.toList) = true := by rw [str_eq]; simp [hq]
           have HQ := Lib.hid hq
           clear hq
           go_enter Tryz.func120, Tryz.ntmps120
           go_wp2_with (go_at_call 72; refine (impl_within_c _ _ _ _).mono ?_; rintro e w2 ⟨rfl, rfl⟩)
           go_quiet ((go_at_call 72; exact Calls.quiet_of_same (HW.out _)))
           go_wp2_with fail
           go_ret
           refine fin_of ?_ (below_drewN ((Below.refl _ _).alloc (Nat.le_refl _) _) _)
           rw [HH.out]; simp [canK, HI.out, lineAt_nat hlt, hal, HQ.out, str_empty]
         · have t1 : (ls[n][a].toList == wd.toList) = false := by rw [str_eq]; simp [hq]
           have HQ := Lib.hid hq
           clear hq
           go_enter Tryz.func120, Tryz.ntmps120
           go_wp2_with (go_at_call 72; refine (impl_within_c _ _ _ _).mono ?_; rintro e w2 ⟨rfl, rfl⟩)
           go_quiet ((go_at_call 72; exact Calls.quiet_of_same (HW.out _)))
           go_wp2_with fail
           go_ret
           refine fin_of ?_ (below_drewN ((Below.refl _ _).alloc (Nat.le_refl _) _) _)
           rw [HH.out]; simp [canK, HI.out, lineAt_nat hlt, hal, HQ.out]
     · have n2 : (kd == 2) = false := by simpa using hk2
       by_cases hk3 : kd = 3
       · subst hk3
         have HH := Lib.hid HB
         clear hr h HB
         have w1 := IntWalk.i64_in ((ls[n].length : Int) - 1) (by omega)
         cases hi2 : inRP ps 0 ((ls[n].length : Int) - 1)
         · have W := impl_within_q hi2
           have HI := Lib.hid hi2
           have HW := Lib.hid W
           clear hi2 W hcell
           go_enter Tryz.func120, Tryz.ntmps120
           go_wp2_with (go_at_call 72; refine (impl_within_c _ _ _ _).mono ?_; rintro e w2 ⟨rfl, rfl⟩)
           go_quiet ((go_at_call 72; exact Calls.quiet_of_same (HW.out _)))
           go_wp2_with fail
           go_ret
           refine fin_of ?_ (below_drewN ((Below.refl _ _).alloc (Nat.le_refl _) _) _)
           rw [HH.out]; simp [canK, HI.out]
         · have W := impl_within_q hi2
           obtain ⟨g1, g2⟩ := (inR_iff _ _ _).1 hi2
           obtain ⟨a, rfl⟩ := Int.eq_ofNat_of_zero_le g1
           have hal : a < ls[n].length := by omega
           obtain ⟨b', off', rfl, hbb', _, h0', _⟩ := hcell a hal
           have hbw : b < w.heap.size := by omega
           have hbw' : b' < w.heap.size := by omega
           have gi : (a : Int) < (ls[n].length : Int) := by omega
           have HE : Hid ((lineAt ls (n : Int)).getD (a : Int).toNat .empty = ls[n][a]) := by show _ = _; rw [lineAt_nat hlt]; simp [hal]
           have HI := Lib.hid hi2
           have HW := Lib.hid W
           clear hi2 W hcell hrk
           by_cases hq : ls[n][a] = od
           · have t1 : (ls[n][a].toList == od.toList) = true := by rw [str_eq]; simp [hq]
             have HQ := Lib.hid hq
             clear hq
             go_enter Tryz.func120, Tryz.ntmps120
             go_wp2_with (go_at_call 72; refine (impl_within_c _ _ _ _).mono ?_; rintro e w2 ⟨rfl, rfl⟩)
             go_region_held3 (fun w' => w'.cell? ⟨w.heap.size, 2, none⟩ = some (.int .i64 (a : Int)) ∧ w'.cell? ⟨w.heap.size, 3, none⟩ = some (.string wd) ∧ w'.cell? ⟨w.heap.size, 4, none⟩ = some (.string od) ∧ w'.cell? ⟨b', off' + a, none⟩ = some (.string ls[n][a])) (first | exact ⟨by simp, by simp, by simp, (World.cell?_alloc_past (w := w) _ _ _ hbw').trans h0'⟩ | exact ⟨(hcc _ _ (by simp)).trans (by simp), (hcc _ _ (by simp)).trans (by simp), (hcc _ _ (by simp)).trans (by simp), (hcc _ _ (by simp; omega)).trans ((World.cell?_alloc_past (w := w) _ _ _ hbw').trans h0')⟩) (first | (go_at_call 72; refine (HW.out _).mono ?_; rintro e w2 ⟨rfl, rfl⟩) | (go_at_call 79; refine (C _).mono ?_; rintro e w2 ⟨rfl, hb2⟩; obtain ⟨hcc, hff⟩ := bcell hb2))
             go_wp2_with fail
             go_ret
             refine fin_of ?_ (((Below.refl _ _).alloc (Nat.le_refl _) _).drew.trans (hb2.mono (by simp)))
             rw [HH.out]; simp [canK, HI.out, lineAt_nat hlt, hal, HQ.out]
           · have t1 : (ls[n][a].toList == od.toList) = false := by rw [str_eq]; simp [hq]
             have HQ := Lib.hid hq
             clear hq
             go_enter Tryz.func120, Tryz.ntmps120
             go_wp2_with (go_at_call 72; refine (impl_within_c _ _ _ _).mono ?_; rintro e w2 ⟨rfl, rfl⟩)
             go_quiet ((go_at_call 72; exact Calls.quiet_of_same (HW.out _)))
             go_wp2_with fail
             go_ret
             refine fin_of ?_ (below_drewN ((Below.refl _ _).alloc (Nat.le_refl _) _) _)
             rw [HH.out]; simp [canK, HI.out, lineAt_nat hlt, hal, HQ.out]
       · have n3 : (kd == 3) = false := by simpa using hk3
         by_cases hk4 : kd = 4
         · subst hk4
           have HH := Lib.hid HB
           clear hr h HB hcell
           go_enter Tryz.func120, Tryz.ntmps120
           go_wp2_with (first | (go_at_call 72; refine (impl_within_c _ _ _ _).mono ?_; rintro e w2 ⟨rfl, rfl⟩) | (go_at_call 79; refine (C _).mono ?_; rintro e w2 ⟨rfl, hb2⟩; obtain ⟨hcc, hff⟩ := bcell hb2))
           all_goals go_ret
           all_goals refine fin_of ?_ ((Below.refl _ _).alloc (Nat.le_refl _) _)
           all_goals (have H := HH.out; clear HH; simp_all [canK, str_empty, toList_nil])
           all_goals (intros; omega)
         · have n4 : (kd == 4) = false := by simpa using hk4
           by_cases hk5 : kd = 5
           · subst hk5
             have HH := Lib.hid HB
             clear HB hcell
             have w1 := IntWalk.i64_in ((n : Int) + 1) (by omega)
             have w2 : ((n : Int) + 1).toNat = n + 1 := by omega
             by_cases hn1 : n + 1 < ls.length
             · obtain ⟨b2, off2, u2, Fk2, hA2, hbb2, _, hrk2, _, h02⟩ := hr (n + 1) hn1
               simp only [Option.some.injEq, Addr.mk.injEq, and_true] at hA2
               obtain ⟨rfl, rfl⟩ := hA2
               obtain ⟨A2, c2, rfl, hm1, hm2, _⟩ := strs_open hrk2
               have hwk2 := hw _ (List.getElem_mem hn1)
               have i1 : (n : Int) + 1 < (ls.length : Int) := by omega
               have i2 : (0 : Int) ≤ (n : Int) + 1 := by omega
               have e3 : lineAt ls ((n : Int) + 1) = ls[n + 1] := lineAt_nat hn1
               rw [e3] at HH
               clear hr h
               go_enter Tryz.func120, Tryz.ntmps120
               go_wp2_with (go_at_call 72; refine (impl_within_c _ _ _ _).mono ?_; rintro e w2 ⟨rfl, rfl⟩)
               all_goals go_ret
               all_goals refine fin_of ?_ ((Below.refl _ _).alloc (Nat.le_refl _) _)
               all_goals (have H := HH.out; clear HH; simp_all [canK, str_empty, toList_nil])
               all_goals (intros; omega)
             · have i1 : ¬ ((n : Int) + 1 < (ls.length : Int)) := by omega
               clear hr h
               go_enter Tryz.func120, Tryz.ntmps120
               go_wp2_with (go_at_call 72; refine (impl_within_c _ _ _ _).mono ?_; rintro e w2 ⟨rfl, rfl⟩)
               go_ret
               refine fin_of ?_ ((Below.refl _ _).alloc (Nat.le_refl _) _)
               rw [HH.out]; simp [canK]; intros; omega
           · have n5 : (kd == 5) = false := by simpa using hk5
             have HH := Lib.hid HB
             clear hr h HB hcell
             go_enter Tryz.func120, Tryz.ntmps120
             go_wp2_with (go_at_call 72; refine (impl_within_c _ _ _ _).mono ?_; rintro e w2 ⟨rfl, rfl⟩)
             go_ret
             refine fin_of ?_ ((Below.refl _ _).alloc (Nat.le_refl _) _)
             rw [HH.out]; simp [canK, hk1, hk2, hk3, hk4, hk5]
set_option maxRecDepth 100000 in
set_option maxHeartbeats 1000000 in
theorem impl_opposite_c (s : PStep) (w : World) :
 Calls Tryz.prog 82 #[.agg #[.int .i64 s.kind, .int .i64 s.line, .int .i64 s.pos, .string s.word, .string s.old]] w fun e w' => e = .returned (.agg #[.int .i64 (oppS s).kind, .int .i64 (oppS s).line, .int .i64 (oppS s).pos, .string (oppS s).word, .string (oppS s).old]) ∧ Below w.heap.size w w' := by
 obtain ⟨kd, ln, ps, wd, od⟩ := s
 have b2 : ∀ x y : Obj, Below w.heap.size w ((w.alloc x).alloc y) := fun x y => ((Below.refl _ _).alloc (Nat.le_refl _) x).alloc (by simp) y
 by_cases h1 : kd = 1
 · subst h1
   go_enter Tryz.func82, Tryz.ntmps82
   go_wp2_with fail
   refine bodyPost_ret (v := .agg #[.int .i64 2, .int .i64 ln, .int .i64 ps, .string wd, .string od]) (by simp [results, Tryz.results82, go_sem]) rfl ⟨rfl, ?_⟩
   exact b2 _ _
 · have n1 : (kd == 1) = false := by simpa using h1
   by_cases h2 : kd = 2
   · subst h2
     go_enter Tryz.func82, Tryz.ntmps82
     go_wp2_with fail
     refine bodyPost_ret (v := .agg #[.int .i64 1, .int .i64 ln, .int .i64 ps, .string wd, .string od]) (by simp [results, Tryz.results82, go_sem]) rfl ⟨rfl, ?_⟩
     exact b2 _ _
   · have n2 : (kd == 2) = false := by simpa using h2
     by_cases h3 : kd = 3
     · subst h3
       go_enter Tryz.func82, Tryz.ntmps82
       go_wp2_with fail
       refine bodyPost_ret (v := .agg #[.int .i64 3, .int .i64 ln, .int .i64 ps, .string od, .string wd]) (by simp [results, Tryz.results82, go_sem]) rfl ⟨rfl, ?_⟩
       exact b2 _ _
     · have n3 : (kd == 3) = false := by simpa using h3
       by_cases h4 : kd = 4
       · subst h4
         go_enter Tryz.func82, Tryz.ntmps82
         go_wp2_with fail
         refine bodyPost_ret (v := .agg #[.int .i64 5, .int .i64 ln, .int .i64 ps, .string wd, .string od]) (by simp [results, Tryz.results82, go_sem]) rfl ⟨rfl, ?_⟩
         exact b2 _ _
       · have n4 : (kd == 4) = false := by simpa using h4
         by_cases h5 : kd = 5
         · subst h5
           go_enter Tryz.func82, Tryz.ntmps82
           go_wp2_with fail
           refine bodyPost_ret (v := .agg #[.int .i64 4, .int .i64 ln, .int .i64 ps, .string wd, .string od]) (by simp [results, Tryz.results82, go_sem]) rfl ⟨rfl, ?_⟩
           exact b2 _ _
         · have n5 : (kd == 5) = false := by simpa using h5
           go_enter Tryz.func82, Tryz.ntmps82
           go_wp2_with fail
           refine bodyPost_ret (v := .agg #[.int .i64 kd, .int .i64 ln, .int .i64 ps, .string wd, .string od]) (by simp [results, Tryz.results82, go_sem]) rfl ⟨by simp [oppS, h1, h2, h3, h4, h5], ?_⟩
           exact b2 _ _
set_option maxRecDepth 100000 in
set_option maxHeartbeats 1000000 in
theorem spec_l27Opposite_c (s : PStep) (w : World) :
 Calls Tryz.prog 105 #[.agg #[.int .i64 s.kind, .int .i64 s.line, .int .i64 s.pos, .string s.word, .string s.old]] w fun e w' => e = .returned (.agg #[.int .i64 (oppS s).kind, .int .i64 (oppS s).line, .int .i64 (oppS s).pos, .string (oppS s).word, .string (oppS s).old]) ∧ Below w.heap.size w w' := by
 obtain ⟨kd, ln, ps, wd, od⟩ := s
 have b2 : ∀ x y : Obj, Below w.heap.size w ((w.alloc x).alloc y) := fun x y => ((Below.refl _ _).alloc (Nat.le_refl _) x).alloc (by simp) y
 by_cases h1 : kd = 1
 · subst h1
   go_enter Tryz.func105, Tryz.ntmps105
   go_wp2_with fail
   refine bodyPost_ret (v := .agg #[.int .i64 2, .int .i64 ln, .int .i64 ps, .string wd, .string od]) (by simp [results, Tryz.results105, go_sem]) rfl ⟨rfl, ?_⟩
   exact b2 _ _
 · have n1 : (kd == 1) = false := by simpa using h1
   by_cases h2 : kd = 2
   · subst h2
     go_enter Tryz.func105, Tryz.ntmps105
     go_wp2_with fail
     refine bodyPost_ret (v := .agg #[.int .i64 1, .int .i64 ln, .int .i64 ps, .string wd, .string od]) (by simp [results, Tryz.results105, go_sem]) rfl ⟨rfl, ?_⟩
     exact b2 _ _
   · have n2 : (kd == 2) = false := by simpa using h2
     by_cases h3 : kd = 3
     · subst h3
       go_enter Tryz.func105, Tryz.ntmps105
       go_wp2_with fail
       refine bodyPost_ret (v := .agg #[.int .i64 3, .int .i64 ln, .int .i64 ps, .string od, .string wd]) (by simp [results, Tryz.results105, go_sem]) rfl ⟨rfl, ?_⟩
       exact b2 _ _
     · have n3 : (kd == 3) = false := by simpa using h3
       by_cases h4 : kd = 4
       · subst h4
         go_enter Tryz.func105, Tryz.ntmps105
         go_wp2_with fail
         refine bodyPost_ret (v := .agg #[.int .i64 5, .int .i64 ln, .int .i64 ps, .string wd, .string od]) (by simp [results, Tryz.results105, go_sem]) rfl ⟨rfl, ?_⟩
         exact b2 _ _
       · have n4 : (kd == 4) = false := by simpa using h4
         by_cases h5 : kd = 5
         · subst h5
           go_enter Tryz.func105, Tryz.ntmps105
           go_wp2_with fail
           refine bodyPost_ret (v := .agg #[.int .i64 4, .int .i64 ln, .int .i64 ps, .string wd, .string od]) (by simp [results, Tryz.results105, go_sem]) rfl ⟨rfl, ?_⟩
           exact b2 _ _
         · have n5 : (kd == 5) = false := by simpa using h5
           go_enter Tryz.func105, Tryz.ntmps105
           go_wp2_with fail
           refine bodyPost_ret (v := .agg #[.int .i64 kd, .int .i64 ln, .int .i64 ps, .string wd, .string od]) (by simp [results, Tryz.results105, go_sem]) rfl ⟨by simp [oppS, h1, h2, h3, h4, h5], ?_⟩
           exact b2 _ _
set_option maxHeartbeats 400000 in
theorem impl_ValidPage1_c (s : PStep) (w : World) :
 Calls Tryz.prog 83 #[.agg #[.int .i64 s.kind, .int .i64 s.line, .int .i64 s.pos, .string s.word, .string s.old]] w fun e w' => e = .returned (.agg #[.int .i64 s.kind, .int .i64 s.line, .int .i64 s.pos, .string s.word, .string s.old]) ∧ Below w.heap.size w w' := by
 go_enter Tryz.func83, Tryz.ntmps83
 go_wp2_with fail
 refine bodyPost_ret (v := .agg #[.int .i64 s.kind, .int .i64 s.line, .int .i64 s.pos, .string s.word, .string s.old]) (by simp [results, Tryz.results83, go_sem]) rfl ⟨rfl, ?_⟩
 exact ((Below.refl _ _).alloc (Nat.le_refl _) _).alloc (by simp) _
end Go.Proofs.YtboijogahclekaaGreatDoor
