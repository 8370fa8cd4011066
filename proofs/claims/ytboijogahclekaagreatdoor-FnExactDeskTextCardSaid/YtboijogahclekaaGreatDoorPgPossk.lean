/- Pages: is a step possible, in the reference? Conditions: none. -/
import Derived.Test.YtboijogahclekaaGreatDoorPgStepk
namespace Go.Proofs.YtboijogahclekaaGreatDoor
open Go Go.RowKit
set_option maxRecDepth 100000 in
set_option maxHeartbeats 4000000 in
theorem spec_l27Possible_c {o : Bool} {e : TypeId} {ls : List PLine} {v : Value} {F : List Nat} (s : PStep) (w : World) (h : (pLines e).rep o w ls [v] F) (hx : ls.length ≤ 1048576) (hw : ∀ l ∈ ls, l.length ≤ 1048576) (hok : pStepOk s) (hs : s.word.size ≤ 1048576) {g : Nat} (hg : Row w g 161 (pStepCells s)) :
 Calls Tryz.prog 106 #[v, .pointer (some ⟨g, 0, none⟩)] w fun e w' => e = .returned (.bool (canB ls s)) ∧ Below w.heap.size w w' := by
 obtain ⟨A, c, rfl, hc1, hc2, hr⟩ := pLines_open h
 have c0 := hg.c0
 have c1 := hg.c1
 have c2 := hg.c2
 have c3 := hg.c3
 have c4 := hg.c4
 clear hg
 obtain ⟨⟨k1, k2⟩, ⟨l1, l2⟩, ⟨p1, p2⟩, _, _⟩ := hok
 cases hin : inRP s.line 0 ((ls.length : Int) - 1)
 · have H := Lib.hid (canB_line hin)
   clear hr h
   go_enter Tryz.func106, Tryz.ntmps106
   go_wp2_with (go_at_call 55; refine (spec_l00In_c _ _ _ _).mono ?_; rintro e w2 ⟨rfl, rfl⟩)
   go_ret
   exact ⟨ret_boolF H.out.symm, Below.refl _ _⟩
 · have HB := canB_kind hin
   obtain ⟨h1, h2⟩ := (inR_iff _ _ _).1 hin
   obtain ⟨kd, ln, ps, wd, od⟩ := s
   dsimp only at *
   obtain ⟨n, rfl⟩ := Int.eq_ofNat_of_zero_le h1
   have hlt : n < ls.length := by omega
   obtain ⟨b, off, u, Fk, rfl, hbb, _, hrk, _, h0⟩ := hr n hlt
   have hwk := hw _ (List.getElem_mem hlt)
   obtain ⟨A', c', rfl, hl1, hl2, hcell⟩ := strs_open hrk
   rw [lineAt_nat hlt] at HB
   have e1 : (n : Int) < (ls.length : Int) := by omega
   have C := spec_IsWord_c wd hs
   by_cases hk1 : kd = 1
   · subst hk1
     have HH := Lib.hid HB
     clear hr h HB hcell
     go_enter Tryz.func106, Tryz.ntmps106
     go_wp2_with (first | (go_at_call 55; refine (spec_l00In_c _ _ _ _).mono ?_; rintro e w2 ⟨rfl, rfl⟩) | (go_at_call 104; refine (C _).mono ?_; rintro e w2 ⟨rfl, rfl⟩))
     all_goals go_ret
     all_goals refine fin_of ?_ ?_
     all_goals first | exact (Below.refl _ _) | skip
     all_goals rw [HH.out]
     all_goals rw [Bool.eq_iff_iff]; simp [canK, ← toList_nil, *]
     all_goals (intros; omega)
   · have n1 : (kd == 1) = false := by simpa using hk1
     by_cases hk2 : kd = 2
     · subst hk2
       have HH := Lib.hid HB
       clear hr h HB
       have w1 := IntWalk.i64_in ((ls[n].length : Int) - 1) (by omega)
       cases hi2 : inRP ps 0 ((ls[n].length : Int) - 1)
       · have W := spec_l00In_q hi2
         have HI := Lib.hid hi2
         have HW := Lib.hid W
         clear hi2 W hcell
         go_enter Tryz.func106, Tryz.ntmps106
         go_wp2_with (go_at_call 55; refine (spec_l00In_c _ _ _ _).mono ?_; rintro e w2 ⟨rfl, rfl⟩)
         all_goals (go_quiet ((go_at_call 55; exact Calls.quiet_of_same (HW.out _))); go_wp2_with fail; go_ret; refine fin_of ?_ (below_drewN (Below.refl _ _) _); rw [HH.out]; simp [canK, HI.out])
       · have W := spec_l00In_q hi2
         obtain ⟨g1, g2⟩ := (inR_iff _ _ _).1 hi2
         obtain ⟨a, rfl⟩ := Int.eq_ofNat_of_zero_le g1
         have hal : a < ls[n].length := by omega
         obtain ⟨b', off', rfl, hbb', _, h0', _⟩ := hcell a hal
         have hbw : b < w.heap.size := by omega
         have hbw' : b' < w.heap.size := by omega
         have gi : (a : Int) < (ls[n].length : Int) := by omega
         have HE : Hid ((lineAt ls (n : Int)).getD (a : Int).toNat .empty = ls[n][a]) := by show _ = _; rw [lineAt_nat hlt]; simp [hal]
         have HI := Lib.hid hi2
         have HW := Lib.hid W
         clear hi2 W hcell hrk
         by_cases hq : ls[n][a] = wd
         · have t1 : (ls[n][a].toList == wd.toList) = true := by rw [str_eq]; simp [hq]
           have HQ := Lib.hid hq
           clear hq
           go_enter Tryz.func106, Tryz.ntmps106
           go_wp2_with (go_at_call 55; refine (spec_l00In_c _ _ _ _).mono ?_; rintro e w2 ⟨rfl, rfl⟩)
           all_goals ((try rw [show wd.toList = [] by assumption] at t1); (try rw [show od.toList = [] by assumption] at t1); go_quiet ((go_at_call 55; exact Calls.quiet_of_same (HW.out _))); go_wp2_with fail; go_ret; refine fin_of ?_ (below_drewN (Below.refl _ _) _); rw [HH.out]; simp [canK, HI.out, lineAt_nat hlt, hal, HQ.out, str_empty])
         · have t1 : (ls[n][a].toList == wd.toList) = false := by rw [str_eq]; simp [hq]
           have HQ := Lib.hid hq
           clear hq
           go_enter Tryz.func106, Tryz.ntmps106
           go_wp2_with (go_at_call 55; refine (spec_l00In_c _ _ _ _).mono ?_; rintro e w2 ⟨rfl, rfl⟩)
           all_goals ((try rw [show wd.toList = [] by assumption] at t1); (try rw [show od.toList = [] by assumption] at t1); go_quiet ((go_at_call 55; exact Calls.quiet_of_same (HW.out _))); go_wp2_with fail; go_ret; refine fin_of ?_ (below_drewN (Below.refl _ _) _); rw [HH.out]; simp [canK, HI.out, lineAt_nat hlt, hal, HQ.out])
     · have n2 : (kd == 2) = false := by simpa using hk2
       by_cases hk3 : kd = 3
       · subst hk3
         have HH := Lib.hid HB
         clear hr h HB
         have w1 := IntWalk.i64_in ((ls[n].length : Int) - 1) (by omega)
         cases hi2 : inRP ps 0 ((ls[n].length : Int) - 1)
         · have W := spec_l00In_q hi2
           have HI := Lib.hid hi2
           have HW := Lib.hid W
           clear hi2 W hcell
           go_enter Tryz.func106, Tryz.ntmps106
           go_wp2_with (go_at_call 55; refine (spec_l00In_c _ _ _ _).mono ?_; rintro e w2 ⟨rfl, rfl⟩)
           all_goals (go_quiet ((go_at_call 55; exact Calls.quiet_of_same (HW.out _))); go_wp2_with fail; go_ret; refine fin_of ?_ (below_drewN (Below.refl _ _) _); rw [HH.out]; simp [canK, HI.out])
         · have W := spec_l00In_q hi2
           obtain ⟨g1, g2⟩ := (inR_iff _ _ _).1 hi2
           obtain ⟨a, rfl⟩ := Int.eq_ofNat_of_zero_le g1
           have hal : a < ls[n].length := by omega
           obtain ⟨b', off', rfl, hbb', _, h0', _⟩ := hcell a hal
           have hbw : b < w.heap.size := by omega
           have hbw' : b' < w.heap.size := by omega
           have gi : (a : Int) < (ls[n].length : Int) := by omega
           have HE : Hid ((lineAt ls (n : Int)).getD (a : Int).toNat .empty = ls[n][a]) := by show _ = _; rw [lineAt_nat hlt]; simp [hal]
           have HI := Lib.hid hi2
           have HW := Lib.hid W
           clear hi2 W hcell hrk
           by_cases hq : ls[n][a] = od
           · have t1 : (ls[n][a].toList == od.toList) = true := by rw [str_eq]; simp [hq]
             have HQ := Lib.hid hq
             clear hq
             go_enter Tryz.func106, Tryz.ntmps106
             go_wp2_with (go_at_call 55; refine (spec_l00In_c _ _ _ _).mono ?_; rintro e w2 ⟨rfl, rfl⟩)
             all_goals ((try rw [show wd.toList = [] by assumption] at t1); (try rw [show od.toList = [] by assumption] at t1); go_quiet ((first | (go_at_call 55; exact Calls.quiet_of_same (HW.out _)) | (go_at_call 104; exact Calls.quiet_of_same ((C _).mono fun _ _ k => ⟨k.1, k.2.symm⟩)))); go_wp2_with fail; go_ret; refine fin_of ?_ (below_drewN (Below.refl _ _) _); rw [HH.out]; simp [canK, HI.out, lineAt_nat hlt, hal, HQ.out])
           · have t1 : (ls[n][a].toList == od.toList) = false := by rw [str_eq]; simp [hq]
             have HQ := Lib.hid hq
             clear hq
             go_enter Tryz.func106, Tryz.ntmps106
             go_wp2_with (go_at_call 55; refine (spec_l00In_c _ _ _ _).mono ?_; rintro e w2 ⟨rfl, rfl⟩)
             all_goals ((try rw [show wd.toList = [] by assumption] at t1); (try rw [show od.toList = [] by assumption] at t1); go_quiet ((go_at_call 55; exact Calls.quiet_of_same (HW.out _))); go_wp2_with fail; go_ret; refine fin_of ?_ (below_drewN (Below.refl _ _) _); rw [HH.out]; simp [canK, HI.out, lineAt_nat hlt, hal, HQ.out])
       · have n3 : (kd == 3) = false := by simpa using hk3
         by_cases hk4 : kd = 4
         · subst hk4
           have HH := Lib.hid HB
           clear hr h HB hcell
           go_enter Tryz.func106, Tryz.ntmps106
           go_wp2_with (first | (go_at_call 55; refine (spec_l00In_c _ _ _ _).mono ?_; rintro e w2 ⟨rfl, rfl⟩) | (go_at_call 104; refine (C _).mono ?_; rintro e w2 ⟨rfl, rfl⟩))
           all_goals go_ret
           all_goals refine fin_of ?_ (Below.refl _ _)
           all_goals rw [HH.out]
           all_goals rw [Bool.eq_iff_iff]; simp [canK, ← toList_nil, *]
           all_goals (intros; omega)
         · have n4 : (kd == 4) = false := by simpa using hk4
           by_cases hk5 : kd = 5
           · subst hk5
             have HH := Lib.hid HB
             clear HB hcell
             have w1 := IntWalk.i64_in ((n : Int) + 1) (by omega)
             have w2 : ((n : Int) + 1).toNat = n + 1 := by omega
             by_cases hn1 : n + 1 < ls.length
             · obtain ⟨b2, off2, u2, Fk2, hA2, hbb2, _, hrk2, _, h02⟩ := hr (n + 1) hn1
               simp only [Option.some.injEq, Addr.mk.injEq, and_true] at hA2
               obtain ⟨rfl, rfl⟩ := hA2
               obtain ⟨A2, c2, rfl, hm1, hm2, _⟩ := strs_open hrk2
               have hwk2 := hw _ (List.getElem_mem hn1)
               have i1 : (n : Int) + 1 < (ls.length : Int) := by omega
               have i2 : (0 : Int) ≤ (n : Int) + 1 := by omega
               have e3 : lineAt ls ((n : Int) + 1) = ls[n + 1] := lineAt_nat hn1
               rw [e3] at HH
               clear hr h
               by_cases hp : ps = (ls[n].length : Int)
               · subst hp
                 go_enter Tryz.func106, Tryz.ntmps106
                 go_wp2_with (go_at_call 55; refine (spec_l00In_c _ _ _ _).mono ?_; rintro e w2 ⟨rfl, rfl⟩)
                 all_goals go_ret
                 all_goals refine fin_of ?_ (Below.refl _ _)
                 all_goals rw [HH.out]
                 all_goals rw [Bool.eq_iff_iff]; simp [canK, ← toList_nil, *]
                 all_goals (intros; omega)
               · have t2 : (ps == (ls[n].length : Int)) = false := by simpa using hp
                 go_enter Tryz.func106, Tryz.ntmps106
                 go_wp2_with (go_at_call 55; refine (spec_l00In_c _ _ _ _).mono ?_; rintro e w2 ⟨rfl, rfl⟩)
                 all_goals go_ret
                 all_goals refine fin_of ?_ (Below.refl _ _)
                 all_goals rw [HH.out]
                 all_goals rw [Bool.eq_iff_iff]; simp [canK, ← toList_nil, *]
                 all_goals (intros; omega)
             · have i1 : ¬ ((n : Int) + 1 < (ls.length : Int)) := by omega
               clear hr h
               go_enter Tryz.func106, Tryz.ntmps106
               go_wp2_with (go_at_call 55; refine (spec_l00In_c _ _ _ _).mono ?_; rintro e w2 ⟨rfl, rfl⟩)
               all_goals (go_ret; refine fin_of ?_ (Below.refl _ _); rw [HH.out]; simp [canK]; intros; omega)
           · have n5 : (kd == 5) = false := by simpa using hk5
             have HH := Lib.hid HB
             clear hr h HB hcell
             go_enter Tryz.func106, Tryz.ntmps106
             go_wp2_with (go_at_call 55; refine (spec_l00In_c _ _ _ _).mono ?_; rintro e w2 ⟨rfl, rfl⟩)
             all_goals (go_ret; refine fin_of ?_ (Below.refl _ _); rw [HH.out]; simp [canK, hk1, hk2, hk3, hk4, hk5])
end Go.Proofs.YtboijogahclekaaGreatDoor
