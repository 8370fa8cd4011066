/- Pages: lines after a step, in the reference. Conditions: none. -/
import Derived.Test.YtboijogahclekaaGreatDoorPgSteppedk
namespace Go.Proofs.YtboijogahclekaaGreatDoor
open Go Go.RowKit
structure Parts (w : World) (xs : List ByteArray) (A : Option Addr) (k a a' : Nat) (AD : Option Addr) (ecT ecD : List Value) : Prop where
 t : repL str true w (xs.take a) ecT []
 d : repL str true w (xs.drop a') ecD []
 ct : CellsAt w A ecT
 cd : CellsAt w AD ecD
theorem Parts.below {w w' : World} {xs : List ByteArray} {A AD : Option Addr} {k a a' : Nat} {ecT ecD : List Value} (h : Parts w xs A k a a' AD ecT ecD) (hb : Below w.heap.size w w') : Parts w' xs A k a a' AD ecT ecD :=
 ⟨repL_below h.t hb, repL_below h.d hb, h.ct.below hb, h.cd.below hb⟩
theorem parts_of {w : World} {xs : List ByteArray} {A : Option Addr} {k a a' : Nat} {G : List Nat} (h : (str.slice 9).rep true w xs [.slice A xs.length k] G) (ha : a ≤ xs.length) (ha' : a' ≤ xs.length) :
 ∃ AD ecT ecD, Parts w xs A k a a' AD ecT ecD ∧ ((A = none ∧ k = 0 ∧ AD = none ∧ a = 0 ∧ xs.length = 0) ∨ ∃ g2, A = some ⟨g2, 0, none⟩ ∧ xs.length ≤ k ∧ (if k = a' then (some ⟨g2, 0, none⟩ : Option Addr) else some ⟨g2, a', none⟩) = AD) := by
 rcases own_cases (T := str) h with ⟨hv, hnil⟩ | ⟨g2, k', cs, rs, H, hv, hlc2, hcm2, hrow2, hr2, hlen2, hG⟩
 · injection hv with e1 e2 e3
   subst e1; subst e3; subst hnil
   have ha0 : a = 0 := by simp at ha; exact ha
   have ha1 : a' = 0 := by simp at ha'; exact ha'
   subst ha0; subst ha1
   exact ⟨none, [], [], ⟨⟨rfl, rfl⟩, ⟨rfl, rfl⟩, fun h => by simp at h, fun h => by simp at h⟩, .inl ⟨rfl, rfl, rfl, rfl, rfl⟩⟩
 · injection hv with e1 _ e3
   subst e1; subst e3
   obtain ⟨F1, q1, q2⟩ := part_take (T := str) rfl hrow2 hr2 ha hlc2 hcm2
   obtain ⟨AD, F2, hi, q3, q4⟩ := part_drop (T := str) rfl hrow2 (by rw [hlen2]; exact Nat.mul_one _) hr2 ha' hlc2 hcm2
   obtain ⟨ecT, _, s1, s2, _⟩ := slice_src q1
   obtain ⟨ecD, _, s3, s4, _⟩ := slice_src q3
   exact ⟨some AD, ecT, ecD, ⟨str_flat s1, str_flat s3, s2, s4⟩, .inr ⟨g2, rfl, by omega, hi⟩⟩
theorem own_below {B : Nat} {w w' : World} {v : Value} (ho : Only v.ownBlock.toList w w') (hB : B ≤ w.heap.size) (hv : ∀ b ∈ v.ownBlock.toList, B ≤ b) : Below B w w' := ho.below hB hv
theorem own_from {B : Nat} {w : World} {v v' : Value} (p : ∀ b ∈ v'.ownBlock.toList, b ∈ v.ownBlock.toList ∨ w.heap.size ≤ b) (hv : ∀ b ∈ v.ownBlock.toList, B ≤ b) (hB : B ≤ w.heap.size) : Hid (∀ b ∈ v'.ownBlock.toList, B ≤ b) := fun b hb => by
 rcases p b hb with h | h
 · exact hv b h
 · omega
theorem own_new (w : World) (n c : Nat) : ∀ b ∈ (Value.slice (some ⟨w.heap.size, 0, none⟩) n c).ownBlock.toList, w.heap.size ≤ b := by
 intro b hb
 have h : b = w.heap.size := by simpa [Value.ownBlock] using hb
 omega
set_option maxRecDepth 100000 in
set_option maxHeartbeats 4000000 in
theorem spec_l27Apply_ins {o : Bool} {e : TypeId} {ls : List PLine} {v : Value} {F : List Nat} {gs : Nat} (s : PStep) (w : World) (h : (pLines e).rep o w ls [v] F) (hs : Row w gs 161 (pStepCells s)) (hok : LinesOk ls) (n a : Nat) (hn : n < ls.length) (ha : a ≤ ls[n].length) (hl : ls[n].length < 12) (h1 : s.line = n) (h2 : s.pos = a) (hk : s.kind = 1) (hws : s.word.size ≤ maxLen) :
 Calls Tryz.prog 107 #[v, .pointer (some ⟨gs, 0, none⟩)] w (Gives (pLines 159) (stepL ls s) w) := by
 rw [stepL_ins hn h1 h2 hk]
 obtain ⟨kd, ln, ps, wd, od⟩ := s
 dsimp only at *
 subst h1 h2 hk
 have hf := hok.few
 have hwl := hok.words
 have CC := fun w' (q : (pLines e).rep o w' ls [v] F) => spec_l27Copy_c w' q (by omega) hwl
 have HCC := Lib.hid CC
 have s0 := hs.c0
 have s1 := hs.c1
 have s2 := hs.c2
 have s3 := hs.c3
 have s4 := hs.c4
 have sl := hs.lt
 obtain ⟨A0, k0, rfl⟩ := slice_len h
 clear CC hs
 go_enter Tryz.func107, Tryz.ntmps107
 go_wp2_with fail
 refine (HCC.out _ h).mono ?_
 rintro e' w1 ⟨u1, G, rfl, r1, f1, b1⟩
 rw [← b1.cell (p := ⟨gs, _, none⟩) sl] at s0 s1 s2 s3 s4
 have hz := b1.size
 have sl1 : gs < w1.heap.size := by omega
 obtain ⟨g, c, c1, ck, c2, rest, G1, Gk, G2, rfl, hlc, hcm, hrow, hl1, hlen, hp1, hpk, hp2, rfl⟩ := own_open rfl r1 hn
 obtain ⟨A, k, rfl⟩ := slice_len hpk
 have hcell := hrow.cell' (i := n) (by rw [List.getElem?_append_right (by omega), hl1]; simp; rfl)
 have gi : (n : Int) < (ls.length : Int) := by omega
 have l12 := hok.each _ (List.getElem_mem hn)
 have gw := hrow.lt
 obtain ⟨AD, ecT, ecD, ⟨pT, pD, cT, cD⟩, hshape⟩ := parts_of (a := a) (a' := a) hpk (by omega) (by omega)
 have hXL : (ls[n].take a).length = a := by rw [List.length_take]; omega
 have hYL : (ls[n].drop (a)).length = ls[n].length - (a) := by rw [List.length_drop]
 generalize hXT : ls[n].take a = XT at *
 generalize hYT : ls[n].drop (a) = YT at *
 have HXT := Lib.hid hXT
 have HYT := Lib.hid hYT
 have HXL := Lib.hid hXL
 have HYL := Lib.hid hYL
 have PT := Lib.hid pT
 have PD := Lib.hid pD
 have CT := Lib.hid cT
 have CD := Lib.hid cD
 have RW := Lib.hid hrow
 have P1 := Lib.hid hp1
 have P2 := Lib.hid hp2
 have FR := Lib.hid f1
 have BL := Lib.hid r1.blocks
 have HB := Lib.hid b1
 have HL := Lib.hid hl1
 have HLN := Lib.hid hlen
 have ga : (a : Int) ≤ (ls[n].length : Int) := by omega
 unfold maxLen at hcm
 clear hXT hYT hXL hYL pT pD cT cD hrow hp1 hp2 f1 b1 hl1 hlen hpk r1
 rcases hshape with ⟨rfl, rfl, rfl, rfl, hl0⟩ | ⟨g2, rfl, hak, hif⟩
 all_goals
  first | (have HYL2 : Hid (YT.length = 0) := (by show _ = _; rw [HYL.out]; omega)) | (have HYL2 := HYL)
  go_wp2_with (first
   | (at_builtin; refine wpList_append_repX (T := str) (e := 9) (ys := XT) rfl (.tmp 29) (.tmp 35) rfl Tryz.underlying39 Tryz.infoStr rfl (by decide) rfl (empty_is str _ _) (by rw [HXL.out]; rfl) (repL_alloc PT.out _) (CT.out.alloc _) trivial (by simp) (by simp only [HXL.out, maxLen, List.length_nil]; omega) (by simp only [HXL.out, List.length_nil]; omega) ?_; intro v2 w2 F2 r2 o2 q2 p2; obtain ⟨A2, N2, k2, rfl⟩ := slice_form r2; have hz2 := o2.size; have hown2 := own_from p2.2.2 (own_new w1 0 0) (by simp); have hb2 : Below w1.heap.size w1 w2 := ((Below.refl _ _).alloc (Nat.le_refl _) _).trans (own_below p2.2.1 (by simp) (own_new w1 0 0)); have hf2 := Lib.hid (q2 w1.heap.size ⟨by simp, by simp⟩ (by simp)); have R2 := Lib.hid r2; have HB2 := Lib.hid hb2; obtain ⟨hcc2, hff2⟩ := bcell hb2; clear r2 o2 q2 p2 hb2)
   | (at_builtin; refine wpList_append_repX (T := str) (e := 9) (ys := [wd]) rfl (.tmp 37) (.tmp 42) rfl Tryz.underlying39 Tryz.infoStr rfl (by decide) rfl (R2.out.alloc _) rfl (repL_single.2 ⟨rfl, rfl, hws⟩) (cellsAt_new _ _ _) trivial (by simpa using hf2.out.1) (by simp only [HXL.out, maxLen, List.nil_append, List.length_singleton]; omega) (by simp only [HXL.out, List.nil_append, List.length_singleton]; omega) ?_; intro v3 w3 F3 r3 o3 q3 p3; obtain ⟨A3, N3, k3, rfl⟩ := slice_form r3; have hz3 := o3.size; simp only [World.size_alloc] at hz2 hz3; have hown3 := own_from p3.2.2 hown2.out (by simp; omega); have hb3 : Below w1.heap.size w1 w3 := (HB2.out.alloc (by omega) _).trans (own_below p3.2.1 (by simp; omega) hown2.out); have hf3 := Lib.hid (q3 w1.heap.size ⟨by simpa using hf2.out.1, fun b hb => hf2.out.2 b (by simpa using hb)⟩ (by simp; omega)); have R3 := Lib.hid r3; have HB3 := Lib.hid hb3; clear hcc2 hff2; obtain ⟨hcc2, hff2⟩ := bcell hb3; clear r3 o3 q3 p3 hb3))
  have hz1 := HB3.out.size
  go_region_law ((first | refine step_append_repX (T := str) (e := 9) (ys := YT) (c := k - a) rfl (.tmp 49) (.tmp 55) rfl Tryz.underlying39 Tryz.infoStr rfl (by decide) (by simp [Act.eval, Act.put]) R3.out.drew (by rw [HYL2.out]; simp [Act.eval, Act.put]) (repL_kept (repL_below PD.out HB3.out) (fun _ _ => rfl)) (CD.out.below HB3.out).drew (by simpa using hf3.out.1) (by simp only [HXL.out, HYL.out, maxLen, List.length_append, List.length_nil, List.length_singleton]; omega) (by simp only [HXL.out, HYL.out, List.length_append, List.length_nil, List.length_singleton]; omega) ?_ | refine step_append_repX (T := str) (e := 9) (ys := YT) (c := 0) rfl (.tmp 49) (.tmp 55) rfl Tryz.underlying39 Tryz.infoStr rfl (by decide) (by simp [Act.eval, Act.put]) R3.out.drew (by rw [HYL2.out]; simp [Act.eval, Act.put]) (repL_kept (repL_below PD.out HB3.out) (fun _ _ => rfl)) (CD.out.below HB3.out).drew (by simpa using hf3.out.1) (by simp only [HXL.out, HYL.out, maxLen, List.length_append, List.length_nil, List.length_singleton]; omega) (by simp only [HXL.out, HYL.out, List.length_append, List.length_nil, List.length_singleton]; omega) ?_); intro v4 w4 F4 r4 o4 q4 p4; obtain ⟨A4, N4, k4, rfl⟩ := slice_form r4; have hb4 : Below w1.heap.size w1 w4 := HB3.out.drew.trans (own_below p4.2.1 (by simp; omega) hown3.out); have R4 := RW.out.below hb4 gw; obtain ⟨⟨v0, hv0⟩, hf0⟩ := R4.can (i := n) (by rw [HLN.out]; omega); have hf4 := Lib.hid (q4 w1.heap.size ⟨by simpa using hf3.out.1, fun b hb => hf3.out.2 b (by simpa using hb)⟩ (by simp; omega)); have HR4 := Lib.hid r4; have HB4 := Lib.hid hb4; obtain ⟨hcc4, hff4⟩ := bcell hb4; have HRW4 := Lib.hid R4; clear r4 o4 q4 p4 hb4 R4)
  all_goals
   go_wp2_with fail
   go_ret
   have FS := fresh_set (Fy := []) (N := w1.heap.size) FR.out BL.out (by simp) (by omega) (F' := F4) hf4.out.1 (fun b hb => .inr (hf4.out.2 b hb))
   have fin := own_set (T := pLine) (xs := ls) (k := n) rfl hn HRW4.out HL.out HLN.out hlc (by unfold maxLen; omega) (repL_below P1.out HB4.out) HR4.out (repL_below P2.out HB4.out) (List.nodup_cons.1 FS.1).1
   rw [← HXT.out, ← HYT.out, List.append_assoc] at fin
   refine ⟨_, _, rfl, fin, FS, ?_⟩
   exact (HB.out.trans (HB4.out.mono hz)).setCell (FR.out.2 g (by simp)) _
set_option maxRecDepth 100000 in
set_option maxHeartbeats 4000000 in
theorem spec_l27Apply_del {o : Bool} {e : TypeId} {ls : List PLine} {v : Value} {F : List Nat} {gs : Nat} (s : PStep) (w : World) (h : (pLines e).rep o w ls [v] F) (hs : Row w gs 161 (pStepCells s)) (hok : LinesOk ls) (n a : Nat) (hn : n < ls.length) (ha : a < ls[n].length) (h1 : s.line = n) (h2 : s.pos = a) (hk : s.kind = 2) :
 Calls Tryz.prog 107 #[v, .pointer (some ⟨gs, 0, none⟩)] w (Gives (pLines 159) (stepL ls s) w) := by
 rw [stepL_del hn h1 h2 hk]
 obtain ⟨kd, ln, ps, wd, od⟩ := s
 dsimp only at *
 subst h1 h2 hk
 have hf := hok.few
 have hwl := hok.words
 have CC := fun w' (q : (pLines e).rep o w' ls [v] F) => spec_l27Copy_c w' q (by omega) hwl
 have HCC := Lib.hid CC
 have s0 := hs.c0
 have s1 := hs.c1
 have s2 := hs.c2
 have s3 := hs.c3
 have s4 := hs.c4
 have sl := hs.lt
 obtain ⟨A0, k0, rfl⟩ := slice_len h
 clear CC hs
 go_enter Tryz.func107, Tryz.ntmps107
 go_wp2_with fail
 refine (HCC.out _ h).mono ?_
 rintro e' w1 ⟨u1, G, rfl, r1, f1, b1⟩
 rw [← b1.cell (p := ⟨gs, _, none⟩) sl] at s0 s1 s2 s3 s4
 have hz := b1.size
 have sl1 : gs < w1.heap.size := by omega
 obtain ⟨g, c, c1, ck, c2, rest, G1, Gk, G2, rfl, hlc, hcm, hrow, hl1, hlen, hp1, hpk, hp2, rfl⟩ := own_open rfl r1 hn
 obtain ⟨A, k, rfl⟩ := slice_len hpk
 have hcell := hrow.cell' (i := n) (by rw [List.getElem?_append_right (by omega), hl1]; simp; rfl)
 have gi : (n : Int) < (ls.length : Int) := by omega
 have l12 := hok.each _ (List.getElem_mem hn)
 have gw := hrow.lt
 obtain ⟨AD, ecT, ecD, ⟨pT, pD, cT, cD⟩, hshape⟩ := parts_of (a := a) (a' := a + 1) hpk (by omega) (by omega)
 have hXL : (ls[n].take a).length = a := by rw [List.length_take]; omega
 have hYL : (ls[n].drop (a + 1)).length = ls[n].length - (a + 1) := by rw [List.length_drop]
 generalize hXT : ls[n].take a = XT at *
 generalize hYT : ls[n].drop (a + 1) = YT at *
 have HXT := Lib.hid hXT
 have HYT := Lib.hid hYT
 have HXL := Lib.hid hXL
 have HYL := Lib.hid hYL
 have PT := Lib.hid pT
 have PD := Lib.hid pD
 have CT := Lib.hid cT
 have CD := Lib.hid cD
 have RW := Lib.hid hrow
 have P1 := Lib.hid hp1
 have P2 := Lib.hid hp2
 have FR := Lib.hid f1
 have BL := Lib.hid r1.blocks
 have HB := Lib.hid b1
 have HL := Lib.hid hl1
 have HLN := Lib.hid hlen
 have ga : (a : Int) ≤ (ls[n].length : Int) := by omega
 unfold maxLen at hcm
 clear hXT hYT hXL hYL pT pD cT cD hrow hp1 hp2 f1 b1 hl1 hlen hpk r1
 have w1a := IntWalk.i64_in ((a : Int) + 1) (by omega)
 have t1 : ((a : Int) + 1).toNat = a + 1 := by omega
 have t2 : (0 : Int) ≤ (a : Int) + 1 := by omega
 have t3 : (a : Int) + 1 ≤ (ls[n].length : Int) := by omega
 have t4 : a ≤ ls[n].length := by omega
 rcases hshape with ⟨rfl, rfl, rfl, rfl, hl0⟩ | ⟨g2, rfl, hak, hif⟩
 · omega
 all_goals
  first | (have HYL2 : Hid (YT.length = 0) := (by show _ = _; rw [HYL.out]; omega)) | (have HYL2 := HYL)
  go_wp2_with (first | (at_builtin; refine wpList_append_repX (T := str) (e := 9) (ys := XT) rfl (.tmp 61) (.tmp 67) rfl Tryz.underlying39 Tryz.infoStr rfl (by decide) rfl (empty_is str _ _) (by rw [HXL.out]; rfl) (repL_alloc PT.out _) (CT.out.alloc _) trivial (by simp) (by simp only [HXL.out, maxLen, List.length_nil]; omega) (by simp only [HXL.out, List.length_nil]; omega) ?_; intro v2 w2 F2 r2 o2 q2 p2; obtain ⟨A2, N2, k2, rfl⟩ := slice_form r2; have hz2 := o2.size; have hown2 := own_from p2.2.2 (own_new w1 0 0) (by simp); have hb2 : Below w1.heap.size w1 w2 := ((Below.refl _ _).alloc (Nat.le_refl _) _).trans (own_below p2.2.1 (by simp) (own_new w1 0 0)); have hf2 := Lib.hid (q2 w1.heap.size ⟨by simp, by simp⟩ (by simp)); have R2 := Lib.hid r2; have HB2 := Lib.hid hb2; obtain ⟨hcc2, hff2⟩ := bcell hb2; clear r2 o2 q2 p2 hb2))
  simp only [World.size_alloc] at hz2
  have hz1 := HB2.out.size
  go_region_law ((first | refine step_append_repX (T := str) (e := 9) (ys := YT) (c := k - (a + 1)) rfl (.tmp 74) (.tmp 81) rfl Tryz.underlying39 Tryz.infoStr rfl (by decide) (by simp [Act.eval, Act.put]) R2.out.drew (by rw [HYL2.out]; simp [Act.eval, Act.put]) (repL_kept (repL_below PD.out HB2.out) (fun _ _ => rfl)) (CD.out.below HB2.out).drew (by simpa using hf2.out.1) (by simp only [HXL.out, HYL.out, maxLen, List.nil_append]; omega) (by simp only [HXL.out, HYL.out, List.nil_append]; omega) ?_ | refine step_append_repX (T := str) (e := 9) (ys := YT) (c := 0) rfl (.tmp 74) (.tmp 81) rfl Tryz.underlying39 Tryz.infoStr rfl (by decide) (by simp [Act.eval, Act.put]) R2.out.drew (by rw [HYL2.out]; simp [Act.eval, Act.put]) (repL_kept (repL_below PD.out HB2.out) (fun _ _ => rfl)) (CD.out.below HB2.out).drew (by simpa using hf2.out.1) (by simp only [HXL.out, HYL.out, maxLen, List.length_nil, List.nil_append]; omega) (by simp only [HXL.out, HYL.out, List.length_nil, List.nil_append]; omega) ?_); intro v4 w4 F4 r4 o4 q4 p4; obtain ⟨A4, N4, k4, rfl⟩ := slice_form r4; have hb4 : Below w1.heap.size w1 w4 := HB2.out.drew.trans (own_below p4.2.1 (by simp; omega) hown2.out); have R4 := RW.out.below hb4 gw; obtain ⟨⟨v0, hv0⟩, hf0⟩ := R4.can (i := n) (by rw [HLN.out]; omega); have hf4 := Lib.hid (q4 w1.heap.size ⟨by simpa using hf2.out.1, fun b hb => hf2.out.2 b (by simpa using hb)⟩ (by simp; omega)); have HR4 := Lib.hid r4; have HB4 := Lib.hid hb4; obtain ⟨hcc4, hff4⟩ := bcell hb4; have HRW4 := Lib.hid R4; clear r4 o4 q4 p4 hb4 R4)
  all_goals
   go_wp2_with fail
   go_ret
   have FS := fresh_set (Fy := []) (N := w1.heap.size) FR.out BL.out (by simp) (by omega) (F' := F4) hf4.out.1 (fun b hb => .inr (hf4.out.2 b hb))
   have fin := own_set (T := pLine) (xs := ls) (k := n) rfl hn HRW4.out HL.out HLN.out hlc (by unfold maxLen; omega) (repL_below P1.out HB4.out) HR4.out (repL_below P2.out HB4.out) (List.nodup_cons.1 FS.1).1
   rw [← HXT.out, ← HYT.out] at fin
   refine ⟨_, _, rfl, fin, FS, ?_⟩
   exact (HB.out.trans (HB4.out.mono hz)).setCell (FR.out.2 g (by simp)) _
end Go.Proofs.YtboijogahclekaaGreatDoor
