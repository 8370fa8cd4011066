/- Pages: lines after a step, in the reference: the other kinds. Conditions: none. -/
import Derived.Test.YtboijogahclekaaGreatDoorPgApplyk
namespace Go.Proofs.YtboijogahclekaaGreatDoor
open Go Go.RowKit
set_option maxRecDepth 100000 in
set_option maxHeartbeats 4000000 in
theorem spec_l27Apply_rep {o : Bool} {e : TypeId} {ls : List PLine} {v : Value} {F : List Nat} {gs : Nat} (s : PStep) (w : World) (h : (pLines e).rep o w ls [v] F) (hs : Row w gs 161 (pStepCells s)) (hok : LinesOk ls) (n a : Nat) (hn : n < ls.length) (ha : a < ls[n].length) (h1 : s.line = n) (h2 : s.pos = a) (hk : s.kind = 3) (hws : s.word.size ≤ maxLen) :
 Calls Tryz.prog 107 #[v, .pointer (some ⟨gs, 0, none⟩)] w (Gives (pLines 159) (stepL ls s) w) := by
 rw [stepL_rep hn h1 h2 hk]
 obtain ⟨kd, ln, ps, wd, od⟩ := s
 dsimp only at *
 subst h1 h2 hk
 have hf := hok.few
 have hwl := hok.words
 have CC := fun w' (q : (pLines e).rep o w' ls [v] F) => spec_l27Copy_c w' q (by omega) hwl
 have HCC := Lib.hid CC
 have s0 := hs.c0
 have s1 := hs.c1
 have s2 := hs.c2
 have s3 := hs.c3
 have s4 := hs.c4
 have sl := hs.lt
 obtain ⟨A0, k0, rfl⟩ := slice_len h
 clear CC hs
 go_enter Tryz.func107, Tryz.ntmps107
 go_wp2_with fail
 refine (HCC.out _ h).mono ?_
 rintro e' w1 ⟨u1, G, rfl, r1, f1, b1⟩
 rw [← b1.cell (p := ⟨gs, _, none⟩) sl] at s0 s1 s2 s3 s4
 have hz := b1.size
 have sl1 : gs < w1.heap.size := by omega
 obtain ⟨g, c, c1, ck, c2, rest, G1, Gk, G2, rfl, hlc, hcm, hrow, hl1, hlen, hp1, hpk, hp2, rfl⟩ := own_open rfl r1 hn
 obtain ⟨A, k, rfl⟩ := slice_len hpk
 have hcell := hrow.cell' (i := n) (by rw [List.getElem?_append_right (by omega), hl1]; simp; rfl)
 have gi : (n : Int) < (ls.length : Int) := by omega
 have l12 := hok.each _ (List.getElem_mem hn)
 have gw := hrow.lt
 obtain ⟨g2, k', d1, dk, d2, rest2, H1, Hk, H2, hv2, hlc2, hcm2, hrow2, hl2, hlen2, hq1, hqk, hq2, hF2⟩ := own_open (T := str) rfl hpk ha
 injection hv2 with e1 _ e2
 subst e1; subst e2
 obtain ⟨⟨v0, hv0⟩, hf0⟩ := hrow2.can (i := a) (by rw [hlen2]; omega)
 have gi2 : (a : Int) < (ls[n].length : Int) := by omega
 have HR2 := Lib.hid hrow2
 have HL2 := Lib.hid hl2
 have HLN2 := Lib.hid hlen2
 have HF2 := Lib.hid hF2
 have RW := Lib.hid hrow
 have P1 := Lib.hid hp1
 have P2 := Lib.hid hp2
 have FR := Lib.hid f1
 have HB := Lib.hid b1
 have HL := Lib.hid hl1
 have HLN := Lib.hid hlen
 clear hrow2 hl2 hlen2 hF2 hrow hp1 hp2 f1 b1 hl1 hlen hpk r1
 go_wp2_with fail
 go_still_tail 17, (by kernel_rfl)
 go_wp2_with fail
 go_ret
 have n1 := List.nodup_cons.1 FR.out.1
 have n2 := List.nodup_append.1 n1.2
 have n3 := List.nodup_append.1 n2.2.1
 have hd2 := HF2.out
 have hg2 : g2 ∈ Gk := by rw [hd2]; simp
 have hnk : (g2 :: (H1 ++ (Hk ++ H2))).Nodup := by rw [← hd2]; exact n3.1
 obtain ⟨rfl, rfl⟩ : dk = .string ls[n][a] ∧ Hk = [] := by
  obtain ⟨h, h', _⟩ := hqk
  exact ⟨by simpa using h, h'⟩
 have key : pLine.rep true (w1.drew.setCell ⟨g2, a, none⟩ (.string wd)) (ls[n].set a wd) [.slice (some ⟨g2, 0, none⟩) ls[n].length k] Gk := by
  rw [hd2]
  exact own_set (T := str) (Gy := []) rfl ha HR2.out.drew HL2.out HLN2.out hlc2 hcm2 (repL_kept hq1 fun _ _ => rfl) ⟨rfl, rfl, hws⟩ (repL_kept hq2 fun _ _ => rfl) (fun hin => (List.nodup_cons.1 hnk).1 (by simpa using hin))
 have hgg : g ≠ g2 := fun e => n1.1 (by subst e; simp [hg2])
 have R2 := RW.out.drew.far (p := ⟨g2, a, none⟩) hgg (.string wd)
 have K1 := repL_set (repL_kept (w' := w1.drew) P1.out fun _ _ => rfl) (p := ⟨g2, a, none⟩) (fun hin => n2.2.2 _ hin _ (by simp [hg2]) rfl) (.string wd)
 have K2 := repL_set (repL_kept (w' := w1.drew) P2.out fun _ _ => rfl) (p := ⟨g2, a, none⟩) (fun hin => n3.2.2 _ hg2 _ hin rfl) (.string wd)
 refine ⟨_, _, rfl, own_keep (T := pLine) rfl hn R2 HL.out HLN.out hlc hcm K1 key K2, FR.out, ?_⟩
 exact HB.out.drew.setCell (FR.out.2 g2 (by simp [hg2])) _
theorem brk_nodup {G1 F2 F3 F4 : List Nat} {a b c : Nat} (hab : a ≤ b) (hbc : b ≤ c) (h1 : ∀ x ∈ G1, x < a) (h2n : F2.Nodup) (h2 : ∀ x ∈ F2, a ≤ x ∧ x < b) (h3n : F3.Nodup) (h3 : ∀ x ∈ F3, b ≤ x ∧ x < c) (h4n : F4.Nodup) (h4 : ∀ x ∈ F4, x ∈ G1 ∨ c ≤ x) : (F4 ++ (F2 ++ (F3 ++ []))).Nodup := by
 refine nodup_app h4n (nodup_app h2n (by simpa using h3n) fun x k1 k2 => ?_) fun x k1 k2 => ?_
 · have := h2 x k1; have := h3 x (by simpa using k2); omega
 · have h5 : a ≤ x ∧ x < c := by
    rcases List.mem_append.1 k2 with k | k
    · have := h2 x k; omega
    · have := h3 x (by simpa using k); omega
   rcases h4 x k1 with k | k
   · have := h1 x k; omega
   · omega
theorem brk_in {G1 F2 F3 F4 F5 : List Nat} {a b c N : Nat} (h5 : ∀ x ∈ F5, x ∈ F4 ++ (F2 ++ (F3 ++ [])) ∨ N ≤ x) (hab : a ≤ b) (hbc : b ≤ c) (hN : a ≤ N) (h2 : ∀ x ∈ F2, a ≤ x) (h3 : ∀ x ∈ F3, b ≤ x) (h4 : ∀ x ∈ F4, x ∈ G1 ∨ c ≤ x) : ∀ x ∈ F5, x ∈ G1 ∨ a ≤ x := by
 intro x hx
 rcases h5 x hx with h | h
 · simp only [List.mem_append, List.not_mem_nil, or_false] at h
   rcases h with h | h | h
   · rcases h4 x h with k | k
     · exact .inl k
     · exact .inr (by omega)
   · exact .inr (h2 x h)
   · exact .inr (by have := h3 x h; omega)
 · exact .inr (by omega)
set_option maxRecDepth 100000 in
set_option maxHeartbeats 4000000 in
theorem spec_l27Apply_brk {o : Bool} {e : TypeId} {ls : List PLine} {v : Value} {F : List Nat} {gs : Nat} (s : PStep) (w : World) (h : (pLines e).rep o w ls [v] F) (hs : Row w gs 161 (pStepCells s)) (hok : LinesOk ls) (n a : Nat) (hn : n < ls.length) (ha : a ≤ ls[n].length) (h1 : s.line = n) (h2 : s.pos = a) (hk : s.kind = 4) :
 Calls Tryz.prog 107 #[v, .pointer (some ⟨gs, 0, none⟩)] w (Gives (pLines 159) (stepL ls s) w) := by
 rw [stepL_brk hn h1 h2 hk]
 obtain ⟨kd, ln, ps, wd, od⟩ := s
 dsimp only at *
 subst h1 h2 hk
 have hf := hok.few
 have hwl := hok.words
 have CC := fun w' (q : (pLines e).rep o w' ls [v] F) => spec_l27Copy_c w' q (by omega) hwl
 have HCC := Lib.hid CC
 have s0 := hs.c0
 have s1 := hs.c1
 have s2 := hs.c2
 have s3 := hs.c3
 have s4 := hs.c4
 have sl := hs.lt
 obtain ⟨A0, k0, rfl⟩ := slice_len h
 clear CC hs
 go_enter Tryz.func107, Tryz.ntmps107
 go_wp2_with fail
 refine (HCC.out _ h).mono ?_
 rintro e' w1 ⟨u1, G, rfl, r1, f1, b1⟩
 rw [← b1.cell (p := ⟨gs, _, none⟩) sl] at s0 s1 s2 s3 s4
 have hz := b1.size
 have sl1 : gs < w1.heap.size := by omega
 obtain ⟨g, c, c1, ck, c2, rest, G1, Gk, G2, rfl, hlc, hcm, hrow, hl1, hlen, hp1, hpk, hp2, rfl⟩ := own_open rfl r1 hn
 obtain ⟨A, k, rfl⟩ := slice_len hpk
 have hcell := hrow.cell' (i := n) (by rw [List.getElem?_append_right (by omega), hl1]; simp; rfl)
 have gi : (n : Int) < (ls.length : Int) := by omega
 have l12 := hok.each _ (List.getElem_mem hn)
 have gw := hrow.lt
 obtain ⟨cA, ADo, hifo, cB⟩ := own_parts hrow hl1 hlen
 have CA := Lib.hid cA
 have CB := Lib.hid cB
 have w1a := IntWalk.i64_in ((n : Int) + 1) (by omega)
 have t1 : ((n : Int) + 1).toNat = n + 1 := by omega
 have t2 : (0 : Int) ≤ (n : Int) + 1 := by omega
 have t3 : (n : Int) + 1 ≤ (ls.length : Int) := by omega
 have t4 : n ≤ c := by omega
 have t5 : (n : Int) ≤ (c : Int) := by omega
 have hNT : Hid ((ls.take n).length = n) := by show _ = _; rw [List.length_take]; omega
 have hND : Hid ((ls.drop (n + 1)).length = ls.length - (n + 1)) := by show _ = _; rw [List.length_drop]
 clear cA cB
 obtain ⟨AD, ecT, ecD, ⟨pT, pD, cT, cD⟩, hshape⟩ := parts_of (a := a) (a' := a) hpk (by omega) (by omega)
 have hXL : (ls[n].take a).length = a := by rw [List.length_take]; omega
 have hYL : (ls[n].drop (a)).length = ls[n].length - (a) := by rw [List.length_drop]
 generalize hXT : ls[n].take a = XT at *
 generalize hYT : ls[n].drop (a) = YT at *
 have HXT := Lib.hid hXT
 have HYT := Lib.hid hYT
 have HXL := Lib.hid hXL
 have HYL := Lib.hid hYL
 have PT := Lib.hid pT
 have PD := Lib.hid pD
 have CT := Lib.hid cT
 have CD := Lib.hid cD
 have RW := Lib.hid hrow
 have P1 := Lib.hid hp1
 have P2 := Lib.hid hp2
 have FR := Lib.hid f1
 have BL := Lib.hid r1.blocks
 have HB := Lib.hid b1
 have HL := Lib.hid hl1
 have HLN := Lib.hid hlen
 have ga : (a : Int) ≤ (ls[n].length : Int) := by omega
 unfold maxLen at hcm
 clear hXT hYT hXL hYL pT pD cT cD hrow hp1 hp2 f1 b1 hl1 hlen hpk r1
 have FN := Lib.hid (List.nodup_append.1 (List.nodup_cons.1 FR.out.1).2)
 rcases hshape with ⟨rfl, rfl, rfl, rfl, hl0⟩ | ⟨g2, rfl, hak, hif⟩
 all_goals
  first | (have HYL2 : Hid (YT.length = 0) := (by show _ = _; rw [HYL.out]; omega)) | (have HYL2 := HYL)
  go_wp2_with (first
   | (at_builtin; refine wpList_append_repX (T := str) (e := 9) (ys := XT) rfl (.tmp 106) (.tmp 112) rfl Tryz.underlying39 Tryz.infoStr rfl (by decide) rfl (empty_is str _ _) (by rw [HXL.out]; rfl) (repL_alloc PT.out _) (CT.out.alloc _) trivial (by simp) (by simp only [HXL.out, maxLen, List.length_nil]; omega) (by simp only [HXL.out, List.length_nil]; omega) ?_; intro v2 w2 F2 r2 o2 q2 p2; obtain ⟨A2, N2, k2, rfl⟩ := slice_form r2; have hz2 := o2.size; simp only [World.size_alloc] at hz2; have sl2 : gs < w2.heap.size := (by omega); have hb2 : Below w1.heap.size w1 w2 := ((Below.refl _ _).alloc (Nat.le_refl _) _).trans (own_below p2.2.1 (by simp) (own_new w1 0 0)); have hf2 := Lib.hid (q2 w1.heap.size ⟨by simp, by simp⟩ (by simp)); have R2 := Lib.hid r2; have HB2 := Lib.hid hb2; obtain ⟨hcc2, hff2⟩ := bcell hb2; clear r2 o2 q2 p2 hb2)
   | (at_builtin; refine wpList_append_repX (T := str) (e := 9) (ys := YT) (c := k - a) rfl (.tmp 114) (.tmp 120) rfl Tryz.underlying39 Tryz.infoStr rfl (by decide) rfl (empty_is str _ _) (by rw [HYL2.out]; rfl) (repL_alloc (repL_below PD.out HB2.out) _) ((CD.out.below HB2.out).alloc _) trivial (by simp) (by simp only [HYL.out, maxLen, List.length_nil]; omega) (by simp only [HYL.out, List.length_nil]; omega) ?_; intro v3 w3 F3 r3 o3 q3 p3; obtain ⟨A3, N3, k3, rfl⟩ := slice_form r3; have hz3 := o3.size; simp only [World.size_alloc] at hz3; have sl3 : gs < w3.heap.size := (by omega); have hb3' : Below w2.heap.size w2 w3 := ((Below.refl _ _).alloc (Nat.le_refl _) _).trans (own_below p3.2.1 (by simp) (own_new w2 0 0)); have HB3' := Lib.hid hb3'; have hb3 := bt HB2.out hb3'; have hf3 := Lib.hid (q3 w2.heap.size ⟨by simp, by simp⟩ (by simp)); have R3 := Lib.hid r3; have HB3 := Lib.hid hb3; clear hcc2 hff2; obtain ⟨hcc2, hff2⟩ := bcell hb3; clear r3 o3 q3 p3 hb3 hb3')
   | (at_builtin; refine wpList_append_repX (T := str) (e := 9) (ys := YT) (c := 0) rfl (.tmp 114) (.tmp 120) rfl Tryz.underlying39 Tryz.infoStr rfl (by decide) rfl (empty_is str _ _) (by rw [HYL2.out]; rfl) (repL_alloc (repL_below PD.out HB2.out) _) ((CD.out.below HB2.out).alloc _) trivial (by simp) (by simp only [HYL.out, maxLen, List.length_nil]; omega) (by simp only [HYL.out, List.length_nil]; omega) ?_; intro v3 w3 F3 r3 o3 q3 p3; obtain ⟨A3, N3, k3, rfl⟩ := slice_form r3; have hz3 := o3.size; simp only [World.size_alloc] at hz3; have sl3 : gs < w3.heap.size := (by omega); have hb3' : Below w2.heap.size w2 w3 := ((Below.refl _ _).alloc (Nat.le_refl _) _).trans (own_below p3.2.1 (by simp) (own_new w2 0 0)); have HB3' := Lib.hid hb3'; have hb3 := bt HB2.out hb3'; have hf3 := Lib.hid (q3 w2.heap.size ⟨by simp, by simp⟩ (by simp)); have R3 := Lib.hid r3; have HB3 := Lib.hid hb3; clear hcc2 hff2; obtain ⟨hcc2, hff2⟩ := bcell hb3; clear r3 o3 q3 p3 hb3 hb3')
   | (at_builtin; refine wpList_append_repX (T := pLine) (e := 159) (ys := ls.take n) rfl (.tmp 122) (.tmp 128) rfl Tryz.underlying68 Tryz.infoLine rfl (by decide) rfl (empty_is pLine _ _) (by rw [hNT.out]; rfl) (repL_alloc (repL_below P1.out HB3.out) _) ((CA.out.below HB3.out).alloc _) trivial (nodup_app (by simp) FN.out.1 (fun x h1 h2 => by have := BL.out x (by simp [h2]); simp at h1; omega)) (by simp only [hNT.out, maxLen, List.length_nil]; omega) (by simp only [hNT.out, List.length_nil]; omega) ?_; intro v4 w4 F4 r4 o4 q4 p4; obtain ⟨A4, N4, k4, rfl⟩ := slice_form r4; have hz4 := o4.size; simp only [World.size_alloc] at hz4; have sl4 : gs < w4.heap.size := (by omega); have hown4 := own_from p4.2.2 (own_new w3 0 0) (by simp); have hb4' : Below w3.heap.size w3 w4 := ((Below.refl _ _).alloc (Nat.le_refl _) _).trans (own_below p4.2.1 (by simp) (own_new w3 0 0)); have HB4' := Lib.hid hb4'; have hb4 := bt HB3.out hb4'; have HF4 := Lib.hid (q4 0 ⟨nodup_app (by simp) FN.out.1 (fun x h1 h2 => by have := BL.out x (by simp [h2]); simp at h1; omega), by simp⟩ (by simp)); have HI4 : Hid (∀ b ∈ F4, b ∈ G1 ∨ w3.heap.size ≤ b) := (fun b hb => by rcases p4.1 b hb with h | h; (rcases List.mem_append.1 h with h | h; (simp at h; exact .inr (by omega)); exact .inl h); exact .inr (by simp at h; omega)); have R4 := Lib.hid r4; have HB4 := Lib.hid hb4; clear hcc2 hff2; obtain ⟨hcc2, hff2⟩ := bcell hb4; have HN5 := Lib.hid (brk_nodup (G1 := G1) (a := w1.heap.size) (b := w2.heap.size) (c := w3.heap.size) (by omega) (by omega) (fun x hx => BL.out x (by simp [hx])) hf2.out.1 (fun x hx => ⟨hf2.out.2 x hx, R2.out.blocks x hx⟩) hf3.out.1 (fun x hx => ⟨hf3.out.2 x hx, R3.out.blocks x hx⟩) HF4.out.1 HI4.out); clear r4 o4 q4 p4 hb4 hb4')
   | (at_builtin; refine wpList_append_repX (T := pLine) (e := 159) (ys := [XT, YT]) rfl (.tmp 130) (.tmp 135) rfl Tryz.underlying68 Tryz.infoLine rfl (by decide) rfl (R4.out.alloc _) rfl ⟨[_], [_], F2, F3 ++ [], rfl, rfl, ((R2.out.below (bt HB3'.out HB4'.out)).alloc _), ⟨[_], [], F3, [], rfl, rfl, ((R3.out.below HB4'.out).alloc _), rfl, rfl⟩⟩ (cellsAt_new _ _ _) trivial HN5.out (by simp only [List.nil_append, hNT.out, maxLen, List.length_cons, List.length_nil]; omega) (by simp only [List.nil_append, hNT.out, List.length_cons, List.length_nil]; omega) ?_; intro v5 w5 F5 r5 o5 q5 p5; obtain ⟨A5, N5, k5, rfl⟩ := slice_form r5; have hz5 := o5.size; simp only [World.size_alloc] at hz5; have sl5 : gs < w5.heap.size := (by omega); have hb5' : Below w3.heap.size w4 w5 := ((Below.refl _ _).alloc (by omega) _).trans (own_below p5.2.1 (by simp; omega) hown4.out); have hown5 := own_from p5.2.2 hown4.out (by simp; omega); have hb5 : Below w1.heap.size w1 w5 := HB4.out.trans (hb5'.mono (by omega)); have HI5 : Hid (∀ b ∈ F5, b ∈ G1 ∨ w1.heap.size ≤ b) := (brk_in (N := (w4.alloc (.cells #[.slice A2 N2 k2, .slice A3 N3 k3] 159)).heap.size) p5.1 (by omega) (by omega) (by simp; omega) (fun x hx => hf2.out.2 x hx) (fun x hx => hf3.out.2 x hx) HI4.out); have HF5 := Lib.hid (q5 0 ⟨HN5.out, by simp⟩ (by simp)); have R5 := Lib.hid r5; have HB5 := Lib.hid hb5; clear hcc2 hff2; obtain ⟨hcc2, hff2⟩ := bcell hb5; clear r5 o5 q5 p5 hb5 hb5')
   | (at_builtin; refine wpList_append_repX (T := pLine) (e := 159) (ys := ls.drop (n + 1)) rfl (.tmp 137) (.tmp 144) rfl Tryz.underlying68 Tryz.infoLine rfl (by decide) rfl R5.out (by rw [hND.out]; rfl) (repL_below P2.out HB5.out) (CB.out.below HB5.out) trivial (nodup_app HF5.out.1 ((List.nodup_append.1 FN.out.2.1).2.1) (fun x h1 h2 => by rcases HI5.out x h1 with h | h; exact FN.out.2.2 x h x (by simp [h2]) rfl; have := BL.out x (by simp [h2]); omega)) (by simp only [List.nil_append, List.length_append, hNT.out, hND.out, maxLen, List.length_cons, List.length_nil]; omega) (by simp only [List.nil_append, List.length_append, hNT.out, hND.out, List.length_cons, List.length_nil]; omega) ?_; intro v6 w6 F6 r6 o6 q6 p6; obtain ⟨A6, N6, k6, rfl⟩ := slice_form r6; have HF6 := Lib.hid (q6 w.heap.size ⟨nodup_app HF5.out.1 ((List.nodup_append.1 FN.out.2.1).2.1) (fun x h1 h2 => by rcases HI5.out x h1 with h | h; exact FN.out.2.2 x h x (by simp [h2]) rfl; have := BL.out x (by simp [h2]); omega), fun b hb => by rcases List.mem_append.1 hb with hb | hb; (rcases HI5.out b hb with h | h; exact FR.out.2 b (by simp [h]); omega); exact FR.out.2 b (by simp [hb])⟩ (by omega)); have HB6 := Lib.hid (HB.out.trans ((HB5.out.trans (own_below p6.2.1 (by omega) (fun b hb => by have := hown5.out b hb; omega))).mono hz)); have R6 := Lib.hid r6; clear r6 o6 q6 p6))
  go_ret
  have fin := R6.out
  rw [List.append_assoc, ← HXT.out, ← HYT.out] at fin
  exact ⟨_, _, rfl, fin, HF6.out, HB6.out⟩
theorem join_nodup {G1 Gk G2 F2 F3 : List Nat} {a b : Nat} (FN : G1.Nodup ∧ (Gk ++ G2).Nodup ∧ ∀ x ∈ G1, ∀ y ∈ Gk ++ G2, x ≠ y) (_ : Gk.Nodup) (h2n : F2.Nodup) (h3n : F3.Nodup) (h2 : ∀ x ∈ F2, x ∈ G1 ∨ a ≤ x) (h3 : ∀ x ∈ F3, x ∈ Gk ∨ b ≤ x) (h2b : ∀ x ∈ F2, x < b) (hk : ∀ x ∈ Gk, x < a) (_ : a + 1 ≤ b) : (F2 ++ F3).Nodup := by
 refine nodup_app h2n h3n fun x k1 k2 => ?_
 rcases h3 x k2 with k | k
 · rcases h2 x k1 with k' | k'
   · exact FN.2.2 x k' x (by simp [k]) rfl
   · have := hk x k; omega
 · have := h2b x k1; omega
theorem join_in {G1 Gk F2 F3 F4 : List Nat} {a b N : Nat} (h4 : ∀ x ∈ F4, x ∈ F2 ++ F3 ∨ N ≤ x) (h2 : ∀ x ∈ F2, x ∈ G1 ∨ a ≤ x) (h3 : ∀ x ∈ F3, x ∈ Gk ∨ b ≤ x) (hab : a ≤ b) (hN : a ≤ N) : ∀ x ∈ F4, x ∈ G1 ∨ x ∈ Gk ∨ a ≤ x := by
 intro x hx
 rcases h4 x hx with h | h
 · rcases List.mem_append.1 h with h | h
   · rcases h2 x h with k | k
     · exact .inl k
     · exact .inr (.inr k)
   · rcases h3 x h with k | k
     · exact .inr (.inl k)
     · exact .inr (.inr (by omega))
 · exact .inr (.inr (by omega))
theorem own_parts2 {w : World} {e : TypeId} {g c n : Nat} {c1 c3 rest : List Value} {ck cn : Value} {AD : Addr} (hrow : Row w g e (c1 ++ (ck :: (cn :: (c3 ++ rest))))) (hl1 : c1.length = n) (hlen : (c1 ++ (ck :: (cn :: (c3 ++ rest)))).length = c)
 (hif : (if c = n + 2 then (some ⟨g, 0, none⟩ : Option Addr) else some ⟨g, n + 2, none⟩) = some AD) : CellsAt w (some AD) c3 := by
 have h : Row w g e ((c1 ++ (ck :: cn :: c3)) ++ rest) := by simpa using hrow
 obtain ⟨AD', h1, h2⟩ := row_drop (c := c) h (n + 2) (by simpa using hlen) (by simp; omega)
 rw [show (c1 ++ ck :: cn :: c3).drop (n + 2) = c3 from by rw [← List.drop_drop, List.drop_left' hl1]; rfl] at h2
 rw [hif] at h1
 injection h1 with h1
 rw [h1]; exact h2
set_option maxRecDepth 100000 in
set_option maxHeartbeats 4000000 in
theorem spec_l27Apply_join {o : Bool} {e : TypeId} {ls : List PLine} {v : Value} {F : List Nat} {gs : Nat} (s : PStep) (w : World) (h : (pLines e).rep o w ls [v] F) (hs : Row w gs 161 (pStepCells s)) (hok : LinesOk ls) (n a : Nat) (hnx : n + 1 < ls.length) (hl : (ls[n]'(Nat.lt_of_succ_lt hnx)).length + ls[n + 1].length ≤ 12) (h1 : s.line = n) (h2 : s.pos = a) (hk : s.kind = 5) :
 Calls Tryz.prog 107 #[v, .pointer (some ⟨gs, 0, none⟩)] w (Gives (pLines 159) (stepL ls s) w) := by
 rw [stepL_join hnx h1 hk]
 have hn : n < ls.length := by omega
 obtain ⟨kd, ln, ps, wd, od⟩ := s
 dsimp only at *
 subst h1 h2 hk
 have hf := hok.few
 have hwl := hok.words
 have CC := fun w' (q : (pLines e).rep o w' ls [v] F) => spec_l27Copy_c w' q (by omega) hwl
 have HCC := Lib.hid CC
 have s0 := hs.c0
 have s1 := hs.c1
 have s2 := hs.c2
 have s3 := hs.c3
 have s4 := hs.c4
 have sl := hs.lt
 obtain ⟨A0, k0, rfl⟩ := slice_len h
 clear CC hs
 go_enter Tryz.func107, Tryz.ntmps107
 go_wp2_with fail
 refine (HCC.out _ h).mono ?_
 rintro e' w1 ⟨u1, G, rfl, r1, f1, b1⟩
 rw [← b1.cell (p := ⟨gs, _, none⟩) sl] at s0 s1 s2 s3 s4
 have hz := b1.size
 have sl1 : gs < w1.heap.size := by omega
 obtain ⟨g, c, c1, ck, c2, rest, G1, Gk, G2, rfl, hlc, hcm, hrow, hl1, hlen, hp1, hpk, hp2, rfl⟩ := own_open rfl r1 hn
 obtain ⟨A, k, rfl⟩ := slice_len hpk
 have hcell := hrow.cell' (i := n) (by rw [List.getElem?_append_right (by omega), hl1]; simp; rfl)
 have gi : (n : Int) < (ls.length : Int) := by omega
 have l12 := hok.each _ (List.getElem_mem hn)
 have gw := hrow.lt
 obtain ⟨cA, _⟩ := own_parts hrow hl1 hlen
 rw [List.drop_eq_getElem_cons hnx] at hp2
 obtain ⟨ckl, c3, Gn, G3, rfl, rfl, hpn, hp3⟩ := hp2
 obtain ⟨cn, rfl⟩ := pLine_one hpn
 obtain ⟨A9, k9, rfl⟩ := slice_len hpn
 have hcn := hrow.cell' (i := n + 1) (u := .slice A9 ls[n + 1].length k9) (by rw [List.getElem?_append_right (by omega), hl1]; simp)
 obtain ⟨ecn, Gs, hs1, hs2, _⟩ := slice_src hpn
 have hADo : ∃ AD : Addr, (if c = n + 2 then (some ⟨g, 0, none⟩ : Option Addr) else some ⟨g, n + 2, none⟩) = some AD := by
  by_cases hc2 : c = n + 2
  · exact ⟨⟨g, 0, none⟩, by rw [if_pos hc2]⟩
  · exact ⟨⟨g, n + 2, none⟩, by rw [if_neg hc2]⟩
 obtain ⟨ADo, hifo⟩ := hADo
 have HIF := Lib.hid hifo
 have HS1 := Lib.hid (str_flat (o' := true) hs1)
 have HS2 := Lib.hid hs2
 have CA := Lib.hid cA
 have RW := Lib.hid hrow
 have P1 := Lib.hid hp1
 have PK := Lib.hid hpk
 have P3 := Lib.hid hp3
 have FR := Lib.hid f1
 have BL := Lib.hid r1.blocks
 have HB := Lib.hid b1
 have HL := Lib.hid hl1
 have HLN := Lib.hid hlen
 have w1a := IntWalk.i64_in ((n : Int) + 1) (by omega)
 have w2a := IntWalk.i64_in ((n : Int) + 2) (by omega)
 have t1 : ((n : Int) + 1).toNat = n + 1 := by omega
 have t2 : (0 : Int) ≤ (n : Int) + 1 := by omega
 have t3 : (n : Int) + 1 < (ls.length : Int) := by omega
 have t1' : ((n : Int) + 2).toNat = n + 2 := by omega
 have t2' : (0 : Int) ≤ (n : Int) + 2 := by omega
 have t3' : (n : Int) + 2 ≤ (ls.length : Int) := by omega
 have t4 : n ≤ c := by omega
 have t5 : (n : Int) ≤ (c : Int) := by omega
 have hNT : Hid ((ls.take n).length = n) := by show _ = _; rw [List.length_take]; omega
 have hND : Hid ((ls.drop (n + 2)).length = ls.length - (n + 2)) := by show _ = _; rw [List.length_drop]
 have FN := Lib.hid (List.nodup_append.1 (List.nodup_cons.1 FR.out.1).2)
 have FK := Lib.hid (List.nodup_append.1 FN.out.2.1)
 have hgk : g ∉ Gk := fun hin => (List.nodup_cons.1 FR.out.1).1 (by simp [hin])
 have HGK := Lib.hid hgk
 clear cA hs1 hs2 hrow hp1 hpk hp3 hpn f1 b1 hl1 hlen hgk r1
 unfold maxLen at hcm
 go_wp2_with (first
  | (at_builtin; refine wpList_append_repX (T := pLine) (e := 159) (ys := ls.take n) rfl (.tmp 148) (.tmp 154) rfl Tryz.underlying68 Tryz.infoLine rfl (by decide) rfl (empty_is pLine _ _) (by rw [hNT.out]; rfl) (repL_alloc P1.out _) (CA.out.alloc _) trivial (nodup_app (by simp) FN.out.1 (fun x h1 h2 => by have := BL.out x (by simp [h2]); simp at h1; omega)) (by simp only [hNT.out, maxLen, List.length_nil]; omega) (by simp only [hNT.out, List.length_nil]; omega) ?_; intro v2 w2 F2 r2 o2 q2 p2; obtain ⟨A2, N2, k2, rfl⟩ := slice_form r2; have hz2 := o2.size; simp only [World.size_alloc] at hz2; have sl2 : gs < w2.heap.size := (by omega); have hown2 := own_from p2.2.2 (own_new w1 0 0) (by simp); have hb2 : Below w1.heap.size w1 w2 := ((Below.refl _ _).alloc (Nat.le_refl _) _).trans (own_below p2.2.1 (by simp) (own_new w1 0 0)); have HF2 := Lib.hid (q2 0 ⟨nodup_app (by simp) FN.out.1 (fun x h1 h2 => by have := BL.out x (by simp [h2]); simp at h1; omega), by simp⟩ (by simp)); have HI2 : Hid (∀ b ∈ F2, b ∈ G1 ∨ w1.heap.size ≤ b) := (fun b hb => by rcases p2.1 b hb with h | h; (rcases List.mem_append.1 h with h | h; (simp at h; exact .inr (by omega)); exact .inl h); exact .inr (by simp at h; omega)); have R2 := Lib.hid r2; have HB2 := Lib.hid hb2; obtain ⟨hcc2, hff2⟩ := bcell hb2; clear r2 o2 q2 p2 hb2)
  | (at_builtin; refine wpList_append_repX (T := str) (e := 9) (ys := ls[n + 1]) rfl (.tmp 157) (.tmp 166) rfl Tryz.underlying39 Tryz.infoStr rfl (by decide) rfl (PK.out.below HB2.out) rfl (repL_below HS1.out HB2.out) (HS2.out.below HB2.out) trivial (by simpa using FK.out.1) (by simp only [maxLen]; omega) (by omega) ?_; intro v3 w3 F3 r3 o3 q3 p3; obtain ⟨A3, N3, k3, rfl⟩ := slice_form r3; have hz3 := o3.size; have sl3 : gs < w3.heap.size := (by omega); have HF3 := Lib.hid (q3 0 ⟨by simpa using FK.out.1, by simp⟩ (by simp)); have HI3 : Hid (∀ b ∈ F3, b ∈ Gk ∨ w2.heap.size ≤ b) := (fun b hb => by rcases p3.1 b hb with h | h; exact .inl (by simpa using h); exact .inr h); have hgw2 : gs ∉ Gk := (fun hin => by have := BL.out gs (by simp [hin]); have := FR.out.2 gs (by simp [hin]); omega); have hw23 : ∀ o, w3.cell? ⟨gs, o, none⟩ = w2.cell? ⟨gs, o, none⟩ := fun o => World.cell?_of_block (o3.block gs sl2 hgw2); have R2c := Lib.hid (R2.out.only o3 (fun x hx h => by rcases HI2.out x hx with k | k; exact FN.out.2.2 x k x (by simp [h]) rfl; have := BL.out x (by simp [h]); omega)); have P3c := Lib.hid (repL_only (repL_below P3.out HB2.out) o3 (fun x hx h => FK.out.2.2 x h x (by simp [hx]) rfl)); have RWc := Lib.hid ((RW.out.later HB2.out).only o3 HGK.out); have R3 := Lib.hid r3; have O3 := Lib.hid o3; have HN4 := Lib.hid (join_nodup FN.out FK.out.1 HF2.out.1 HF3.out.1 HI2.out HI3.out (fun x hx => R2.out.blocks x hx) (fun x hx => BL.out x (by simp [hx])) hz2); clear r3 o3 q3 p3 hgw2)
  | (at_builtin; refine wpList_append_repX (T := pLine) (e := 159) (ys := [ls[n] ++ ls[n + 1]]) rfl (.tmp 156) (.tmp 169) rfl Tryz.underlying68 Tryz.infoLine rfl (by decide) rfl (R2c.out.alloc _) rfl (repL_single.2 (R3.out.alloc _)) (cellsAt_new _ _ _) trivial HN4.out (by simp only [List.nil_append, hNT.out, maxLen, List.length_singleton]; omega) (by simp only [List.nil_append, hNT.out, List.length_singleton]; omega) ?_; intro v4 w4 F4 r4 o4 q4 p4; obtain ⟨A4, N4, k4, rfl⟩ := slice_form r4; have hz4 := o4.size; simp only [World.size_alloc] at hz4; have sl4 : gs < w4.heap.size := (by omega); have hb4' : Below w1.heap.size w3 w4 := ((Below.refl _ _).alloc (by omega) _).trans (own_below p4.2.1 (by simp; omega) hown2.out); have hown4 := own_from p4.2.2 hown2.out (by simp; omega); have hw34 : ∀ o, w4.cell? ⟨gs, o, none⟩ = w3.cell? ⟨gs, o, none⟩ := fun o => hb4'.cell (p := ⟨gs, o, none⟩) sl1; have HF4 := Lib.hid (q4 0 ⟨HN4.out, by simp⟩ (by simp)); have HI4 : Hid (∀ b ∈ F4, b ∈ G1 ∨ b ∈ Gk ∨ w1.heap.size ≤ b) := (join_in (N := (w3.alloc (.cells #[.slice A3 N3 k3] 159)).heap.size) p4.1 HI2.out HI3.out (by omega) (by simp; omega)); have R4 := Lib.hid r4; have HB4 := Lib.hid hb4'; clear r4 o4 q4 p4 hb4')
  | (at_builtin; refine wpList_append_repX (T := pLine) (e := 159) (ys := ls.drop (n + 2)) rfl (.tmp 171) (.tmp 178) rfl Tryz.underlying68 Tryz.infoLine rfl (by decide) rfl R4.out (by rw [hND.out]; rfl) (repL_kept P3c.out (fun b hb => HB4.out.block b (BL.out b (by simp [hb])))) (own_parts2 (RWc.out.below HB4.out gw) HL.out HLN.out HIF.out) trivial (nodup_app HF4.out.1 (List.nodup_append.1 FK.out.2.1).2.1 (fun x h1 h2 => by rcases HI4.out x h1 with h | h | h; exact FN.out.2.2 x h x (by simp [h2]) rfl; exact FK.out.2.2 x h x (by simp [h2]) rfl; have := BL.out x (by simp [h2]); omega)) (by simp only [List.nil_append, List.length_append, hNT.out, hND.out, maxLen, List.length_singleton]; omega) (by simp only [List.nil_append, List.length_append, hNT.out, hND.out, List.length_singleton]; omega) ?_; intro v5 w5 F5 r5 o5 q5 p5; obtain ⟨A5, N5, k5, rfl⟩ := slice_form r5; have HF5 := Lib.hid (q5 w.heap.size ⟨nodup_app HF4.out.1 (List.nodup_append.1 FK.out.2.1).2.1 (fun x h1 h2 => by rcases HI4.out x h1 with h | h | h; exact FN.out.2.2 x h x (by simp [h2]) rfl; exact FK.out.2.2 x h x (by simp [h2]) rfl; have := BL.out x (by simp [h2]); omega), fun b hb => by rcases List.mem_append.1 hb with hb | hb; (rcases HI4.out b hb with h | h | h; exact FR.out.2 b (by simp [h]); exact FR.out.2 b (by simp [h]); omega); exact FR.out.2 b (by simp [hb])⟩ (by omega)); have HB5 := Lib.hid ((((HB.out.trans (HB2.out.mono hz)).trans (O3.out.below (by omega) (fun x hx => FR.out.2 x (by simp [hx])))).trans (HB4.out.mono hz)).trans (own_below p5.2.1 (by omega) (fun b hb => by have := hown4.out b hb; omega))); have R5 := Lib.hid r5; clear r5 o5 q5 p5))
 go_ret
 have fin := R5.out
 rw [List.append_assoc] at fin
 exact ⟨_, _, rfl, fin, HF5.out, HB5.out⟩
theorem spec_l27Apply_c {o : Bool} {e : TypeId} {ls : List PLine} {v : Value} {F : List Nat} {gs : Nat} (s : PStep) (w : World) (h : (pLines e).rep o w ls [v] F) (hs : Row w gs 161 (pStepCells s)) (hok : LinesOk ls) (hc : Can ls s) (hws : s.word.size ≤ maxLen) :
 Calls Tryz.prog 107 #[v, .pointer (some ⟨gs, 0, none⟩)] w (Gives (pLines 159) (stepL ls s) w) := by
 cases hc with
 | ins n a hn h1 h2 hk ha hl hw ho => exact spec_l27Apply_ins s w h hs hok n a hn ha hl h1 h2 hk hws
 | del n a hn h1 h2 hk ha hw ho => exact spec_l27Apply_del s w h hs hok n a hn ha h1 h2 hk
 | rep n a hn h1 h2 hk ha hw ho => exact spec_l27Apply_rep s w h hs hok n a hn ha h1 h2 hk hws
 | brk n a hn h1 h2 hk ha hl hw ho => exact spec_l27Apply_brk s w h hs hok n a hn ha h1 h2 hk
 | join n a hn h1 h2 hk ha hl hw ho => exact spec_l27Apply_join s w h hs hok n a hn hl h1 h2 hk
end Go.Proofs.YtboijogahclekaaGreatDoor
