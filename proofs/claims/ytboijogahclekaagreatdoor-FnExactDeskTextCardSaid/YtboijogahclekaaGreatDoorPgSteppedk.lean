/- Pages: lines after a step, in the program. Conditions: none. -/
import Derived.Test.YtboijogahclekaaGreatDoorPgCopyk
import Derived.Test.YtboijogahclekaaGreatDoorPgStepk
namespace Go.Proofs.YtboijogahclekaaGreatDoor
open Go Go.RowKit
theorem stepL_ins {ls : List PLine} {s : PStep} {n a : Nat} (hn : n < ls.length) (h1 : s.line = n) (h2 : s.pos = a) (hk : s.kind = 1) : stepL ls s = ls.set n (ls[n].take a ++ s.word :: ls[n].drop a) := by simp [stepL, hk, h1, h2, lineAt_nat hn]
theorem stepL_del {ls : List PLine} {s : PStep} {n a : Nat} (hn : n < ls.length) (h1 : s.line = n) (h2 : s.pos = a) (hk : s.kind = 2) : stepL ls s = ls.set n (ls[n].take a ++ ls[n].drop (a + 1)) := by simp [stepL, hk, h1, h2, lineAt_nat hn]
theorem stepL_rep {ls : List PLine} {s : PStep} {n a : Nat} (hn : n < ls.length) (h1 : s.line = n) (h2 : s.pos = a) (hk : s.kind = 3) : stepL ls s = ls.set n (ls[n].set a s.word) := by simp [stepL, hk, h1, h2, lineAt_nat hn]
theorem stepL_brk {ls : List PLine} {s : PStep} {n a : Nat} (hn : n < ls.length) (h1 : s.line = n) (h2 : s.pos = a) (hk : s.kind = 4) : stepL ls s = ls.take n ++ ls[n].take a :: ls[n].drop a :: ls.drop (n + 1) := by simp [stepL, hk, h1, h2, lineAt_nat hn]
theorem stepL_join {ls : List PLine} {s : PStep} {n : Nat} (hn : n + 1 < ls.length) (h1 : s.line = n) (hk : s.kind = 5) : stepL ls s = ls.take n ++ (ls[n]'(Nat.lt_of_succ_lt hn) ++ ls[n + 1]) :: ls.drop (n + 2) := by
 have q1 := lineAt_nat (show n < ls.length by omega)
 have q2 : lineAt ls ((n : Int) + 1) = ls[n + 1] := lineAt_nat hn
 simp only [stepL, hk, h1, q1, q2]; rfl
theorem join_list0 {α : Type} (l1 l2 : List α) (a b y : α) : ((l1 ++ a :: b :: l2).set l1.length y).take (l1.length + 1) ++ ((l1 ++ a :: b :: l2).set l1.length y).drop (l1.length + 1 + 1) = l1 ++ y :: l2 := by
 have e : (l1 ++ a :: b :: l2).set l1.length y = (l1 ++ [y]) ++ (b :: l2) := by simp [List.set_append_right]
 have h1 : (l1 ++ [y]).length = l1.length + 1 := by simp
 rw [e, List.take_left' h1, ← List.drop_drop, List.drop_left' h1]
 simp
theorem join_list {α : Type} {ls : List α} {n : Nat} (h : n + 1 < ls.length) (y : α) : (ls.set n y).take (n + 1) ++ (ls.set n y).drop (n + 1 + 1) = ls.take n ++ y :: ls.drop (n + 2) := by
 have e : ls = ls.take n ++ ls[n] :: ls[n + 1] :: ls.drop (n + 2) := by
  rw [← List.drop_eq_getElem_cons, ← List.drop_eq_getElem_cons, List.take_append_drop]
 have hl : (ls.take n).length = n := by rw [List.length_take]; omega
 have := join_list0 (ls.take n) (ls.drop (n + 2)) ls[n] ls[n + 1] y
 rw [hl, ← e] at this
 exact this
theorem brk_list {α : Type} {ls : List α} {n : Nat} (h : n < ls.length) (x y : α) : (ls.take (n + 1) ++ y :: ls.drop (n + 1)).set n x = ls.take n ++ x :: y :: ls.drop (n + 1) := by
 have hl : (ls.take n).length = n := by rw [List.length_take]; omega
 rw [List.take_succ_eq_append_getElem h, List.append_assoc, List.set_append_right _ _ (by omega), hl]
 simp
theorem fresh_set {B N : Nat} {g : Nat} {G1 Gk G2 Fy F' : List Nat} (h : Fresh B (g :: (G1 ++ (Gk ++ G2)))) (hlt : ∀ b ∈ g :: (G1 ++ (Gk ++ G2)), b < N) (hy : ∀ b ∈ Fy, N ≤ b) (hBN : B ≤ N) (hF : F'.Nodup) (hin : ∀ b ∈ F', b ∈ Gk ++ Fy ∨ N ≤ b) :
 Fresh B (g :: (G1 ++ (F' ++ G2))) := by
 obtain ⟨h1, h2⟩ := h
 have hin' : ∀ b ∈ F', b ∈ Gk ∨ N ≤ b := fun b hb => by
  rcases hin b hb with h | h
  · rcases List.mem_append.1 h with h | h
    · exact .inl h
    · exact .inr (hy b h)
  · exact .inr h
 have n1 := List.nodup_cons.1 h1
 have n2 := List.nodup_append.1 n1.2
 have n3 := List.nodup_append.1 n2.2.1
 refine ⟨List.nodup_cons.2 ⟨fun hg => ?_, List.nodup_append.2 ⟨n2.1, List.nodup_append.2 ⟨hF, n3.2.1, fun x hx y hy' e => ?_⟩, fun x hx y hy' e => ?_⟩⟩, fun b hb => ?_⟩
 · simp only [List.mem_append] at hg
   rcases hg with hg | hg | hg
   · exact n1.1 (by simp [hg])
   · rcases hin' g hg with h | h
     · exact n1.1 (by simp [h])
     · have := hlt g (by simp); omega
   · exact n1.1 (by simp [hg])
 · subst e
   rcases hin' x hx with h | h
   · exact n3.2.2 x h x hy' rfl
   · have := hlt x (by simp [hy']); omega
 · subst e
   rcases List.mem_append.1 hy' with h | h
   · rcases hin' x h with h | h
     · exact n2.2.2 x hx x (by simp [h]) rfl
     · have := hlt x (by simp [hx]); omega
   · exact n2.2.2 x hx x (by simp [h]) rfl
 · simp only [List.mem_cons, List.mem_append] at hb
   rcases hb with rfl | hb | hb | hb
   · exact h2 _ (by simp)
   · exact h2 _ (by simp [hb])
   · rcases hin' b hb with h | h
     · exact h2 _ (by simp [h])
     · omega
   · exact h2 _ (by simp [hb])
set_option maxRecDepth 100000 in
set_option maxHeartbeats 2000000 in
theorem impl_stepped_ins {o : Bool} {e : TypeId} {ls : List PLine} {v : Value} {F : List Nat} (s : PStep) (w : World) (h : (pLines e).rep o w ls [v] F) (hok : LinesOk ls) (n a : Nat) (hn : n < ls.length) (h1 : s.line = n) (h2 : s.pos = a) (hk : s.kind = 1) (ha : a ≤ ls[n].length) (hl : ls[n].length < 12) (hws : s.word.size ≤ maxLen) :
 Calls Tryz.prog 121 #[v, .agg #[.int .i64 s.kind, .int .i64 s.line, .int .i64 s.pos, .string s.word, .string s.old]] w (Gives (pLines 159) (stepL ls s) w) := by
 rw [stepL_ins hn h1 h2 hk]
 obtain ⟨kd, ln, ps, wd, od⟩ := s
 dsimp only at *
 subst h1 h2 hk
 have hf := hok.few
 have hwl := hok.words
 have CC := fun w' (q : (pLines e).rep o w' ls [v] F) => impl_copyLines_c w' q (by omega) hwl
 have HCC := Lib.hid CC
 obtain ⟨A0, k0, rfl⟩ := slice_len h
 clear CC
 go_enter Tryz.func121, Tryz.ntmps121
 go_wp2_with fail
 refine (HCC.out _ (h.alloc _)).mono ?_
 rintro e' w1 ⟨u1, G, rfl, r1, f1, b1⟩
 obtain ⟨hcc, hff⟩ := bcell b1
 have hz := b1.size
 simp only [World.size_alloc] at hz
 obtain ⟨g, c, c1, ck, c2, rest, G1, Gk, G2, rfl, hlc, hcm, hrow, hl1, hlen, hp1, hpk, hp2, rfl⟩ := own_open rfl r1 hn
 obtain ⟨A, k, rfl⟩ := slice_len hpk
 have hcell := hrow.cell' (i := n) (by rw [List.getElem?_append_right (by omega), hl1]; simp; rfl)
 have gi : (n : Int) < (ls.length : Int) := by omega
 go_wp2_with fail
 go_quiet (fail)
 obtain ⟨wp, HW⟩ : ∃ wp, Hid (wp = w1.drewN nq) := ⟨_, rfl⟩
 rw [show w1.drewN nq = wp from HW.out.symm]
 have bp : Below w1.heap.size w1 wp := by rw [HW.out]; exact below_drewN (Below.refl _ _) nq
 have hzp1 : wp.heap.size ≤ w1.heap.size := by rw [HW.out]; exact Nat.le_refl _
 have hzp2 : w1.heap.size ≤ wp.heap.size := by rw [HW.out]; exact Nat.le_refl _
 have ec : ∀ p, wp.cell? p = w1.cell? p := fun p => by rw [HW.out]; rfl
 have ef : ∀ p, wp.frozen? p = w1.frozen? p := fun p => by rw [HW.out]; rfl
 have Rw := Lib.hid (hrow.below bp hrow.lt)
 have P1 := Lib.hid (repL_below hp1 bp)
 have PK := Lib.hid (hpk.below bp)
 have P2 := Lib.hid (repL_below hp2 bp)
 have FR := Lib.hid f1
 have RWH := Lib.hid (r1.below bp)
 have BL := Lib.hid r1.blocks
 have HB := Lib.hid b1
 have HL := Lib.hid hl1
 have HLN := Lib.hid hlen
 clear hrow hp1 hpk hp2 f1 r1 b1 bp hl1 hlen
 go_wp2_with fail
 have nd := List.nodup_append.1 (List.nodup_append.1 (List.nodup_cons.1 FR.out.1).2).2.1
 have ndk := (List.nodup_append.1 (List.nodup_append.1 (List.nodup_cons.1 FR.out.1).2).2.1).1
 refine (Insert_Str _ (PK.out.alloc _) (y := wd) (u := .string wd) (Fy := []) ⟨rfl, rfl, hws⟩ (by simpa using ndk) (by omega) wp.heap.size (Row.new wp _ _) (fun hin => by have := BL.out wp.heap.size (by simp [hin]); omega) _ a rfl ha).mono ?_
 rintro e' w2 ⟨u2, F2, rfl, r2, q2, o2, p2, _⟩
 obtain ⟨A2, N2, k2, rfl⟩ := slice_form r2
 have n1 := List.nodup_cons.1 FR.out.1
 have n2 := List.nodup_append.1 n1.2
 have hgk : g ∉ Gk := fun hin => n1.1 (by simp [hin])
 have R2 := (Rw.out.alloc (.cells #[.string wd] 9)).only o2 hgk
 have hz2 := o2.size
 simp only [World.size_alloc] at hz2
 obtain ⟨⟨v0, hv0⟩, hf0⟩ := R2.can (i := n) (by rw [HLN.out]; omega)
 have R2' := Lib.hid R2
 have RR := Lib.hid r2
 have OO := Lib.hid o2
 clear R2 r2 o2 nd n1 n2
 go_wp2_with fail
 go_ret
 have n1 := List.nodup_cons.1 FR.out.1
 have n2 := List.nodup_append.1 n1.2
 have n3 := List.nodup_append.1 n2.2.1
 have K1 := repL_only (repL_alloc P1.out (.cells #[.string wd] 9)) OO.out (fun x hx h => n2.2.2 x hx x (by simp [h]) rfl)
 have K2 := repL_only (repL_alloc P2.out (.cells #[.string wd] 9)) OO.out (fun x hx h => n3.2.2 x h x hx rfl)
 have FS := fresh_set (Fy := []) (N := w1.heap.size) FR.out BL.out (by simp) (by simp; omega) (F' := F2) (q2 (w.heap.size + 1) ⟨by simpa using ndk, fun b hb => by have := FR.out.2 b (by simp at hb; simp [hb]); simpa using this⟩ (by simp; omega)).1 (fun b hb => by rcases p2 b hb with h | h; exact .inl h; simp at h; exact .inr (by omega))
 refine ⟨_, _, rfl, own_set (T := pLine) rfl hn R2'.out HL.out HLN.out hlc hcm K1 RR.out K2 (List.nodup_cons.1 FS.1).1, FS.mono (by simp), ?_⟩
 have hb0 : Below w.heap.size w w1 := ((Below.refl _ _).alloc (Nat.le_refl _) _).trans (HB.out.mono (by simp))
 have hb1 : Below w.heap.size w wp := by rw [show wp = w1.drewN nq from HW.out]; exact below_drewN hb0 nq
 exact (below_only' (hb1.alloc hb1.size _) OO.out (fun x hx => by have := FR.out.2 x (by simp [hx]); simp at this; omega) (by simp; omega)).setCell (by have := FR.out.2 g (by simp); simp at this; show w.heap.size ≤ g; omega) _
set_option maxRecDepth 100000 in
set_option maxHeartbeats 2000000 in
theorem impl_stepped_del {o : Bool} {e : TypeId} {ls : List PLine} {v : Value} {F : List Nat} (s : PStep) (w : World) (h : (pLines e).rep o w ls [v] F) (hok : LinesOk ls) (n a : Nat) (hn : n < ls.length) (h1 : s.line = n) (h2 : s.pos = a) (hk : s.kind = 2) (ha : a < ls[n].length) :
 Calls Tryz.prog 121 #[v, .agg #[.int .i64 s.kind, .int .i64 s.line, .int .i64 s.pos, .string s.word, .string s.old]] w (Gives (pLines 159) (stepL ls s) w) := by
 rw [stepL_del hn h1 h2 hk]
 obtain ⟨kd, ln, ps, wd, od⟩ := s
 dsimp only at *
 subst h1 h2 hk
 have hf := hok.few
 have hwl := hok.words
 have CC := fun w' (q : (pLines e).rep o w' ls [v] F) => impl_copyLines_c w' q (by omega) hwl
 have HCC := Lib.hid CC
 obtain ⟨A0, k0, rfl⟩ := slice_len h
 clear CC
 go_enter Tryz.func121, Tryz.ntmps121
 go_wp2_with fail
 refine (HCC.out _ (h.alloc _)).mono ?_
 rintro e' w1 ⟨u1, G, rfl, r1, f1, b1⟩
 obtain ⟨hcc, hff⟩ := bcell b1
 have hz := b1.size
 simp only [World.size_alloc] at hz
 obtain ⟨g, c, c1, ck, c2, rest, G1, Gk, G2, rfl, hlc, hcm, hrow, hl1, hlen, hp1, hpk, hp2, rfl⟩ := own_open rfl r1 hn
 obtain ⟨A, k, rfl⟩ := slice_len hpk
 have hcell := hrow.cell' (i := n) (by rw [List.getElem?_append_right (by omega), hl1]; simp; rfl)
 have gi : (n : Int) < (ls.length : Int) := by omega
 go_wp2_with fail
 go_quiet (fail)
 obtain ⟨wp, HW⟩ : ∃ wp, Hid (wp = w1.drewN nq) := ⟨_, rfl⟩
 rw [show w1.drewN nq = wp from HW.out.symm]
 have bp : Below w1.heap.size w1 wp := by rw [HW.out]; exact below_drewN (Below.refl _ _) nq
 have hzp1 : wp.heap.size ≤ w1.heap.size := by rw [HW.out]; exact Nat.le_refl _
 have hzp2 : w1.heap.size ≤ wp.heap.size := by rw [HW.out]; exact Nat.le_refl _
 have ec : ∀ p, wp.cell? p = w1.cell? p := fun p => by rw [HW.out]; rfl
 have ef : ∀ p, wp.frozen? p = w1.frozen? p := fun p => by rw [HW.out]; rfl
 have Rw := Lib.hid (hrow.below bp hrow.lt)
 have P1 := Lib.hid (repL_below hp1 bp)
 have PK := Lib.hid (hpk.below bp)
 have P2 := Lib.hid (repL_below hp2 bp)
 have FR := Lib.hid f1
 have RWH := Lib.hid (r1.below bp)
 have BL := Lib.hid r1.blocks
 have HB := Lib.hid b1
 have HL := Lib.hid hl1
 have HLN := Lib.hid hlen
 clear hrow hp1 hpk hp2 f1 r1 b1 bp hl1 hlen
 have l12 := hok.each _ (List.getElem_mem hn)
 have w1a := IntWalk.i64_in ((a : Int) + 1) (by omega)
 go_wp2_with fail
 have ndk := (List.nodup_append.1 (List.nodup_append.1 (List.nodup_cons.1 FR.out.1).2).2.1).1
 refine (Delete_Str _ PK.out ndk (by omega) _ _ a rfl rfl ha).mono ?_
 rintro e' w2 ⟨u2, F2, rfl, r2, q2, o2⟩
 obtain ⟨A2, N2, k2, rfl⟩ := slice_form r2
 have hgk : g ∉ Gk := fun hin => (List.nodup_cons.1 FR.out.1).1 (by simp [hin])
 have R2 := Rw.out.only o2 hgk
 have hz2 := o2.size
 obtain ⟨⟨v0, hv0⟩, hf0⟩ := R2.can (i := n) (by rw [HLN.out]; omega)
 have R2' := Lib.hid R2
 have RR := Lib.hid r2
 have OO := Lib.hid o2
 clear R2 r2 o2
 go_wp2_with fail
 go_ret
 have n1 := List.nodup_cons.1 FR.out.1
 have n2 := List.nodup_append.1 n1.2
 have n3 := List.nodup_append.1 n2.2.1
 have K1 := repL_only P1.out OO.out (fun x hx h => n2.2.2 x hx x (by simp [h]) rfl)
 have K2 := repL_only P2.out OO.out (fun x hx h => n3.2.2 x h x hx rfl)
 have FS := fresh_set (Fy := []) (N := w1.heap.size) FR.out BL.out (by simp) (by simp; omega) (F' := F2) (ndk.sublist q2) (fun b hb => .inl (by simp [q2.subset hb]))
 refine ⟨_, _, rfl, own_set (T := pLine) rfl hn R2'.out HL.out HLN.out hlc hcm K1 RR.out K2 (List.nodup_cons.1 FS.1).1, FS.mono (by simp), ?_⟩
 have hb0 : Below w.heap.size w w1 := ((Below.refl _ _).alloc (Nat.le_refl _) _).trans (HB.out.mono (by simp))
 have hb1 : Below w.heap.size w wp := by rw [show wp = w1.drewN nq from HW.out]; exact below_drewN hb0 nq
 exact (below_only' hb1 OO.out (fun x hx => by have := FR.out.2 x (by simp [hx]); simp at this; omega) hb1.size).setCell (by have := FR.out.2 g (by simp); simp at this; show w.heap.size ≤ g; omega) _
set_option maxRecDepth 100000 in
set_option maxHeartbeats 2000000 in
theorem impl_stepped_rep {o : Bool} {e : TypeId} {ls : List PLine} {v : Value} {F : List Nat} (s : PStep) (w : World) (h : (pLines e).rep o w ls [v] F) (hok : LinesOk ls) (n a : Nat) (hn : n < ls.length) (h1 : s.line = n) (h2 : s.pos = a) (hk : s.kind = 3) (ha : a < ls[n].length) (hws : s.word.size ≤ maxLen) :
 Calls Tryz.prog 121 #[v, .agg #[.int .i64 s.kind, .int .i64 s.line, .int .i64 s.pos, .string s.word, .string s.old]] w (Gives (pLines 159) (stepL ls s) w) := by
 rw [stepL_rep hn h1 h2 hk]
 obtain ⟨kd, ln, ps, wd, od⟩ := s
 dsimp only at *
 subst h1 h2 hk
 have hf := hok.few
 have hwl := hok.words
 have CC := fun w' (q : (pLines e).rep o w' ls [v] F) => impl_copyLines_c w' q (by omega) hwl
 have HCC := Lib.hid CC
 obtain ⟨A0, k0, rfl⟩ := slice_len h
 clear CC
 go_enter Tryz.func121, Tryz.ntmps121
 go_wp2_with fail
 refine (HCC.out _ (h.alloc _)).mono ?_
 rintro e' w1 ⟨u1, G, rfl, r1, f1, b1⟩
 obtain ⟨hcc, hff⟩ := bcell b1
 have hz := b1.size
 simp only [World.size_alloc] at hz
 obtain ⟨g, c, c1, ck, c2, rest, G1, Gk, G2, rfl, hlc, hcm, hrow, hl1, hlen, hp1, hpk, hp2, rfl⟩ := own_open rfl r1 hn
 obtain ⟨A, k, rfl⟩ := slice_len hpk
 have hcell := hrow.cell' (i := n) (by rw [List.getElem?_append_right (by omega), hl1]; simp; rfl)
 have gi : (n : Int) < (ls.length : Int) := by omega
 go_wp2_with fail
 go_quiet (fail)
 obtain ⟨wp, HW⟩ : ∃ wp, Hid (wp = w1.drewN nq) := ⟨_, rfl⟩
 rw [show w1.drewN nq = wp from HW.out.symm]
 have bp : Below w1.heap.size w1 wp := by rw [HW.out]; exact below_drewN (Below.refl _ _) nq
 have hzp1 : wp.heap.size ≤ w1.heap.size := by rw [HW.out]; exact Nat.le_refl _
 have hzp2 : w1.heap.size ≤ wp.heap.size := by rw [HW.out]; exact Nat.le_refl _
 have ec : ∀ p, wp.cell? p = w1.cell? p := fun p => by rw [HW.out]; rfl
 have ef : ∀ p, wp.frozen? p = w1.frozen? p := fun p => by rw [HW.out]; rfl
 have Rw := Lib.hid (hrow.below bp hrow.lt)
 have P1 := Lib.hid (repL_below hp1 bp)
 have PK := Lib.hid (hpk.below bp)
 have P2 := Lib.hid (repL_below hp2 bp)
 have FR := Lib.hid f1
 have RWH := Lib.hid (r1.below bp)
 have BL := Lib.hid r1.blocks
 have HB := Lib.hid b1
 have HL := Lib.hid hl1
 have HLN := Lib.hid hlen
 clear hrow hp1 hpk hp2 f1 r1 b1 bp hl1 hlen
 have l12 := hok.each _ (List.getElem_mem hn)
 obtain ⟨g2, k', d1, dk, d2, rest2, H1, Hk, H2, hv2, hlc2, hcm2, hrow2, hl2, hlen2, hq1, hqk, hq2, hF2⟩ := own_open (T := str) rfl PK.out ha
 injection hv2 with e1 _ e2
 subst e1; subst e2
 obtain ⟨⟨v0, hv0⟩, hf0⟩ := hrow2.can (i := a) (by rw [hlen2]; omega)
 have gi2 : (a : Int) < (ls[n].length : Int) := by omega
 have HR2 := Lib.hid hrow2
 have HL2 := Lib.hid hl2
 have HLN2 := Lib.hid hlen2
 have HF2 := Lib.hid hF2
 clear hrow2 hl2 hlen2 hF2
 rw [ec] at hv0
 rw [ef] at hf0
 go_wp2_with fail
 go_ret
 have n1 := List.nodup_cons.1 FR.out.1
 have n2 := List.nodup_append.1 n1.2
 have n3 := List.nodup_append.1 n2.2.1
 have hd2 := HF2.out
 have hg2 : g2 ∈ Gk := by rw [hd2]; simp
 have hnk : (g2 :: (H1 ++ (Hk ++ H2))).Nodup := by rw [← hd2]; exact n3.1
 obtain ⟨rfl, rfl⟩ : dk = .string ls[n][a] ∧ Hk = [] := by
  obtain ⟨h, h', _⟩ := hqk
  exact ⟨by simpa using h, h'⟩
 have key : pLine.rep true (wp.setCell ⟨g2, a, none⟩ (.string wd)) (ls[n].set a wd) [.slice (some ⟨g2, 0, none⟩) ls[n].length k] Gk := by
  rw [hd2]
  exact own_set (T := str) (Gy := []) rfl ha HR2.out HL2.out HLN2.out hlc2 hcm2 hq1 ⟨rfl, rfl, hws⟩ hq2 (fun hin => (List.nodup_cons.1 hnk).1 (by simpa using hin))
 have hgg : g ≠ g2 := fun e => n1.1 (by subst e; simp [hg2])
 have R2 := Rw.out.far (p := ⟨g2, a, none⟩) hgg (.string wd)
 have K1 := repL_set P1.out (p := ⟨g2, a, none⟩) (fun hin => n2.2.2 _ hin _ (by simp [hg2]) rfl) (.string wd)
 have K2 := repL_set P2.out (p := ⟨g2, a, none⟩) (fun hin => n3.2.2 _ hg2 _ hin rfl) (.string wd)
 refine ⟨_, _, rfl, own_keep (T := pLine) rfl hn R2 HL.out HLN.out hlc hcm K1 key K2, FR.out.mono (by simp), ?_⟩
 have hb0 : Below w.heap.size w w1 := ((Below.refl _ _).alloc (Nat.le_refl _) _).trans (HB.out.mono (by simp))
 have hb1 : Below w.heap.size w wp := by rw [show wp = w1.drewN nq from HW.out]; exact below_drewN hb0 nq
 exact hb1.setCell (by have := FR.out.2 g2 (by simp [hg2]); simp at this; show w.heap.size ≤ g2; omega) _
set_option maxRecDepth 100000 in
set_option maxHeartbeats 2000000 in
theorem impl_stepped_join {o : Bool} {e : TypeId} {ls : List PLine} {v : Value} {F : List Nat} (s : PStep) (w : World) (h : (pLines e).rep o w ls [v] F) (hok : LinesOk ls) (n a : Nat) (hnx : n + 1 < ls.length) (hl : (ls[n]'(Nat.lt_of_succ_lt hnx)).length + ls[n + 1].length ≤ 12) (h1 : s.line = n) (h2 : s.pos = a) (hk : s.kind = 5) :
 Calls Tryz.prog 121 #[v, .agg #[.int .i64 s.kind, .int .i64 s.line, .int .i64 s.pos, .string s.word, .string s.old]] w (Gives (pLines 159) (stepL ls s) w) := by
 rw [stepL_join hnx h1 hk]
 have hn : n < ls.length := by omega
 obtain ⟨kd, ln, ps, wd, od⟩ := s
 dsimp only at *
 subst h1 h2 hk
 have hf := hok.few
 have hwl := hok.words
 have CC := fun w' (q : (pLines e).rep o w' ls [v] F) => impl_copyLines_c w' q (by omega) hwl
 have HCC := Lib.hid CC
 obtain ⟨A0, k0, rfl⟩ := slice_len h
 clear CC
 go_enter Tryz.func121, Tryz.ntmps121
 go_wp2_with fail
 refine (HCC.out _ (h.alloc _)).mono ?_
 rintro e' w1 ⟨u1, G, rfl, r1, f1, b1⟩
 obtain ⟨hcc, hff⟩ := bcell b1
 have hz := b1.size
 simp only [World.size_alloc] at hz
 obtain ⟨g, c, c1, ck, c2, rest, G1, Gk, G2, rfl, hlc, hcm, hrow, hl1, hlen, hp1, hpk, hp2, rfl⟩ := own_open rfl r1 hn
 obtain ⟨A, k, rfl⟩ := slice_len hpk
 have hcell := hrow.cell' (i := n) (by rw [List.getElem?_append_right (by omega), hl1]; simp; rfl)
 have gi : (n : Int) < (ls.length : Int) := by omega
 go_wp2_with fail
 go_quiet (fail)
 obtain ⟨wp, HW⟩ : ∃ wp, Hid (wp = w1.drewN nq) := ⟨_, rfl⟩
 rw [show w1.drewN nq = wp from HW.out.symm]
 have bp : Below w1.heap.size w1 wp := by rw [HW.out]; exact below_drewN (Below.refl _ _) nq
 have hzp1 : wp.heap.size ≤ w1.heap.size := by rw [HW.out]; exact Nat.le_refl _
 have hzp2 : w1.heap.size ≤ wp.heap.size := by rw [HW.out]; exact Nat.le_refl _
 have ec : ∀ p, wp.cell? p = w1.cell? p := fun p => by rw [HW.out]; rfl
 have ef : ∀ p, wp.frozen? p = w1.frozen? p := fun p => by rw [HW.out]; rfl
 have Rw := Lib.hid (hrow.below bp hrow.lt)
 have P1 := Lib.hid (repL_below hp1 bp)
 have PK := Lib.hid (hpk.below bp)
 have P2 := Lib.hid (repL_below hp2 bp)
 have FR := Lib.hid f1
 have RWH := Lib.hid (r1.below bp)
 have BL := Lib.hid r1.blocks
 have HB := Lib.hid b1
 have HL := Lib.hid hl1
 have HLN := Lib.hid hlen
 clear hrow hp1 hpk hp2 f1 r1 b1 bp hl1 hlen
 have w1a := IntWalk.i64_in ((n : Int) + 1) (by omega)
 have w2a := IntWalk.i64_in ((n : Int) + 2) (by omega)
 have t1 : ((n : Int) + 1).toNat = n + 1 := by omega
 have t2 : (n : Int) + 1 < (ls.length : Int) := by omega
 have t3 : (0 : Int) ≤ (n : Int) + 1 := by omega
 -- the next line
 have hP2 := P2.out
 rw [List.drop_eq_getElem_cons hnx] at hP2
 obtain ⟨ckl, c3, Gn, G3, rfl, rfl, hpn, hp3⟩ := hP2
 obtain ⟨cn, rfl⟩ := pLine_one hpn
 obtain ⟨A3, k3, rfl⟩ := slice_len hpn
 have hcn := Rw.out.cell' (i := n + 1) (u := .slice A3 ls[n + 1].length k3) (by rw [List.getElem?_append_right (by rw [HL.out]; omega), HL.out]; simp)
 rw [ec] at hcn
 obtain ⟨ecn, Gs, hs1, hs2, _⟩ := slice_src hpn
 have HS1 := Lib.hid (str_flat (o' := true) hs1)
 have HS2 := Lib.hid hs2
 have HPN := Lib.hid hpn
 have HP3 := Lib.hid hp3
 clear hs1 hs2 hpn hp3 P2
 have ndk := (List.nodup_append.1 (List.nodup_append.1 (List.nodup_cons.1 FR.out.1).2).2.1).1
 have hgk : g ∉ Gk := fun hin => (List.nodup_cons.1 FR.out.1).1 (by simp [hin])
 have HND := Lib.hid ndk
 have HGK := Lib.hid hgk
 clear ndk hgk
 go_wp2_with (at_builtin; refine wpList_append_repX (T := str) (e := 9) (ys := ls[n + 1]) rfl (.tmp 76) (.tmp 82) rfl Tryz.underlying39 Tryz.infoStr rfl (by decide) rfl PK.out rfl HS1.out HS2.out trivial (by simpa using HND.out) (by simp only [maxLen]; omega) (by omega) ?_; intro v2 w2 F2 r2 o2 q2 p2; obtain ⟨A2, N2, k2, rfl⟩ := slice_form r2; have R2 := Rw.out.only o2 HGK.out; obtain ⟨⟨v0, hv0⟩, hf0⟩ := R2.can (i := n) (by rw [HLN.out]; omega); have R2' := Lib.hid R2; have RR := Lib.hid r2; have OO := Lib.hid o2; have hz2 := o2.size; clear R2 r2 o2)
 have n1 := List.nodup_cons.1 FR.out.1
 have n2 := List.nodup_append.1 n1.2
 have n3 := List.nodup_append.1 n2.2.1
 have K1 := repL_only P1.out OO.out (fun x hx h => n2.2.2 x hx x (by simp [h]) rfl)
 have KN := HPN.out.only OO.out (fun x hx h => n3.2.2 x h x (by simp [hx]) rfl)
 have K3 := repL_only HP3.out OO.out (fun x hx h => n3.2.2 x h x (by simp [hx]) rfl)
 have K2 : repL pLine true w2 (ls.drop (n + 1)) ([.slice A3 ls[n + 1].length k3] ++ c3) (Gn ++ G3) := by
  rw [List.drop_eq_getElem_cons hnx]; exact ⟨_, _, _, _, rfl, rfl, KN, K3⟩
 have FS := fresh_set (Fy := []) (N := w1.heap.size) FR.out BL.out (by simp) (by simp; omega) (F' := F2) (q2 0 ⟨by simpa using HND.out, by simp⟩ (by simp)).1 (fun b hb => by rcases p2.1 b hb with h | h; exact .inl (by simpa using h); exact .inr (by omega))
 have fin := own_set (T := pLine) rfl hn R2'.out HL.out HLN.out hlc hcm K1 RR.out K2 (List.nodup_cons.1 FS.1).1
 have hb0 : Below w.heap.size w w1 := ((Below.refl _ _).alloc (Nat.le_refl _) _).trans (HB.out.mono (by simp))
 have hb1 : Below w.heap.size w wp := by rw [show wp = w1.drewN nq from HW.out]; exact below_drewN hb0 nq
 have hb2 : Below w.heap.size w (w2.setCell ⟨g, n, none⟩ (.slice A2 N2 k2)) := (below_only' hb1 OO.out (fun x hx => by have := FR.out.2 x (by simp [hx]); simp at this; omega) hb1.size).setCell (by have := FR.out.2 g (by simp); simp at this; show w.heap.size ≤ g; omega) _
 have hl20 := hok.few
 refine (Delete_Line _ fin FS.1 (by simp; omega) _ _ (n + 1) (by omega) (by omega) (by simp; omega)).mono ?_
 rintro e' w3 ⟨u5, F5, rfl, r5, q5, o5⟩
 have e5 : (ls.set n (ls[n] ++ ls[n + 1])).take (n + 1) ++ (ls.set n (ls[n] ++ ls[n + 1])).drop (n + 1 + 1) = ls.take n ++ (ls[n] ++ ls[n + 1]) :: ls.drop (n + 2) := by
  exact join_list hnx _
 rw [e5] at r5
 have R5 := Lib.hid r5
 have hb3 := below_only' hb2 o5 (fun x hx => by have := FS.2 x hx; simp at this; omega) hb2.size
 have HB3 := Lib.hid hb3
 have HF5 := Lib.hid ((FS.mono (B' := w.heap.size) (by simp)) : Fresh w.heap.size _)
 have HQ5 := Lib.hid q5
 clear r5 hb3 q5 o5 fin K1 KN K3 K2 hb2 e5
 go_wp2_with fail
 go_ret
 exact ⟨_, _, rfl, R5.out, ⟨HF5.out.1.sublist HQ5.out, fun b hb => HF5.out.2 b (HQ5.out.subset hb)⟩, HB3.out⟩
set_option maxRecDepth 100000 in
set_option maxHeartbeats 4000000 in
theorem impl_stepped_brk {o : Bool} {e : TypeId} {ls : List PLine} {v : Value} {F : List Nat} (s : PStep) (w : World) (h : (pLines e).rep o w ls [v] F) (hok : LinesOk ls) (n a : Nat) (hn : n < ls.length) (ha : a ≤ ls[n].length) (hl : ls.length < 20) (h1 : s.line = n) (h2 : s.pos = a) (hk : s.kind = 4) :
 Calls Tryz.prog 121 #[v, .agg #[.int .i64 s.kind, .int .i64 s.line, .int .i64 s.pos, .string s.word, .string s.old]] w (Gives (pLines 159) (stepL ls s) w) := by
 rw [stepL_brk hn h1 h2 hk]
 obtain ⟨kd, ln, ps, wd, od⟩ := s
 dsimp only at *
 subst h1 h2 hk
 have hf := hok.few
 have hwl := hok.words
 have CC := fun w' (q : (pLines e).rep o w' ls [v] F) => impl_copyLines_c w' q (by omega) hwl
 have HCC := Lib.hid CC
 obtain ⟨A0, k0, rfl⟩ := slice_len h
 clear CC
 go_enter Tryz.func121, Tryz.ntmps121
 go_wp2_with fail
 refine (HCC.out _ (h.alloc _)).mono ?_
 rintro e' w1 ⟨u1, G, rfl, r1, f1, b1⟩
 obtain ⟨hcc, hff⟩ := bcell b1
 have hz := b1.size
 simp only [World.size_alloc] at hz
 obtain ⟨g, c, c1, ck, c2, rest, G1, Gk, G2, rfl, hlc, hcm, hrow, hl1, hlen, hp1, hpk, hp2, rfl⟩ := own_open rfl r1 hn
 obtain ⟨A, k, rfl⟩ := slice_len hpk
 have hcell := hrow.cell' (i := n) (by rw [List.getElem?_append_right (by omega), hl1]; simp; rfl)
 have gi : (n : Int) < (ls.length : Int) := by omega
 go_wp2_with fail
 go_quiet (fail)
 obtain ⟨wp, HW⟩ : ∃ wp, Hid (wp = w1.drewN nq) := ⟨_, rfl⟩
 rw [show w1.drewN nq = wp from HW.out.symm]
 have bp : Below w1.heap.size w1 wp := by rw [HW.out]; exact below_drewN (Below.refl _ _) nq
 have hzp1 : wp.heap.size ≤ w1.heap.size := by rw [HW.out]; exact Nat.le_refl _
 have hzp2 : w1.heap.size ≤ wp.heap.size := by rw [HW.out]; exact Nat.le_refl _
 have ec : ∀ p, wp.cell? p = w1.cell? p := fun p => by rw [HW.out]; rfl
 have ef : ∀ p, wp.frozen? p = w1.frozen? p := fun p => by rw [HW.out]; rfl
 have Rw := Lib.hid (hrow.below bp hrow.lt)
 have P1 := Lib.hid (repL_below hp1 bp)
 have PK := Lib.hid (hpk.below bp)
 have P2 := Lib.hid (repL_below hp2 bp)
 have FR := Lib.hid f1
 have RWH := Lib.hid (r1.below bp)
 have BL := Lib.hid r1.blocks
 have HB := Lib.hid b1
 have HL := Lib.hid hl1
 have HLN := Lib.hid hlen
 clear hrow hp1 hpk hp2 f1 r1 b1 bp hl1 hlen
 have l12 := hok.each _ (List.getElem_mem hn)
 have w1a := IntWalk.i64_in ((n : Int) + 1) (by omega)
 have ga : (a : Int) ≤ (ls[n].length : Int) := by omega
 have ga0 : a ≤ ls[n].length := ha
 -- the two parts of the line
 obtain ⟨AD, hif, FT, FD, hT, hD, hT2, hD2, hshape⟩ : ∃ (AD : Option Addr) (_ : True) (FT FD : List Nat), (str.slice 9).rep false wp (ls[n].take a) [.slice A a k] FT ∧ (str.slice 9).rep false wp (ls[n].drop a) [.slice AD (ls[n].length - a) (k - a)] FD ∧ (∀ b ∈ FT, b ∈ Gk) ∧ (∀ b ∈ FD, b ∈ Gk) ∧ ((A = none ∧ k = 0 ∧ AD = none ∧ a = 0 ∧ ls[n].length = 0) ∨ ∃ g2, A = some ⟨g2, 0, none⟩ ∧ a ≤ k ∧ (if k = a then (some ⟨g2, 0, none⟩ : Option Addr) else some ⟨g2, a, none⟩) = AD) := by
  rcases own_cases (T := str) PK.out with ⟨hv, hnil⟩ | ⟨g2, k', cs, rs, H, hv, hlc2, hcm2, hrow2, hr2, hlen2, hG⟩
  · injection hv with e1 e2 e3
    subst e1; subst e3
    have ha0 : a = 0 := by omega
    subst ha0
    refine ⟨none, trivial, [], [], ?_, ?_, by simp, by simp, .inl ⟨rfl, rfl, rfl, rfl, e2⟩⟩
    · rw [List.take_zero]; exact slice_nil _ _ _ _
    · rw [hnil]; exact slice_nil _ _ _ _
  · injection hv with e1 _ e3
    subst e1; subst e3
    obtain ⟨F1, q1, q2⟩ := part_take (T := str) rfl hrow2 hr2 ha hlc2 hcm2
    obtain ⟨AD, F2, hi, q3, q4⟩ := part_drop (T := str) rfl hrow2 (by rw [hlen2]; exact Nat.mul_one _) hr2 ha hlc2 hcm2
    rw [← hG] at q2 q4
    exact ⟨some AD, trivial, F1, F2, q1, q3, q2, q4, .inr ⟨g2, rfl, by omega, hi⟩⟩
 clear hif
 have HT := Lib.hid hT
 have HD := Lib.hid hD
 have HT2 := Lib.hid hT2
 have HD2 := Lib.hid hD2
 clear hT hD hT2 hD2 P1 P2 PK Rw
 have HCD := Lib.hid (fun (w' : World) (N kk : Nat) (q : (str.slice 9).rep false w' (ls[n].drop a) [.slice AD N kk] FD) => Clone_Str w' q (by rw [List.length_drop]; omega) str_flat)
 have HCT := Lib.hid (fun (w' : World) (q : (str.slice 9).rep false w' (ls[n].take a) [.slice A a k] FT) => Clone_Str w' q (by rw [List.length_take]; omega) str_flat)
 have hgk : g ∉ Gk := fun hin => (List.nodup_cons.1 FR.out.1).1 (by simp [hin])
 have HGK := Lib.hid hgk
 clear hgk
 have HDN : Hid (∀ N kk, N = ls[n].length - a → kk = k - a → (str.slice 9).rep false wp (ls[n].drop a) [.slice AD N kk] FD) := fun N kk e1 e2 => by rw [e1, e2]; exact HD.out
 unfold maxLen at hcm
 have hlt0 : ∀ b ∈ g :: (G1 ++ (Gk ++ G2)), b < wp.heap.size := fun b hb => by have := BL.out b hb; omega
 have HLT := Lib.hid hlt0
 have hb0 : Below w.heap.size w w1 := ((Below.refl _ _).alloc (Nat.le_refl _) _).trans (HB.out.mono (by simp))
 have hb1 : Below w.heap.size w wp := by rw [show wp = w1.drewN nq from HW.out]; exact below_drewN hb0 nq
 have HB1 := Lib.hid hb1
 clear hlt0 hb0 hb1
 generalize hXT : ls[n].take a = XT at *
 generalize hYT : ls[n].drop a = YT at *
 have HXT := Lib.hid hXT
 have HYT := Lib.hid hYT
 clear hXT hYT
 rcases hshape with ⟨rfl, rfl, rfl, rfl, hl0⟩ | ⟨g2, rfl, hak, hif⟩
 all_goals
  go_wp2_with fail
  refine (HCD.out _ _ _ (HDN.out _ _ (by omega) (by omega))).mono ?_
  rintro e' w3 ⟨u3, F3, rfl, r3, f3, b3⟩
  obtain ⟨A3, N3, k3, rfl⟩ := slice_form r3
  have b3s := b3.size
  have HR3 := Lib.hid r3
  have HF3 := Lib.hid f3
  have HB3 := Lib.hid b3
  clear r3 f3 b3
  go_wp2_with fail
  have hfa := fresh_app FR.out HLT.out HF3.out (by simp; omega)
  refine (Insert_Line _ ((RWH.out.below HB3.out).alloc _) (y := YT) (u := .slice A3 N3 k3) (Fy := F3) (HR3.out.alloc _) hfa.1 (by omega) w3.heap.size (Row.new w3 _ _) (fun hin => by have := HLT.out _ hin; omega) _ (n + 1) (by omega) (by omega)).mono ?_
  rintro e' w4 ⟨u4, F4, rfl, r4, q4, o4, p4, o4'⟩
  have hb4 : Below w.heap.size w w4 := by
   have x3 := HB1.out.trans (HB3.out.mono HB1.out.size)
   exact below_only' (x3.alloc x3.size _) o4 (fun x hx => by have := FR.out.2 x hx; simp at this; omega) (by have := x3.size; simp; omega)
  have f4 := q4 _ hfa (by simp; omega)
  have hz4 := o4.size
  simp only [World.size_alloc] at hz4
  have hT4 := (((HT.out.below HB3.out).alloc (.cells #[.slice A3 N3 k3] 159)).only o4' (fun x hx h => by
   have h' : x = g := by simpa [Value.ownBlock] using h
   subst h'
   exact HGK.out (HT2.out x hx)))
  have hL : (ls.take (n + 1) ++ YT :: ls.drop (n + 1)).length = ls.length + 1 := by simp only [List.length_append, List.length_take, List.length_cons, List.length_drop]; omega
  obtain ⟨A4, N4, k4, rfl⟩ := slice_form r4
  obtain ⟨g4, c4, d1, dk, d2, rest4, H1, Hk, H2, hv4, hlc4, hcm4, hrow4, hl4, hlen4, hq1, hqk, hq2, hF4⟩ := own_open (T := pLine) (k := n) rfl r4 (by omega)
  injection hv4 with i1 i2 i3
  subst i1; subst i3
  rw [hL] at i2 hlc4
  subst i2
  subst hF4
  have gi4 : (n : Int) < (ls.length : Int) + 1 := by omega
  have HB4 := Lib.hid hb4
  have HF4 := Lib.hid f4
  have HT4 := Lib.hid hT4
  have HR4 := Lib.hid hrow4
  have HL4 := Lib.hid hl4
  have HN4 := Lib.hid hlen4
  have HQ1 := Lib.hid hq1
  have HQ2 := Lib.hid hq2
  have HBL4 := Lib.hid r4.blocks
  have HLL := Lib.hid hL
  clear hb4 f4 hT4 hrow4 hl4 hlen4 hq1 hq2 r4 hqk o4 o4' q4 p4 hfa hL
  go_wp2_with fail
  refine (HCT.out _ HT4.out).mono ?_
  rintro e' w5 ⟨u5, F5, rfl, r5, f5, b5⟩
  obtain ⟨A5, N5, k5, rfl⟩ := slice_form r5
  have R5 := HR4.out.later b5
  obtain ⟨⟨v0, hv0⟩, hf0⟩ := R5.can (i := n) (by rw [HN4.out]; omega)
  have b5s := b5.size
  have HR5 := Lib.hid r5
  have HRW5 := Lib.hid R5
  have HB5 := Lib.hid b5
  have HF5 := Lib.hid f5
  clear r5 R5 b5 f5
  go_wp2_with fail
  go_ret
  have FS := fresh_set (Fy := F5) (N := w4.heap.size) HF4.out HBL4.out HF5.out.2 (by have := HB4.out.size; simp; omega) HF5.out.1 (fun b hb => .inl (by simp [hb]))
  have fin := own_set (T := pLine) (xs := ls.take (n + 1) ++ YT :: ls.drop (n + 1)) (k := n) rfl (by rw [HLL.out]; omega) HRW5.out HL4.out HN4.out (by rw [HLL.out]; exact hlc4) hcm4 (repL_below HQ1.out HB5.out) HR5.out (repL_below HQ2.out HB5.out) (List.nodup_cons.1 FS.1).1
  rw [brk_list hn, HLL.out, ← HXT.out, ← HYT.out] at fin
  refine ⟨_, _, rfl, fin, FS.mono (by simp), ?_⟩
  exact (HB4.out.trans (HB5.out.mono HB4.out.size)).setCell (by have := HF4.out.2 g4 (by simp); simp at this; show w.heap.size ≤ g4; omega) _
theorem impl_stepped_c {o : Bool} {e : TypeId} {ls : List PLine} {v : Value} {F : List Nat} (s : PStep) (w : World) (h : (pLines e).rep o w ls [v] F) (hok : LinesOk ls) (hc : Can ls s) (hws : s.word.size ≤ maxLen) :
 Calls Tryz.prog 121 #[v, .agg #[.int .i64 s.kind, .int .i64 s.line, .int .i64 s.pos, .string s.word, .string s.old]] w (Gives (pLines 159) (stepL ls s) w) := by
 cases hc with
 | ins n a hn h1 h2 hk ha hl hw ho => exact impl_stepped_ins s w h hok n a hn h1 h2 hk ha hl hws
 | del n a hn h1 h2 hk ha hw ho => exact impl_stepped_del s w h hok n a hn h1 h2 hk ha
 | rep n a hn h1 h2 hk ha hw ho => exact impl_stepped_rep s w h hok n a hn h1 h2 hk ha hws
 | brk n a hn h1 h2 hk ha hl hw ho => exact impl_stepped_brk s w h hok n a hn ha hl h1 h2 hk
 | join n a hn h1 h2 hk ha hl hw ho => exact impl_stepped_join s w h hok n a hn hl h1 h2 hk
end Go.Proofs.YtboijogahclekaaGreatDoor
