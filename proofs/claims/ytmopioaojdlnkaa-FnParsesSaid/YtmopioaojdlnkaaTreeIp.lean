/- Trees: what the program tells of them (are they trees, cost, boxes, leaves). Conditions: none. -/
import Derived.Test.YtmopioaojdlnkaaChk5p
import Derived.StillTail
import Derived.StillTailTactics
namespace Go.Proofs.Ytmopioaojdlnkaa
open Go Go.RowKit

/-- The code of all that asks for a tree. -/
def askF (xs : List PSymbol) (ns : List PNode) : Int := if symsOkB xs = true then (if treeB xs ns = true then 0 else 8) else 1
theorem ask_bad {xs : List PSymbol} {ns : List PNode} (h : symsOkB xs = false) : askF xs ns = 1 := by simp [askF, h]
theorem ask_no {xs : List PSymbol} {ns : List PNode} (h : symsOkB xs = true) (h2 : treeB xs ns = false) : askF xs ns = 8 := by simp [askF, h, h2]
theorem ask_yes {xs : List PSymbol} {ns : List PNode} (h : symsOkB xs = true) (h2 : treeB xs ns = true) : askF xs ns = 0 := by simp [askF, h, h2]
theorem ask_zero {xs : List PSymbol} {ns : List PNode} (h : askF xs ns = 0) : symsOkB xs = true ∧ treeB xs ns = true := by
 unfold askF at h
 split at h
 · split at h
   · exact ⟨by assumption, by assumption⟩
   · cases h
 · cases h
def costR (xs : List PSymbol) (ns : List PNode) : Int := if askF xs ns = 0 then costF xs ns ns.length else 0
def isTreeR (xs : List PSymbol) (ns : List PNode) : Bool := symsOkB xs && treeB xs ns
/-- What the program's checked leaves. -/
def CheckedPost (e : TypeId) (o : Bool) (xs : List PSymbol) (vl : Value) (Fl : List Nat) (ns : List PNode) (w : World) (en : Ending) (w' : World) : Prop :=
 Below w.heap.size w w' ∧ ∃ p, en = .returned (.tuple #[p, .int .i64 (askF xs ns)]) ∧ (askF xs ns = 0 → ∃ gp us op vu vo vb Fu Fo Fb, p = .pointer (some ⟨gp, 0, none⟩) ∧ Chk e o xs vl Fl gp ⟨us, op, boxesF xs ns ns.length, costF xs ns ns.length⟩ vu vo vb Fu Fo Fb w' ∧ ∀ b ∈ gp :: (Fu ++ (Fo ++ Fb)), w.heap.size ≤ b)
set_option maxRecDepth 100000 in
set_option maxHeartbeats 1000000 in
theorem impl_checked_c {e et : TypeId} {o ot : Bool} {xs : List PSymbol} {ns : List PNode} {vl vt : Value} {Fl Ft : List Nat} (w : World) (h : (pSymbols e).rep o w xs [vl] Fl) (ht : (pNodes et).rep ot w ns [vt] Ft) (hx : xs.length ≤ 1048576) (hsz : ∀ c ∈ xs, c.label.size ≤ 1048576) :
 Calls Try.prog 35 #[vl, .agg #[vt]] w (CheckedPost e o xs vl Fl ns w) := by
 have CV := Lib.hid (fun w' q => impl_ValidSymbols_c (o := o) (e := e) (xs := xs) (v := vl) (F := Fl) w' q hx hsz)
 have H := Lib.hid h
 have HT := Lib.hid ht
 obtain ⟨A, c, rfl⟩ := slice_len h
 obtain ⟨B, d, rfl⟩ := slice_len ht
 clear h ht
 cases hb : symsOkB xs with
 | false =>
   rw [hb] at CV
   have HA := Lib.hid (ask_bad (ns := ns) hb)
   clear hb
   go_enter Try.func35, Try.ntmps35
   go_wp2_with fail
   refine (CV.out _ (H.out.alloc _)).mono ?_
   rintro en w1 ⟨rfl, b1⟩
   go_wp2_with fail
   refine bodyPost_ret (v := .tuple #[.pointer none, .int .i64 1]) (by simp [results, Try.results35, go_sem]) rfl ⟨((Below.refl _ _).alloc (Nat.le_refl _) _).trans (b1.mono (by simp)), _, by rw [HA.out], fun h => by rw [HA.out] at h; cases h⟩
 | true =>
   rw [hb] at CV
   have CK := Lib.hid (fun w' q q' => impl_check_c (e := e) (et := et) (o := o) (ot := ot) (xs := xs) (ns := ns) (vl := .slice A xs.length c) (vt := .slice B ns.length d) (Fl := Fl) (Ft := Ft) w' q q' hb)
   have HB := Lib.hid hb
   clear hb
   go_enter Try.func35, Try.ntmps35
   go_wp2_with fail
   refine (CV.out _ (H.out.alloc _)).mono ?_
   rintro en w1 ⟨rfl, b1⟩
   have b0 : Below w.heap.size w w1 := ((Below.refl _ _).alloc (Nat.le_refl _) _).trans (b1.mono (by simp))
   have R := (Row.new w 28 #[.slice B ns.length d]).later b1
   have t0 := R.cell' (i := 0) rfl
   go_wp2_with fail
   refine (CK.out _ (H.out.below b0) (HT.out.below b0)).mono ?_
   rintro en w2 ⟨b2, p, rfl, hp⟩
   rw [check_tree] at hp ⊢
   have b02 := b0.trans (b2.mono b0.size)
   cases ht : treeB xs ns with
   | false =>
     have HA := Lib.hid (ask_no HB.out ht)
     clear hp ht
     go_wp2_with fail
     refine bodyPost_ret (v := .tuple #[.pointer none, .int .i64 8]) (by simp [results, Try.results35, go_sem]) rfl ⟨b02, _, by rw [HA.out], fun h => by rw [HA.out] at h; cases h⟩
   | true =>
     have HA := Lib.hid (ask_yes HB.out ht)
     obtain ⟨gp, st, vu, vo, vb, Fu, Fo, Fb, rfl, hrun, hch, hfr⟩ := hp ht
     obtain ⟨us, op, hrun2⟩ := check_run xs ns ht
     rw [hrun2] at hrun
     injection hrun with hrun
     subst hrun
     have HCH := Lib.hid hch
     have HF := Lib.hid hfr
     clear hp ht hrun2 hch hfr
     have hbs := b0.size
     go_wp2_with fail
     refine bodyPost_ret (v := .tuple #[.pointer (some ⟨gp, 0, none⟩), .int .i64 0]) (by simp [results, Try.results35, go_sem]) rfl ⟨b02, _, by rw [HA.out], fun _ => ⟨gp, us, op, vu, vo, vb, Fu, Fo, Fb, rfl, HCH.out, fun b hb => Nat.le_trans hbs (HF.out b hb)⟩⟩
set_option maxRecDepth 100000 in
set_option maxHeartbeats 1000000 in
theorem impl_IsTreeOf_c {e et : TypeId} {o ot : Bool} {xs : List PSymbol} {ns : List PNode} {vl vt : Value} {Fl Ft : List Nat} (w : World) (h : (pSymbols e).rep o w xs [vl] Fl) (ht : (pNodes et).rep ot w ns [vt] Ft) (hx : xs.length ≤ 1048576) (hsz : ∀ c ∈ xs, c.label.size ≤ 1048576) :
 Calls Try.prog 13 #[vl, .agg #[vt]] w fun en w' => en = .returned (.bool (isTreeR xs ns)) ∧ Below w.heap.size w w' := by
 have CV := Lib.hid (fun w' q => impl_ValidSymbols_c (o := o) (e := e) (xs := xs) (v := vl) (F := Fl) w' q hx hsz)
 have H := Lib.hid h
 have HT := Lib.hid ht
 obtain ⟨A, c, rfl⟩ := slice_len h
 obtain ⟨B, d, rfl⟩ := slice_len ht
 clear h ht
 cases hb : symsOkB xs with
 | false =>
   rw [hb] at CV
   have HA : Hid (isTreeR xs ns = false) := by show _ = _; simp [isTreeR, hb]
   clear hb
   go_enter Try.func13, Try.ntmps13
   go_wp2_with fail
   refine (CV.out _ (H.out.alloc _)).mono ?_
   rintro en w1 ⟨rfl, b1⟩
   go_wp2_with fail
   go_ret
   exact ⟨by rw [HA.out]; rfl, ((Below.refl _ _).alloc (Nat.le_refl _) _).trans (b1.mono (by simp))⟩
 | true =>
   rw [hb] at CV
   have HA : Hid (isTreeR xs ns = checkB xs ns) := by show _ = _; simp [isTreeR, hb, check_tree]
   have CK := Lib.hid (fun w' q q' => impl_check_c (e := e) (et := et) (o := o) (ot := ot) (xs := xs) (ns := ns) (vl := .slice A xs.length c) (vt := .slice B ns.length d) (Fl := Fl) (Ft := Ft) w' q q' hb)
   clear hb
   go_enter Try.func13, Try.ntmps13
   go_wp2_with fail
   refine (CV.out _ (H.out.alloc _)).mono ?_
   rintro en w1 ⟨rfl, b1⟩
   have b0 : Below w.heap.size w w1 := ((Below.refl _ _).alloc (Nat.le_refl _) _).trans (b1.mono (by simp))
   have R := (Row.new w 28 #[.slice B ns.length d]).later b1
   have t0 := R.cell' (i := 0) rfl
   go_wp2_with fail
   refine (CK.out _ (H.out.below b0) (HT.out.below b0)).mono ?_
   rintro en w2 ⟨b2, p, rfl, hp⟩
   clear hp
   go_wp2_with fail
   go_ret
   exact ⟨by rw [HA.out]; rfl, b0.trans (b2.mono b0.size)⟩
set_option maxRecDepth 100000 in
set_option maxHeartbeats 1000000 in
theorem impl_TreeCost_c {e et : TypeId} {o ot : Bool} {xs : List PSymbol} {ns : List PNode} {vl vt : Value} {Fl Ft : List Nat} (w : World) (h : (pSymbols e).rep o w xs [vl] Fl) (ht : (pNodes et).rep ot w ns [vt] Ft) (hx : xs.length ≤ 1048576) (hsz : ∀ c ∈ xs, c.label.size ≤ 1048576) :
 Calls Try.prog 12 #[vl, .agg #[vt]] w fun en w' => en = .returned (.tuple #[.int .i64 (costR xs ns), .int .i64 (askF xs ns)]) ∧ Below w.heap.size w w' := by
 have CK := Lib.hid (fun w' q q' => impl_checked_c (e := e) (et := et) (o := o) (ot := ot) (xs := xs) (ns := ns) (vl := vl) (vt := vt) (Fl := Fl) (Ft := Ft) w' q q' hx hsz)
 have H := Lib.hid h
 have HT := Lib.hid ht
 obtain ⟨A, c, rfl⟩ := slice_len h
 obtain ⟨B, d, rfl⟩ := slice_len ht
 clear h ht
 have R := Row.new w 28 #[.slice B ns.length d]
 have t0 := R.cell' (i := 0) rfl
 go_enter Try.func12, Try.ntmps12
 go_wp2_with fail
 refine (CK.out _ (H.out.alloc _) (HT.out.alloc _)).mono ?_
 rintro en w1 ⟨b1, p, rfl, hp⟩
 have b0 : Below w.heap.size w w1 := ((Below.refl _ _).alloc (Nat.le_refl _) _).trans (b1.mono (by simp))
 by_cases h0 : askF xs ns = 0
 · obtain ⟨gp, us, op, vu, vo, vb, Fu, Fo, Fb, rfl, hch, -⟩ := hp h0
   have HC : Hid (costR xs ns = costF xs ns ns.length) := by show _ = _; rw [costR, if_pos h0]
   have HA := Lib.hid h0
   rw [h0]
   have c4 := hch.row.cell' (i := 4) rfl
   clear hp h0 hch
   go_wp2_with fail
   refine bodyPost_ret (v := .tuple #[.int .i64 (costF xs ns ns.length), .int .i64 0]) (by simp [results, Try.results12, go_sem]) rfl ⟨by rw [HC.out, HA.out], b0⟩
 · have HC : Hid (costR xs ns = 0) := by show _ = _; rw [costR, if_neg h0]
   have g : (askF xs ns != 0) = true := by simp [h0]
   clear hp h0
   go_wp2_with fail
   refine bodyPost_ret (v := .tuple #[.int .i64 0, .int .i64 (askF xs ns)]) (by simp [results, Try.results12, go_sem]) rfl ⟨by rw [HC.out], b0⟩
end Go.Proofs.Ytmopioaojdlnkaa
namespace Go.Proofs.Ytmopioaojdlnkaa
open Go Go.RowKit

/-- What the reader knows. -/
structure RdSt where
 used : List Bool
 boxes : List PBox
 depth : List Int
 cost : Int
 good : Bool
theorem boxCells_get : ∀ (bs : List PBox) (k i : Nat) (hk : k < bs.length), i < 4 → (bs.flatMap pBoxCells)[k * 4 + i]? = (pBoxCells bs[k])[i]?
 | b :: r, 0, i, _, hi => by
   rw [List.flatMap_cons, List.getElem?_append_left (by simp [pBoxCells]; omega)]
   simp
 | b :: r, k + 1, i, hk, hi => by
   have ih := boxCells_get r k i (by simpa using hk) hi
   rw [List.flatMap_cons, List.getElem?_append_right (by simp [pBoxCells]; omega), show (k + 1) * 4 + i - (pBoxCells b).length = k * 4 + i by simp [pBoxCells]; omega, ih]
   simp
theorem boxCells_set : ∀ (bs : List PBox) (k : Nat) (b : PBox), k < bs.length → ((((bs.flatMap pBoxCells).set (k * 4) (.int .i64 b.x1)).set (k * 4 + 1) (.int .i64 b.y1)).set (k * 4 + 2) (.int .i64 b.x2)).set (k * 4 + 3) (.int .i64 b.y2) = (bs.set k b).flatMap pBoxCells
 | c :: r, 0, b, _ => by simp [pBoxCells]
 | c :: r, k + 1, b, h => by
   have ih := boxCells_set r k b (by simpa using h)
   have e : (k + 1) * 4 = k * 4 + 4 := by omega
   rw [e]
   simp only [List.flatMap_cons, List.set_cons_succ, ← ih]
   simp [pBoxCells]
/-- The reader's blocks. -/
structure Rd (e et : TypeId) (o ot : Bool) (xs : List PSymbol) (ns : List PNode) (vl vn : Value) (Fl Fn : List Nat) (gp gu gb gd : Nat) (st : RdSt) (w : World) : Prop where
 row : Row w gp 90 [vl, vn, .slice (some ⟨gu, 0, none⟩) xs.length xs.length, .slice (some ⟨gb, 0, none⟩) ns.length ns.length, .int .i64 st.cost, .slice (some ⟨gd, 0, none⟩) ns.length ns.length, .slice none 0 0, .bool st.good]
 us : Row w gu 4 (st.used.map .bool)
 bs : Row w gb 48 (st.boxes.flatMap pBoxCells)
 ds : Row w gd 2 (st.depth.map (.int .i64))
 syms : (pSymbols e).rep o w xs [vl] Fl
 nods : (pNodes et).rep ot w ns [vn] Fn
 dis : gp ≠ gu ∧ gp ≠ gb ∧ gp ≠ gd ∧ gu ≠ gb ∧ gu ≠ gd ∧ gb ≠ gd
 dl : ∀ b ∈ Fl, b ≠ gp ∧ b ≠ gu ∧ b ≠ gb ∧ b ≠ gd
 dn : ∀ b ∈ Fn, b ≠ gp ∧ b ≠ gu ∧ b ≠ gb ∧ b ≠ gd
 ul : st.used.length = xs.length
 bl : st.boxes.length = ns.length
 dpl : st.depth.length = ns.length
section
variable {e et : TypeId} {o ot : Bool} {xs : List PSymbol} {ns : List PNode} {vl vn : Value} {Fl Fn G : List Nat} {gp gu gb gd : Nat} {st : RdSt} {w w' : World}
theorem Rd.only (h : Rd e et o ot xs ns vl vn Fl Fn gp gu gb gd st w) (ho : Only G w w') (h1 : gp ∉ G) (h2 : gu ∉ G) (h3 : gb ∉ G) (h4 : gd ∉ G) (h5 : ∀ b ∈ Fl, b ∉ G) (h6 : ∀ b ∈ Fn, b ∉ G) : Rd e et o ot xs ns vl vn Fl Fn gp gu gb gd st w' :=
 ⟨h.row.onlyC ho h1, h.us.onlyC ho h2, h.bs.onlyC ho h3, h.ds.onlyC ho h4, h.syms.only ho h5, h.nods.only ho h6, h.dis, h.dl, h.dn, h.ul, h.bl, h.dpl⟩
theorem Rd.below (h : Rd e et o ot xs ns vl vn Fl Fn gp gu gb gd st w) (hb : Below w.heap.size w w') : Rd e et o ot xs ns vl vn Fl Fn gp gu gb gd st w' :=
 h.only (G := []) (Only.of_below hb) (by simp) (by simp) (by simp) (by simp) (fun _ _ => by simp) (fun _ _ => by simp)
theorem Rd.alloc (h : Rd e et o ot xs ns vl vn Fl Fn gp gu gb gd st w) (x : Obj) : Rd e et o ot xs ns vl vn Fl Fn gp gu gb gd st (w.alloc x) := h.below ((Below.refl _ _).alloc (Nat.le_refl _) _)
theorem Rd.drew (h : Rd e et o ot xs ns vl vn Fl Fn gp gu gb gd st w) : Rd e et o ot xs ns vl vn Fl Fn gp gu gb gd st w.drew := h.below (Below.refl _ _).drew
theorem Rd.far (h : Rd e et o ot xs ns vl vn Fl Fn gp gu gb gd st w) {t : Nat} (i : Nat) (u : Value) (h1 : gp ≠ t) (h2 : gu ≠ t) (h3 : gb ≠ t) (h4 : gd ≠ t) (h5 : t ∉ Fl) (h6 : t ∉ Fn) : Rd e et o ot xs ns vl vn Fl Fn gp gu gb gd st (w.setCell ⟨t, i, none⟩ u) :=
 ⟨h.row.far h1 _, h.us.far h2 _, h.bs.far h3 _, h.ds.far h4 _, h.syms.setCell h5 _, h.nods.setCell h6 _, h.dis, h.dl, h.dn, h.ul, h.bl, h.dpl⟩
theorem Rd.setGood (h : Rd e et o ot xs ns vl vn Fl Fn gp gu gb gd st w) (b : Bool) : Rd e et o ot xs ns vl vn Fl Fn gp gu gb gd { st with good := b } (w.setCell ⟨gp, 7, none⟩ (.bool b)) := by
 obtain ⟨d1, d2, d3, d4, d5, d6⟩ := h.dis
 exact ⟨h.row.set 7 _, h.us.far (Ne.symm d1) _, h.bs.far (Ne.symm d2) _, h.ds.far (Ne.symm d3) _, h.syms.setCell (fun hb => (h.dl _ hb).1 rfl) _, h.nods.setCell (fun hb => (h.dn _ hb).1 rfl) _, h.dis, h.dl, h.dn, h.ul, h.bl, h.dpl⟩
theorem Rd.setCost (h : Rd e et o ot xs ns vl vn Fl Fn gp gu gb gd st w) (c : Int) : Rd e et o ot xs ns vl vn Fl Fn gp gu gb gd { st with cost := c } (w.setCell ⟨gp, 4, none⟩ (.int .i64 c)) := by
 obtain ⟨d1, d2, d3, d4, d5, d6⟩ := h.dis
 exact ⟨h.row.set 4 _, h.us.far (Ne.symm d1) _, h.bs.far (Ne.symm d2) _, h.ds.far (Ne.symm d3) _, h.syms.setCell (fun hb => (h.dl _ hb).1 rfl) _, h.nods.setCell (fun hb => (h.dn _ hb).1 rfl) _, h.dis, h.dl, h.dn, h.ul, h.bl, h.dpl⟩
theorem Rd.setUse (h : Rd e et o ot xs ns vl vn Fl Fn gp gu gb gd st w) (k : Nat) (b : Bool) : Rd e et o ot xs ns vl vn Fl Fn gp gu gb gd { st with used := st.used.set k b } (w.setCell ⟨gu, k, none⟩ (.bool b)) := by
 obtain ⟨d1, d2, d3, d4, d5, d6⟩ := h.dis
 exact ⟨h.row.far d1 _, by have := h.us.set k (.bool b); rwa [← List.map_set] at this, h.bs.far (Ne.symm d4) _, h.ds.far (Ne.symm d5) _, h.syms.setCell (fun hb => (h.dl _ hb).2.1 rfl) _, h.nods.setCell (fun hb => (h.dn _ hb).2.1 rfl) _, h.dis, h.dl, h.dn, by simpa using h.ul, h.bl, h.dpl⟩
theorem Rd.setDep (h : Rd e et o ot xs ns vl vn Fl Fn gp gu gb gd st w) (k : Nat) (d : Int) : Rd e et o ot xs ns vl vn Fl Fn gp gu gb gd { st with depth := st.depth.set k d } (w.setCell ⟨gd, k, none⟩ (.int .i64 d)) := by
 obtain ⟨d1, d2, d3, d4, d5, d6⟩ := h.dis
 exact ⟨h.row.far d3 _, h.us.far d5 _, h.bs.far d6 _, by have := h.ds.set k (.int .i64 d); rwa [← List.map_set] at this, h.syms.setCell (fun hb => (h.dl _ hb).2.2.2 rfl) _, h.nods.setCell (fun hb => (h.dn _ hb).2.2.2 rfl) _, h.dis, h.dl, h.dn, h.ul, h.bl, by simpa using h.dpl⟩
theorem Rd.setBox (h : Rd e et o ot xs ns vl vn Fl Fn gp gu gb gd st w) (k : Nat) (hk : k < ns.length) (b : PBox) : Rd e et o ot xs ns vl vn Fl Fn gp gu gb gd { st with boxes := st.boxes.set k b } ((((w.setCell ⟨gb, k * 4, none⟩ (.int .i64 b.x1)).setCell ⟨gb, k * 4 + 1, none⟩ (.int .i64 b.y1)).setCell ⟨gb, k * 4 + 2, none⟩ (.int .i64 b.x2)).setCell ⟨gb, k * 4 + 3, none⟩ (.int .i64 b.y2)) := by
 obtain ⟨d1, d2, d3, d4, d5, d6⟩ := h.dis
 have hl : gb ∉ Fl := fun hb => (h.dl _ hb).2.2.1 rfl
 have hn : gb ∉ Fn := fun hb => (h.dn _ hb).2.2.1 rfl
 refine ⟨(((h.row.far (p := ⟨gb, _, none⟩) d2 _).far (p := ⟨gb, _, none⟩) d2 _).far (p := ⟨gb, _, none⟩) d2 _).far (p := ⟨gb, _, none⟩) d2 _, (((h.us.far (p := ⟨gb, _, none⟩) d4 _).far (p := ⟨gb, _, none⟩) d4 _).far (p := ⟨gb, _, none⟩) d4 _).far (p := ⟨gb, _, none⟩) d4 _, ?_, (((h.ds.far (p := ⟨gb, _, none⟩) (Ne.symm d6) _).far (p := ⟨gb, _, none⟩) (Ne.symm d6) _).far (p := ⟨gb, _, none⟩) (Ne.symm d6) _).far (p := ⟨gb, _, none⟩) (Ne.symm d6) _, (((h.syms.setCell (p := ⟨gb, _, none⟩) hl _).setCell (p := ⟨gb, _, none⟩) hl _).setCell (p := ⟨gb, _, none⟩) hl _).setCell (p := ⟨gb, _, none⟩) hl _, (((h.nods.setCell (p := ⟨gb, _, none⟩) hn _).setCell (p := ⟨gb, _, none⟩) hn _).setCell (p := ⟨gb, _, none⟩) hn _).setCell (p := ⟨gb, _, none⟩) hn _, h.dis, h.dl, h.dn, h.ul, by simpa using h.bl, h.dpl⟩
 have := (((h.bs.set (k * 4) (.int .i64 b.x1)).set (k * 4 + 1) (.int .i64 b.y1)).set (k * 4 + 2) (.int .i64 b.x2)).set (k * 4 + 3) (.int .i64 b.y2)
 rwa [boxCells_set _ _ _ (by rw [h.bl]; exact hk)] at this
theorem Rd.useCell (h : Rd e et o ot xs ns vl vn Fl Fn gp gu gb gd st w) {k : Nat} (hk : k < st.used.length) : w.cell? ⟨gu, k, none⟩ = some (.bool st.used[k]) := h.us.cell' (by simp [hk])
theorem Rd.depCell (h : Rd e et o ot xs ns vl vn Fl Fn gp gu gb gd st w) {k : Nat} (hk : k < st.depth.length) : w.cell? ⟨gd, k, none⟩ = some (.int .i64 st.depth[k]) := h.ds.cell' (by simp [hk])
theorem Rd.boxCell (h : Rd e et o ot xs ns vl vn Fl Fn gp gu gb gd st w) {k : Nat} (hk : k < st.boxes.length) : w.cell? ⟨gb, k * 4, none⟩ = some (.int .i64 (st.boxes[k]).x1) ∧ w.cell? ⟨gb, k * 4 + 1, none⟩ = some (.int .i64 (st.boxes[k]).y1) ∧ w.cell? ⟨gb, k * 4 + 2, none⟩ = some (.int .i64 (st.boxes[k]).x2) ∧ w.cell? ⟨gb, k * 4 + 3, none⟩ = some (.int .i64 (st.boxes[k]).y2) :=
 ⟨h.bs.cell' ((boxCells_get _ k 0 hk (by omega)).trans rfl), h.bs.cell' ((boxCells_get _ k 1 hk (by omega)).trans rfl), h.bs.cell' ((boxCells_get _ k 2 hk (by omega)).trans rfl), h.bs.cell' ((boxCells_get _ k 3 hk (by omega)).trans rfl)⟩
theorem Rd.shape (h : Rd e et o ot xs ns vl vn Fl Fn gp gu gb gd st w) : ∃ A c B d, vl = .slice A xs.length c ∧ vn = .slice B ns.length d := by
 obtain ⟨A, c, rfl⟩ := slice_len h.syms
 obtain ⟨B, d, rfl⟩ := slice_len h.nods
 exact ⟨_, _, _, _, rfl, rfl⟩
end
/-- take, plainly. -/
def takeF (st : RdSt) (k : Int) : RdSt := match useK st.used k with
 | some us => { st with used := us }
 | none => { st with good := false }
set_option maxRecDepth 100000 in
set_option maxHeartbeats 1000000 in
theorem spec_take_c {e et : TypeId} {o ot : Bool} {xs : List PSymbol} {ns : List PNode} {vl vn : Value} {Fl Fn : List Nat} {gp gu gb gd : Nat} {st : RdSt} (k : Int) (w : World) (h : Rd e et o ot xs ns vl vn Fl Fn gp gu gb gd st w) (hx : xs.length ≤ 8) :
 Calls Try.prog 88 #[.pointer (some ⟨gp, 0, none⟩), .int .i64 k] w fun en w' => (∃ v, en = .returned v) ∧ Only [gp, gu] w w' ∧ Rd e et o ot xs ns vl vn Fl Fn gp gu gb gd (takeF st k) w' := by
 obtain ⟨A, c, B, d, rfl, rfl⟩ := h.shape
 have p0 := h.row.cell' (i := 0) rfl
 have p2 := h.row.cell' (i := 2) rfl
 have p7 := h.row.cell' (i := 7) rfl
 have hf := h.row.frozen
 have C := spec_inR_c k 0 ((xs.length : Int) - 1)
 have e1 : IntKind.i64.wrap ((xs.length : Int) - 1) = (xs.length : Int) - 1 := IntWalk.i64_in _ (by omega)
 have hul := h.ul
 by_cases hin : 0 ≤ k ∧ k < (xs.length : Int)
 · obtain ⟨n, rfl⟩ : ∃ n : Nat, k = (n : Int) := ⟨k.toNat, by omega⟩
   have hn : n < st.used.length := by omega
   have hb : inR (n : Int) 0 ((xs.length : Int) - 1) = true := by simp [inR]; omega
   rw [hb] at C
   have HC := Lib.hid C
   have hcell := h.useCell hn
   have hfu := h.us.frozen
   have n0 : (0 : Int) ≤ (n : Int) := by omega
   have n1 : (n : Int) < (xs.length : Int) := by omega
   have hu : takeF st (n : Int) = if st.used[n] = false then { st with used := st.used.set n true } else { st with good := false } := by
    unfold takeF useK
    simp only [Int.toNat_natCast]
    rw [List.getD_eq_getElem?_getD, List.getElem?_eq_getElem hn]
    by_cases hf : st.used[n] = false
    · rw [if_pos hf, if_pos ⟨by omega, by omega, by simpa using hf⟩]
    · rw [if_neg hf, if_neg (fun h => hf (by simpa using h.2.2))]
   rw [hu]
   have H := Lib.hid h
   clear hb C hin hu hul
   cases hv : st.used[n]
   · rw [hv] at hcell
     clear hv
     go_enter Try.func88, Try.ntmps88
     go_wp2_with fail
     refine (HC.out _).mono ?_
     rintro en w1 ⟨rfl, rfl⟩
     go_wp2_with fail
     refine bodyPost_end (v := .tuple #[]) (by simp [results, Try.results88, go_sem]) rfl ?_
     exact ⟨⟨_, rfl⟩, (Only.refl _ _).set (by simp) _, H.out.setUse n true⟩
   · rw [hv] at hcell
     clear hv
     go_enter Try.func88, Try.ntmps88
     go_wp2_with fail
     refine (HC.out _).mono ?_
     rintro en w1 ⟨rfl, rfl⟩
     go_wp2_with fail
     refine bodyPost_ret (v := .tuple #[]) (by simp [results, Try.results88, go_sem]) rfl ?_
     exact ⟨⟨_, rfl⟩, (Only.refl _ _).set (by simp) _, H.out.setGood false⟩
 · have hb : inR k 0 ((xs.length : Int) - 1) = false := by
    cases hb : inR k 0 ((xs.length : Int) - 1) with
    | false => rfl
    | true => simp [inR] at hb; omega
   rw [hb] at C
   have HC := Lib.hid C
   have hu : takeF st k = { st with good := false } := by
    unfold takeF useK
    rw [if_neg (fun hh => hin ⟨hh.1, by omega⟩)]
   rw [hu]
   have H := Lib.hid h
   clear hu hin hb C h hul
   go_enter Try.func88, Try.ntmps88
   go_wp2_with fail
   refine (HC.out _).mono ?_
   rintro en w1 ⟨rfl, rfl⟩
   go_wp2_with fail
   refine bodyPost_ret (v := .tuple #[]) (by simp [results, Try.results88, go_sem]) rfl ?_
   exact ⟨⟨_, rfl⟩, (Only.refl _ _).set (by simp) _, H.out.setGood false⟩
end Go.Proofs.Ytmopioaojdlnkaa
