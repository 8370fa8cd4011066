/- Trees: what the program tells of them (are they trees, cost, boxes, leaves). Conditions: none. -/
import Derived.Test.YtkickllohilciaaChk6
namespace Go.Proofs.Ytkickllohilciaa
open Go Go.RowKit

/-- The code of all that asks for a tree. -/
def askF (xs : List PSymbol) (ns : List PNode) : Int := if symsOkB xs = true then (if treeB xs ns = true then 0 else 8) else 1
theorem ask_bad {xs : List PSymbol} {ns : List PNode} (h : symsOkB xs = false) : askF xs ns = 1 := by simp [askF, h]
theorem ask_no {xs : List PSymbol} {ns : List PNode} (h : symsOkB xs = true) (h2 : treeB xs ns = false) : askF xs ns = 8 := by simp [askF, h, h2]
theorem ask_yes {xs : List PSymbol} {ns : List PNode} (h : symsOkB xs = true) (h2 : treeB xs ns = true) : askF xs ns = 0 := by simp [askF, h, h2]
theorem ask_zero {xs : List PSymbol} {ns : List PNode} (h : askF xs ns = 0) : symsOkB xs = true ∧ treeB xs ns = true := by
  unfold askF at h
  split at h
  · split at h
    · exact ⟨by assumption, by assumption⟩
    · cases h
  · cases h
/-- A list and a code. -/
def GivesL {α : Type} (T : Ty (List α)) (q : List α) (c : Int) (w : World) (en : Ending) (w' : World) : Prop :=
  ∃ v G, en = .returned (.tuple #[v, .int .i64 c]) ∧ T.rep true w' q [v] G ∧ Fresh w.heap.size G ∧ Below w.heap.size w w'
def costR (xs : List PSymbol) (ns : List PNode) : Int := if askF xs ns = 0 then costF xs ns ns.length else 0
def boxesR (xs : List PSymbol) (ns : List PNode) : List PBox := if askF xs ns = 0 then boxesF xs ns ns.length else []
def isTreeR (xs : List PSymbol) (ns : List PNode) : Bool := symsOkB xs && treeB xs ns
/-- What the program's checked leaves. -/
def CheckedPost (e : TypeId) (o : Bool) (xs : List PSymbol) (vl : Value) (Fl : List Nat) (ns : List PNode) (w : World) (en : Ending) (w' : World) : Prop :=
  Below w.heap.size w w' ∧ ∃ p, en = .returned (.tuple #[p, .int .i64 (askF xs ns)]) ∧ (askF xs ns = 0 → ∃ gp us op vu vo vb Fu Fo Fb, p = .pointer (some ⟨gp, 0, none⟩) ∧ Chk e o xs vl Fl gp ⟨us, op, boxesF xs ns ns.length, costF xs ns ns.length⟩ vu vo vb Fu Fo Fb w' ∧ ∀ b ∈ gp :: (Fu ++ (Fo ++ Fb)), w.heap.size ≤ b)
set_option maxRecDepth 100000 in
set_option maxHeartbeats 1000000 in
theorem impl_checked_c {e et : TypeId} {o ot : Bool} {xs : List PSymbol} {ns : List PNode} {vl vt : Value} {Fl Ft : List Nat} (w : World) (h : (pSymbols e).rep o w xs [vl] Fl) (ht : (pNodes et).rep ot w ns [vt] Ft) (hx : xs.length ≤ 1048576) (hsz : ∀ c ∈ xs, c.label.size ≤ 1048576) :
    Calls Try.prog 46 #[vl, .agg #[vt]] w (CheckedPost e o xs vl Fl ns w) := by
  have CV := Lib.hid (fun w' q => impl_ValidSymbols_c (o := o) (e := e) (xs := xs) (v := vl) (F := Fl) w' q hx hsz)
  have H := Lib.hid h
  have HT := Lib.hid ht
  obtain ⟨A, c, rfl⟩ := slice_len h
  obtain ⟨B, d, rfl⟩ := slice_len ht
  clear h ht
  cases hb : symsOkB xs with
  | false =>
    rw [hb] at CV
    have HA := Lib.hid (ask_bad (ns := ns) hb)
    clear hb
    go_enter Try.func46, Try.ntmps46
    go_wp2_with fail
    refine (CV.out _ (H.out.alloc _)).mono ?_
    rintro en w1 ⟨rfl, b1⟩
    go_wp2_with fail
    refine bodyPost_ret (v := .tuple #[.pointer none, .int .i64 1]) (by simp [results, Try.results46, go_sem]) rfl ⟨((Below.refl _ _).alloc (Nat.le_refl _) _).trans (b1.mono (by simp)), _, by rw [HA.out], fun h => by rw [HA.out] at h; cases h⟩
  | true =>
    rw [hb] at CV
    have CK := Lib.hid (fun w' q q' => impl_check_c (e := e) (et := et) (o := o) (ot := ot) (xs := xs) (ns := ns) (vl := .slice A xs.length c) (vt := .slice B ns.length d) (Fl := Fl) (Ft := Ft) w' q q' hb)
    have HB := Lib.hid hb
    clear hb
    go_enter Try.func46, Try.ntmps46
    go_wp2_with fail
    refine (CV.out _ (H.out.alloc _)).mono ?_
    rintro en w1 ⟨rfl, b1⟩
    have b0 : Below w.heap.size w w1 := ((Below.refl _ _).alloc (Nat.le_refl _) _).trans (b1.mono (by simp))
    have R := (Row.new w 33 #[.slice B ns.length d]).later b1
    have t0 := R.cell' (i := 0) rfl
    go_wp2_with fail
    refine (CK.out _ (H.out.below b0) (HT.out.below b0)).mono ?_
    rintro en w2 ⟨b2, p, rfl, hp⟩
    rw [check_tree] at hp ⊢
    have b02 := b0.trans (b2.mono b0.size)
    cases ht : treeB xs ns with
    | false =>
      have HA := Lib.hid (ask_no HB.out ht)
      clear hp ht
      go_wp2_with fail
      refine bodyPost_ret (v := .tuple #[.pointer none, .int .i64 8]) (by simp [results, Try.results46, go_sem]) rfl ⟨b02, _, by rw [HA.out], fun h => by rw [HA.out] at h; cases h⟩
    | true =>
      have HA := Lib.hid (ask_yes HB.out ht)
      obtain ⟨gp, st, vu, vo, vb, Fu, Fo, Fb, rfl, hrun, hch, hfr⟩ := hp ht
      obtain ⟨us, op, hrun2⟩ := check_run xs ns ht
      rw [hrun2] at hrun
      injection hrun with hrun
      subst hrun
      have HCH := Lib.hid hch
      have HF := Lib.hid hfr
      clear hp ht hrun2 hch hfr
      have hbs := b0.size
      go_wp2_with fail
      refine bodyPost_ret (v := .tuple #[.pointer (some ⟨gp, 0, none⟩), .int .i64 0]) (by simp [results, Try.results46, go_sem]) rfl ⟨b02, _, by rw [HA.out], fun _ => ⟨gp, us, op, vu, vo, vb, Fu, Fo, Fb, rfl, HCH.out, fun b hb => Nat.le_trans hbs (HF.out b hb)⟩⟩
set_option maxRecDepth 100000 in
set_option maxHeartbeats 1000000 in
theorem impl_IsTreeOf_c {e et : TypeId} {o ot : Bool} {xs : List PSymbol} {ns : List PNode} {vl vt : Value} {Fl Ft : List Nat} (w : World) (h : (pSymbols e).rep o w xs [vl] Fl) (ht : (pNodes et).rep ot w ns [vt] Ft) (hx : xs.length ≤ 1048576) (hsz : ∀ c ∈ xs, c.label.size ≤ 1048576) :
    Calls Try.prog 14 #[vl, .agg #[vt]] w fun en w' => en = .returned (.bool (isTreeR xs ns)) ∧ Below w.heap.size w w' := by
  have CV := Lib.hid (fun w' q => impl_ValidSymbols_c (o := o) (e := e) (xs := xs) (v := vl) (F := Fl) w' q hx hsz)
  have H := Lib.hid h
  have HT := Lib.hid ht
  obtain ⟨A, c, rfl⟩ := slice_len h
  obtain ⟨B, d, rfl⟩ := slice_len ht
  clear h ht
  cases hb : symsOkB xs with
  | false =>
    rw [hb] at CV
    have HA : Hid (isTreeR xs ns = false) := by show _ = _; simp [isTreeR, hb]
    clear hb
    go_enter Try.func14, Try.ntmps14
    go_wp2_with fail
    refine (CV.out _ (H.out.alloc _)).mono ?_
    rintro en w1 ⟨rfl, b1⟩
    go_wp2_with fail
    go_ret
    exact ⟨by rw [HA.out]; rfl, ((Below.refl _ _).alloc (Nat.le_refl _) _).trans (b1.mono (by simp))⟩
  | true =>
    rw [hb] at CV
    have HA : Hid (isTreeR xs ns = checkB xs ns) := by show _ = _; simp [isTreeR, hb, check_tree]
    have CK := Lib.hid (fun w' q q' => impl_check_c (e := e) (et := et) (o := o) (ot := ot) (xs := xs) (ns := ns) (vl := .slice A xs.length c) (vt := .slice B ns.length d) (Fl := Fl) (Ft := Ft) w' q q' hb)
    clear hb
    go_enter Try.func14, Try.ntmps14
    go_wp2_with fail
    refine (CV.out _ (H.out.alloc _)).mono ?_
    rintro en w1 ⟨rfl, b1⟩
    have b0 : Below w.heap.size w w1 := ((Below.refl _ _).alloc (Nat.le_refl _) _).trans (b1.mono (by simp))
    have R := (Row.new w 33 #[.slice B ns.length d]).later b1
    have t0 := R.cell' (i := 0) rfl
    go_wp2_with fail
    refine (CK.out _ (H.out.below b0) (HT.out.below b0)).mono ?_
    rintro en w2 ⟨b2, p, rfl, hp⟩
    clear hp
    go_wp2_with fail
    go_ret
    exact ⟨by rw [HA.out]; rfl, b0.trans (b2.mono b0.size)⟩
set_option maxRecDepth 100000 in
set_option maxHeartbeats 1000000 in
theorem impl_TreeCost_c {e et : TypeId} {o ot : Bool} {xs : List PSymbol} {ns : List PNode} {vl vt : Value} {Fl Ft : List Nat} (w : World) (h : (pSymbols e).rep o w xs [vl] Fl) (ht : (pNodes et).rep ot w ns [vt] Ft) (hx : xs.length ≤ 1048576) (hsz : ∀ c ∈ xs, c.label.size ≤ 1048576) :
    Calls Try.prog 18 #[vl, .agg #[vt]] w fun en w' => en = .returned (.tuple #[.int .i64 (costR xs ns), .int .i64 (askF xs ns)]) ∧ Below w.heap.size w w' := by
  have CK := Lib.hid (fun w' q q' => impl_checked_c (e := e) (et := et) (o := o) (ot := ot) (xs := xs) (ns := ns) (vl := vl) (vt := vt) (Fl := Fl) (Ft := Ft) w' q q' hx hsz)
  have H := Lib.hid h
  have HT := Lib.hid ht
  obtain ⟨A, c, rfl⟩ := slice_len h
  obtain ⟨B, d, rfl⟩ := slice_len ht
  clear h ht
  have R := Row.new w 33 #[.slice B ns.length d]
  have t0 := R.cell' (i := 0) rfl
  go_enter Try.func18, Try.ntmps18
  go_wp2_with fail
  refine (CK.out _ (H.out.alloc _) (HT.out.alloc _)).mono ?_
  rintro en w1 ⟨b1, p, rfl, hp⟩
  have b0 : Below w.heap.size w w1 := ((Below.refl _ _).alloc (Nat.le_refl _) _).trans (b1.mono (by simp))
  by_cases h0 : askF xs ns = 0
  · obtain ⟨gp, us, op, vu, vo, vb, Fu, Fo, Fb, rfl, hch, -⟩ := hp h0
    have HC : Hid (costR xs ns = costF xs ns ns.length) := by show _ = _; rw [costR, if_pos h0]
    have HA := Lib.hid h0
    rw [h0]
    have c4 := hch.row.cell' (i := 4) rfl
    clear hp h0 hch
    go_wp2_with fail
    refine bodyPost_ret (v := .tuple #[.int .i64 (costF xs ns ns.length), .int .i64 0]) (by simp [results, Try.results18, go_sem]) rfl ⟨by rw [HC.out, HA.out], b0⟩
  · have HC : Hid (costR xs ns = 0) := by show _ = _; rw [costR, if_neg h0]
    have g : (askF xs ns != 0) = true := by simp [h0]
    clear hp h0
    go_wp2_with fail
    refine bodyPost_ret (v := .tuple #[.int .i64 0, .int .i64 (askF xs ns)]) (by simp [results, Try.results18, go_sem]) rfl ⟨by rw [HC.out], b0⟩
set_option maxRecDepth 100000 in
set_option maxHeartbeats 1000000 in
theorem impl_NodeBoxes_c {e et : TypeId} {o ot : Bool} {xs : List PSymbol} {ns : List PNode} {vl vt : Value} {Fl Ft : List Nat} (w : World) (h : (pSymbols e).rep o w xs [vl] Fl) (ht : (pNodes et).rep ot w ns [vt] Ft) (hx : xs.length ≤ 1048576) (hsz : ∀ c ∈ xs, c.label.size ≤ 1048576) :
    Calls Try.prog 31 #[vl, .agg #[vt]] w (GivesL (pBoxs 67) (boxesR xs ns) (askF xs ns) w) := by
  have CK := Lib.hid (fun w' q q' => impl_checked_c (e := e) (et := et) (o := o) (ot := ot) (xs := xs) (ns := ns) (vl := vl) (vt := vt) (Fl := Fl) (Ft := Ft) w' q q' hx hsz)
  have H := Lib.hid h
  have HT := Lib.hid ht
  obtain ⟨A, c, rfl⟩ := slice_len h
  obtain ⟨B, d, rfl⟩ := slice_len ht
  clear h ht
  have R := Row.new w 33 #[.slice B ns.length d]
  have t0 := R.cell' (i := 0) rfl
  go_enter Try.func31, Try.ntmps31
  go_wp2_with fail
  refine (CK.out _ (H.out.alloc _) (HT.out.alloc _)).mono ?_
  rintro en w1 ⟨b1, p, rfl, hp⟩
  have b0 : Below w.heap.size w w1 := ((Below.refl _ _).alloc (Nat.le_refl _) _).trans (b1.mono (by simp))
  by_cases h0 : askF xs ns = 0
  · obtain ⟨gp, us, op, vu, vo, vb, Fu, Fo, Fb, rfl, hch, hfr⟩ := hp h0
    have HC : Hid (boxesR xs ns = boxesF xs ns ns.length) := by show _ = _; rw [boxesR, if_pos h0]
    have HA := Lib.hid h0
    rw [h0]
    obtain ⟨_, _, _, _, _, _, Ab, cb, -, -, -, rfl⟩ := hch.shape
    have c3 := hch.row.cell' (i := 3) rfl
    have HB := Lib.hid hch.bs
    have HND : Hid (Fresh w.heap.size Fb) := by
      have h1 := hch.nd
      simp only [List.nodup_cons, List.nodup_append] at h1
      exact ⟨h1.2.2.1.2.1, fun b hb => by have := hfr b (by simp [hb]); simp at this; omega⟩
    clear hp h0 hch hfr
    go_wp2_with fail
    refine bodyPost_ret (v := .tuple #[_, .int .i64 0]) (by simp [results, Try.results31, go_sem]; rfl) rfl ⟨_, Fb, by rw [HA.out], by rw [HC.out]; exact HB.out, HND.out, b0⟩
  · have HC : Hid (boxesR xs ns = []) := by show _ = _; rw [boxesR, if_neg h0]
    have g : (askF xs ns != 0) = true := by simp [h0]
    clear hp h0
    go_wp2_with fail
    refine bodyPost_ret (v := .tuple #[.slice none 0 0, .int .i64 (askF xs ns)]) (by simp [results, Try.results31, go_sem]) rfl ⟨_, [], rfl, by rw [HC.out]; exact slice_nil _ _ _ _, Fresh.nil _, b0⟩
end Go.Proofs.Ytkickllohilciaa
