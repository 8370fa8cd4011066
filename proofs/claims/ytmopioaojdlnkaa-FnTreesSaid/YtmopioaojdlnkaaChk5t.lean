/- The program's checker of trees: all nodes. Conditions: none. -/
import Derived.Test.YtmopioaojdlnkaaStepAppt
import Derived.Test.YtmopioaojdlnkaaTyBoxt
import Derived.StillTail
import Derived.StillTailTactics
namespace Go.Proofs.Ytmopioaojdlnkaa
open Go Go.RowKit
theorem signUse_len {xs : List PSymbol} {us vs : List Bool} {n : PNode} (h : signUse xs us n = some vs) : vs.length = us.length := by
 unfold signUse at h
 split at h
 · cases e : useK us n.sign with
   | none => rw [e] at h; cases h
   | some u =>
     rw [e] at h
     simp only [Option.bind_some] at h
     split at h
     · cases h; exact useK_len e
     · cases h
 · split at h
   · cases h; rfl
   · cases h
theorem joinF_more {xs : List PSymbol} {st : ChSt} {n : PNode} (hc : ChkOk xs st) {p : ChSt × PBox} (h : joinF xs st n = some p) : p.1.used.length = st.used.length ∧ (∀ x ∈ p.1.opn, x ∈ st.opn) ∧ st.cost ≤ p.1.cost ∧ p.1.cost ≤ st.cost + 40000 := by
 have hz : boxIn ⟨0, 0, 0, 0⟩ := by unfold boxIn; simp
 have hb : ∀ k : Nat, boxIn (st.boxes.getD k ⟨0, 0, 0, 0⟩) := fun k => by
  rw [List.getD_eq_getElem?_getD]
  cases e : st.boxes[k]? with
  | none => exact hz
  | some b => exact hc.bx b (List.mem_of_getElem? e)
 have hs : ∀ k : Int, boxIn (boxOf (symAt xs k)) := fun k => by
  unfold symAt
  rw [List.getD_eq_getElem?_getD]
  cases e : xs[k.toNat]? with
  | none => exact hz
  | some b => exact hc.sy b (List.mem_of_getElem? e)
 have h1 : boxIn (partA st.boxes n) := hb _
 have h2 : boxIn (partB st.boxes n) := by unfold partB; split <;> first | exact h1 | exact hb _
 have h3 : boxIn (signB xs st.boxes n) := by unfold signB; split <;> first | exact h1 | exact hs _
 have h4 := ownF_le n.kind h1 h2 h3
 unfold joinF at h
 cases e1 : popB st.opn n with
 | none => rw [e1] at h; cases h
 | some o1 =>
   rw [e1] at h
   have l1 : ∀ x ∈ o1, x ∈ st.opn := by
    unfold popB at e1
    split at e1
    · split at e1
      · cases e1; exact fun _ h => h
      · cases e1
    · exact (popK_mem e1).2.1
   simp only [Option.bind_some] at h
   cases e2 : popK o1 n.a with
   | none => rw [e2] at h; cases h
   | some o2 =>
     rw [e2] at h
     have l2 := (popK_mem e2).2.1
     simp only [Option.bind_some] at h
     cases e3 : signUse xs st.used n with
     | none => rw [e3] at h; cases h
     | some u =>
       rw [e3] at h
       simp only [Option.bind_some] at h
       split at h
       · cases h
         exact ⟨signUse_len e3, fun x hx => l1 _ (l2 _ hx), by show st.cost ≤ st.cost + _; omega, by show st.cost + _ ≤ _; omega⟩
       · cases h
theorem stepF_ok {xs : List PSymbol} {st st' : ChSt} {n : PNode} (hc : ChkOk xs st) (hl : st.boxes.length ≤ 15) (ho : st.opn.length ≤ st.boxes.length) (h : stepF xs st n = some st') : ChkOk xs st' ∧ st'.boxes.length = st.boxes.length + 1 ∧ st'.opn.length ≤ st'.boxes.length := by
 have mk : ∀ (us : List Bool) (op : List Int) (b : PBox) (c : Int), us.length = st.used.length → (∀ x ∈ op, x ∈ st.opn) → op.length ≤ st.opn.length → boxIn b → st.cost ≤ c → c ≤ st.cost + 40000 → ChkOk xs ⟨us, op ++ [(st.boxes.length : Int)], st.boxes ++ [b], c⟩ := by
  intro us op b c h1 h2 h3 h4 h5 h6
  have hcost := hc.cost
  refine ⟨h1.trans hc.used, hc.few, ?_, by simp; omega, by simp; omega, ?_, hc.sy, by simp; omega⟩
  · intro r hr
    simp only [List.mem_append, List.mem_singleton] at hr
    simp only [List.length_append, List.length_singleton]
    rcases hr with hr | hr
    · have := hc.op r (h2 r hr); omega
    · omega
  · intro x hx
    simp only [List.mem_append, List.mem_singleton] at hx
    rcases hx with hx | rfl
    · exact hc.bx x hx
    · exact h4
 by_cases h0 : n.kind = 0
 · unfold stepF at h
   rw [if_pos h0] at h
   split at h
   · cases e : useK st.used n.a with
     | none => rw [e] at h; cases h
     | some u =>
       rw [e] at h
       simp only [Option.map_some, Option.some.injEq] at h
       subst h
       have hz : boxIn ⟨0, 0, 0, 0⟩ := by unfold boxIn; simp
       have hs : boxIn (boxOf (symAt xs n.a)) := by
        unfold symAt
        rw [List.getD_eq_getElem?_getD]
        cases e : xs[n.a.toNat]? with
        | none => exact hz
        | some b => exact hc.sy b (List.mem_of_getElem? e)
       refine ⟨mk u st.opn _ st.cost (useK_len e) (fun _ h => h) (Nat.le_refl _) (by unfold boxNode; rw [if_pos h0]; exact hs) (Int.le_refl _) (by omega), by simp, by simp; omega⟩
   · cases h
 · rw [stepF_join xs st n h0] at h
   cases e : joinF xs st n with
   | none => rw [e] at h; cases h
   | some p =>
     rw [e] at h
     simp only [Option.map_some, Option.some.injEq] at h
     subst h
     obtain ⟨h1, h2, h3⟩ := joinF_ok hc e
     obtain ⟨h4, h5, h6, h7⟩ := joinF_more hc e
     exact ⟨mk p.1.used p.1.opn p.2 p.1.cost h4 h5 h3 h1 h6 h7, by simp, by simp; omega⟩
theorem runF_none {xs : List PSymbol} {ns : List PNode} {k : Nat} (h : runF xs ns k = none) : ∀ m, k ≤ m → runF xs ns m = none
 | 0, hm => by
   obtain rfl : k = 0 := by omega
   exact h
 | m + 1, hm => by
   by_cases e : k = m + 1
   · subst e; exact h
   · rw [runF, runF_none h m (by omega)]; rfl
set_option maxRecDepth 100000 in
set_option maxHeartbeats 1000000 in
theorem Index_bool {e : TypeId} {o : Bool} {us : List Bool} {v : Value} {F : List Nat} (w : World) (h : (bools e).rep o w us [v] F) (hl : us.length ≤ 1048576) :
 Calls Try.prog 76 #[v, .bool false] w fun en w' => ∃ r : Int, en = .returned (.int .i64 r) ∧ decide (0 ≤ r) = !(us.all id) ∧ w' = w := by
 obtain ⟨A, c, rfl, hc1, hc2, hr⟩ := bools_open h
 go_enter Try.func76, Try.ntmps76
 go_wp2_with fail
 go_loopw [5, 8] (fun _ i wr => ∃ k : Nat, k ≤ us.length ∧ i = .int .i64 k ∧ (∀ j (hj : j < us.length), j < k → us[j] = true) ∧ wr = w) (fun _ i _ => us.length - (intOf i).toNat)
 case atStart => exact ⟨0, Nat.zero_le _, rfl, fun _ _ h => by omega, rfl⟩
 case round =>
  obtain ⟨k, hk, rfl, hall, rfl⟩ := hrel
  by_cases hlt : k < us.length
  · obtain ⟨b, off, rfl, _, _, h0⟩ := hr k hlt
    have i1 : (k : Int) < (us.length : Int) := by omega
    have i2 := IntWalk.i64_in ((k : Int) + 1) (by omega)
    have i3 : (0 : Int) ≤ (k : Int) := by omega
    have HA := Lib.hid hall
    clear hall hr
    cases hv : us[k]
    · rw [hv] at h0
      go_wp2_with fail
      go_ret
      refine ⟨_, rfl, ?_, rfl⟩
      have : us.all id = false := by
       rw [List.all_eq_false]
       exact ⟨us[k], List.getElem_mem hlt, by simp [hv]⟩
      rw [this]
      simp
    · rw [hv] at h0
      go_wp2_with fail
      go_roundw
      case rel => exact ⟨k + 1, by omega, by go_num, fun j hj hjk => by
       by_cases e : j = k
       · subst e; exact hv
       · exact HA.out j hj (by omega), trivial⟩
      case measure => simp [intOf]; omega
  · have i1 : ¬ ((k : Int) < (us.length : Int)) := by omega
    have HA : Hid (us.all id = true) := by
     show _ = _
     rw [List.all_eq_true]
     intro x hx
     obtain ⟨j, hj, rfl⟩ := List.getElem_of_mem hx
     exact hall j hj (by omega)
    clear hr hall
    go_wp2_with fail
    go_ret
    refine ⟨_, rfl, ?_, rfl⟩
    rw [HA.out]
    decide
theorem Contains_bool {e : TypeId} {o : Bool} {us : List Bool} {v : Value} {F : List Nat} (w : World) (h : (bools e).rep o w us [v] F) (hl : us.length ≤ 1048576) :
 Calls Try.prog 55 #[v, .bool false] w fun en w' => en = .returned (.bool (!(us.all id))) ∧ w' = w := by
 have C := Lib.hid (Index_bool w h hl)
 go_enter Try.func55, Try.ntmps55
 go_wp2_with fail
 refine C.out.mono ?_
 rintro en w1 ⟨r, rfl, hr, rfl⟩
 have HR := Lib.hid hr
 clear hr
 go_wp2_with fail
 go_ret
 exact ⟨by rw [← HR.out]; rfl, rfl⟩
def CheckPost (e : TypeId) (o : Bool) (xs : List PSymbol) (vl : Value) (Fl : List Nat) (ns : List PNode) (w : World) (en : Ending) (w' : World) : Prop :=
 Below w.heap.size w w' ∧ ∃ p, en = .returned (.tuple #[p, .bool (checkB xs ns)]) ∧ (checkB xs ns = true → ∃ gp st vu vo vb Fu Fo Fb, p = .pointer (some ⟨gp, 0, none⟩) ∧ runF xs ns ns.length = some st ∧ Chk e o xs vl Fl gp st vu vo vb Fu Fo Fb w' ∧ ∀ b ∈ gp :: (Fu ++ (Fo ++ Fb)), w.heap.size ≤ b)
theorem symsOk_few {xs : List PSymbol} (h : symsOkB xs = true) : xs.length ≤ 8 := by
 simp only [symsOkB, Bool.and_eq_true, decide_eq_true_eq] at h
 exact h.2
theorem symsOk_box {xs : List PSymbol} (h : symsOkB xs = true) : ∀ s ∈ xs, boxIn (boxOf s) := by
 intro s hs
 simp only [symsOkB, Bool.and_eq_true, List.all_eq_true] at h
 have := h.1 s hs
 simp only [symOkB, Bool.and_eq_true] at this
 exact boxIn_ok this.2
theorem nodeAt_get {ns : List PNode} {k : Nat} (h : k < ns.length) : nodeAt ns k = ns[k] := by simp [nodeAt, List.getD_eq_getElem?_getD, List.getElem?_eq_getElem h]
theorem checkB_none {xs : List PSymbol} {ns : List PNode} {k : Nat} (hk : k ≤ ns.length) (h : runF xs ns k = none) : checkB xs ns = false := by
 unfold checkB
 rw [runF_none h _ hk]
 simp
set_option maxRecDepth 100000 in
set_option maxHeartbeats 2000000 in
theorem impl_check_c {e et : TypeId} {o ot : Bool} {xs : List PSymbol} {ns : List PNode} {vl vt : Value} {Fl Ft : List Nat} (w : World) (h : (pSymbols e).rep o w xs [vl] Fl) (ht : (pNodes et).rep ot w ns [vt] Ft) (hok : symsOkB xs = true) :
 Calls Try.prog 36 #[vl, .agg #[vt]] w (CheckPost e o xs vl Fl ns w) := by
 have hfew := symsOk_few hok
 have HOK := Lib.hid hok
 obtain ⟨A, c, rfl⟩ := slice_len h
 obtain ⟨B, d, rfl, hd1, hd2, hr⟩ := pNodes_open ht
 have H := Lib.hid h
 clear h ht hok
 have hmk := make_run (P := Try.prog) (t := 80) (e := 4) (z := .bool false) (size := 1) (bytes := 1) Try.underlying80 (by kernel_rfl) xs.length (xs.length : Int) rfl (by omega) (by unfold maxLen; omega)
 simp only [show (Value.bool false).cells = #[.bool false] from rfl] at hmk
 by_cases hln : 15 < ns.length
 · have g : (15 : Int) < (ns.length : Int) := by omega
   have hf : Hid (checkB xs ns = false) := by
    show _ = _
    unfold checkB
    simp; omega
   clear hr hln
   go_enter Try.func36, Try.ntmps36
   go_wp2_with fail
   refine bodyPost_ret (v := .tuple #[.pointer none, .bool false]) (by simp [results, Try.results36, go_sem]) rfl ⟨?_, .pointer none, by rw [hf.out], fun h => by rw [hf.out] at h; cases h⟩
   exact ((((Below.refl _ _).alloc (Nat.le_refl _) _).alloc (by simp) _).alloc (by simp; omega) _)
 · have g : ¬ ((15 : Int) < (ns.length : Int)) := by omega
   have HC0 : Hid (Chk e o xs (.slice A xs.length c) Fl (w.heap.size + 2) ⟨List.replicate xs.length false, [], [], 0⟩ (.slice (some ⟨w.heap.size + 1, 0, none⟩) xs.length xs.length) (.slice none 0 0) (.slice none 0 0) [w.heap.size + 1] [] [] (((w.alloc (.cells #[.slice B ns.length d] 28)).alloc (.cells (madeCells #[.bool false] (xs.length * 1)) 4)).alloc (.cells #[.slice A xs.length c, .slice (some ⟨w.heap.size + 1, 0, none⟩) xs.length xs.length, .slice none 0 0, .slice none 0 0, .int .i64 0] 82))) := by
    have R2 := Row.new (w.alloc (.cells #[.slice B ns.length d] 28)) 4 (madeCells #[.bool false] (xs.length * 1))
    rw [Nat.mul_one, toList_madeCells_one] at R2
    have R3 := Row.new ((w.alloc (.cells #[.slice B ns.length d] 28)).alloc (.cells (madeCells #[.bool false] (xs.length * 1)) 4)) 82 #[.slice A xs.length c, .slice (some ⟨w.heap.size + 1, 0, none⟩) xs.length xs.length, .slice none 0 0, .slice none 0 0, .int .i64 0]
    have z1 : (w.alloc (.cells #[.slice B ns.length d] 28)).heap.size = w.heap.size + 1 := by simp
    have z2 : ((w.alloc (.cells #[.slice B ns.length d] 28)).alloc (.cells (madeCells #[.bool false] (xs.length * 1)) 4)).heap.size = w.heap.size + 2 := by simp
    rw [z1] at R2
    rw [z2] at R3
    have hlt := fun b hb => (pSymbols e).lt H.out b hb
    refine ⟨R3, ((H.out.alloc _).alloc _).alloc _, ?_, slice_nil _ _ _ _, slice_nil _ _ _ _, by simp, fun b hb => by have := hlt b hb; simp; omega⟩
    have S := slice_of_row (T := boolT) (xs := List.replicate xs.length false) R2 (by have := repL_bools (o := true) (w := (w.alloc (.cells #[.slice B ns.length d] 28)).alloc (.cells (madeCells #[.bool false] (xs.length)) 4)) (List.replicate xs.length false); simpa using this) (by simp [maxLen]; omega)
    simp only [List.length_replicate] at S
    have S' := S.alloc (.cells #[.slice A xs.length c, .slice (some ⟨w.heap.size + 1, 0, none⟩) xs.length xs.length, .slice none 0 0, .slice none 0 0, .int .i64 0] 82)
    rw [Nat.mul_one]
    exact S'
   have HK0 : Hid (ChkOk xs ⟨List.replicate xs.length false, [], [], 0⟩) := ⟨by simp, hfew, by simp, by simp, by simp, by simp, symsOk_box HOK.out, by simp⟩
   go_enter Try.func36, Try.ntmps36
   go_wp2_with fail
   go_loopw [22] (fun i wr => ∃ (k : Nat) (st : ChSt) (vo vb : Value) (Fo Fb : List Nat), k ≤ ns.length ∧ i = .int .i64 k ∧ runF xs ns k = some st ∧ ChkOk xs st ∧ st.boxes.length = k ∧ st.opn.length ≤ st.boxes.length ∧ Chk e o xs (.slice A xs.length c) Fl (w.heap.size + 2) st (.slice (some ⟨w.heap.size + 1, 0, none⟩) xs.length xs.length) vo vb [w.heap.size + 1] Fo Fb wr ∧ (∀ b ∈ Fo ++ Fb, w.heap.size ≤ b) ∧ Below w.heap.size w wr) (fun i _ => ns.length - (intOf i).toNat)
   case atStart =>
    have HC := HC0.out
    rw [Nat.mul_one] at HC
    refine ⟨0, _, _, _, [], [], Nat.zero_le _, rfl, rfl, HK0.out, rfl, Nat.le_refl _, by first | exact HC | simpa using HC, by simp, ?_⟩
    exact ((((Below.refl _ _).alloc (Nat.le_refl _) _).alloc (by simp) _).alloc (by simp; omega) _)
   case round =>
    obtain ⟨k, st, vo, vb, Fo, Fb, hk, rfl, hrun, hck, hbl, hol, hch, hfr, hb⟩ := hrel
    have hbs := hb.size
    by_cases hlt : k < ns.length
    · obtain ⟨b, off, rfl, hbb, _, q0, q1, q2, q3, _⟩ := hr k hlt
      rw [← hb.cell (p := ⟨b, _, none⟩) hbb] at q0 q1 q2 q3
      have i1 : (k : Int) < (ns.length : Int) := by omega
      have i2 := IntWalk.i64_in ((k : Int) + 1) (by omega)
      have i3 : (0 : Int) ≤ (k : Int) := by omega
      have CN := Lib.hid (fun w' q => impl_node_c (e := e) (o := o) (xs := xs) (vl := .slice A xs.length c) (vu := .slice (some ⟨w.heap.size + 1, 0, none⟩) xs.length xs.length) (vo := vo) (vb := vb) (Fl := Fl) (Fu := [w.heap.size + 1]) (Fo := Fo) (Fb := Fb) (gp := w.heap.size + 2) (st := st) ns[k] w' q hck)
      have hstep : runF xs ns (k + 1) = stepF xs st ns[k] := by rw [runF, hrun, nodeAt_get hlt]; rfl
      have HST := Lib.hid hstep
      have HCH := Lib.hid hch
      have HOK2 := Lib.hid (fun st' (h : stepF xs st ns[k] = some st') => stepF_ok hck (by omega) hol h)
      have HF := Lib.hid hfr
      have HBL := Lib.hid hbl
      clear hstep hch hck hol hfr hrun hr hbl
      go_wp2_with fail
      refine (CN.out _ (HCH.out.alloc _)).mono ?_
      rintro en w1 ⟨rfl, o1, hpost⟩
      have hb1 : Below w.heap.size w w1 := (hb.alloc hbs _).trans (o1.below (by simp; omega) (fun b hb => by
       simp only [List.mem_cons, List.mem_append, List.not_mem_nil, or_false] at hb
       rcases hb with rfl | rfl | hb | hb
       · omega
       · omega
       · exact HF.out b (by simp [hb])
       · exact HF.out b (by simp [hb])))
      cases hs : stepF xs st ns[k] with
      | none =>
        have hf : Hid (checkB xs ns = false) := checkB_none (k := k + 1) (by omega) (HST.out.trans hs)
        clear hpost hs
        go_wp2_with fail
        refine bodyPost_ret (v := .tuple #[.pointer none, .bool false]) (by simp [results, Try.results36, go_sem]) rfl ⟨hb1, .pointer none, by rw [hf.out], fun h => by rw [hf.out] at h; cases h⟩
      | some st' =>
        obtain ⟨vo', vb', Fo', Fb', hch', hmem⟩ := hpost st' hs
        obtain ⟨hck', hbl', hol'⟩ := HOK2.out st' hs
        have hrun' : runF xs ns (k + 1) = some st' := HST.out.trans hs
        have G1 := Lib.hid hch'
        have G2 := Lib.hid hck'
        have G3 := Lib.hid hrun'
        have G4 := Lib.hid hol'
        have G5 := Lib.hid hmem
        have G6 : Hid (st'.boxes.length = k + 1) := by rw [← HBL.out]; exact hbl'
        clear hch' hck' hrun' hol' hmem hpost hs hbl'
        go_wp2_with fail
        go_roundw
        case rel =>
         refine ⟨k + 1, st', vo', vb', Fo', Fb', by omega, by go_num, G3.out, G2.out, G6.out, G4.out, G1.out, fun b hbm => ?_, hb1⟩
         rcases G5.out b hbm with h | h
         · exact HF.out b h
         · simp only [World.size_alloc] at h; omega
        case measure => simp [intOf]; omega
    · obtain rfl : k = ns.length := by omega
      have i1 : ¬ ((ns.length : Int) < (ns.length : Int)) := by omega
      obtain ⟨_, _, _, _, Ao, co, Ab, cb, -, -, rfl, rfl⟩ := hch.shape
      have p1 := hch.row.c1
      have p2 := hch.row.c2
      have hul := hck.used
      have CC := Lib.hid (Contains_bool wr hch.us (by omega))
      have HCH := Lib.hid hch
      have HRUN := Lib.hid hrun
      have HF := Lib.hid hfr
      have HUL := Lib.hid hul
      by_cases h1 : st.opn.length = 1
      · have g1 : ((st.opn.length : Int) == 1) = true := by simp [h1]
        have hcb : checkB xs ns = st.used.all id := by
         unfold checkB
         rw [hrun]
         simp [h1]; omega
        have HCB := Lib.hid hcb
        clear hcb hch hck hol hfr hrun hr hbl h1 hul
        go_wp2_with fail
        refine CC.out.mono ?_
        rintro en w1 ⟨rfl, rfl⟩
        go_wp2_with fail
        refine bodyPost_ret (v := .tuple #[.pointer (some ⟨w.heap.size + 2, 0, none⟩), .bool (st.used.all id)]) (by simp [results, Try.results36, go_sem]) rfl ⟨hb, _, by rw [HCB.out], fun _ => ⟨_, st, _, _, _, _, Fo, Fb, rfl, HRUN.out, HCH.out, fun b hb => ?_⟩⟩
        simp only [List.mem_cons, List.mem_append, List.not_mem_nil, or_false] at hb
        rcases hb with rfl | rfl | hb | hb
        · omega
        · omega
        · exact HF.out b (by simp [hb])
        · exact HF.out b (by simp [hb])
      · have g1 : ((st.opn.length : Int) == 1) = false := by simp; omega
        have hcb : checkB xs ns = false := by
         unfold checkB
         rw [hrun]
         simp [h1]
        have HCB := Lib.hid hcb
        clear hcb hch hck hol hfr hrun hr hbl h1 hul
        go_wp2_with fail
        refine bodyPost_ret (v := .tuple #[.pointer (some ⟨w.heap.size + 2, 0, none⟩), .bool false]) (by simp [results, Try.results36, go_sem]) rfl ⟨hb, _, by rw [HCB.out], fun h => by rw [HCB.out] at h; cases h⟩
def askF (xs : List PSymbol) (ns : List PNode) : Int := if symsOkB xs = true then (if treeB xs ns = true then 0 else 8) else 1
theorem ask_bad {xs : List PSymbol} {ns : List PNode} (h : symsOkB xs = false) : askF xs ns = 1 := by simp [askF, h]
theorem ask_no {xs : List PSymbol} {ns : List PNode} (h : symsOkB xs = true) (h2 : treeB xs ns = false) : askF xs ns = 8 := by simp [askF, h, h2]
theorem ask_yes {xs : List PSymbol} {ns : List PNode} (h : symsOkB xs = true) (h2 : treeB xs ns = true) : askF xs ns = 0 := by simp [askF, h, h2]
theorem ask_zero {xs : List PSymbol} {ns : List PNode} (h : askF xs ns = 0) : symsOkB xs = true ∧ treeB xs ns = true := by
 unfold askF at h
 split at h
 · split at h
   · exact ⟨by assumption, by assumption⟩
   · cases h
 · cases h
def GivesL {α : Type} (T : Ty (List α)) (q : List α) (c : Int) (w : World) (en : Ending) (w' : World) : Prop :=
 ∃ v G, en = .returned (.tuple #[v, .int .i64 c]) ∧ T.rep true w' q [v] G ∧ Fresh w.heap.size G ∧ Below w.heap.size w w'
def boxesR (xs : List PSymbol) (ns : List PNode) : List PBox := if askF xs ns = 0 then boxesF xs ns ns.length else []
def CheckedPost (e : TypeId) (o : Bool) (xs : List PSymbol) (vl : Value) (Fl : List Nat) (ns : List PNode) (w : World) (en : Ending) (w' : World) : Prop :=
 Below w.heap.size w w' ∧ ∃ p, en = .returned (.tuple #[p, .int .i64 (askF xs ns)]) ∧ (askF xs ns = 0 → ∃ gp us op vu vo vb Fu Fo Fb, p = .pointer (some ⟨gp, 0, none⟩) ∧ Chk e o xs vl Fl gp ⟨us, op, boxesF xs ns ns.length, costF xs ns ns.length⟩ vu vo vb Fu Fo Fb w' ∧ ∀ b ∈ gp :: (Fu ++ (Fo ++ Fb)), w.heap.size ≤ b)
set_option maxRecDepth 100000 in
set_option maxHeartbeats 1000000 in
theorem impl_checked_c {e et : TypeId} {o ot : Bool} {xs : List PSymbol} {ns : List PNode} {vl vt : Value} {Fl Ft : List Nat} (w : World) (h : (pSymbols e).rep o w xs [vl] Fl) (ht : (pNodes et).rep ot w ns [vt] Ft) (hx : xs.length ≤ 1048576) (hsz : ∀ c ∈ xs, c.label.size ≤ 1048576) :
 Calls Try.prog 35 #[vl, .agg #[vt]] w (CheckedPost e o xs vl Fl ns w) := by
 have CV := Lib.hid (fun w' q => impl_ValidSymbols_c (o := o) (e := e) (xs := xs) (v := vl) (F := Fl) w' q hx hsz)
 have H := Lib.hid h
 have HT := Lib.hid ht
 obtain ⟨A, c, rfl⟩ := slice_len h
 obtain ⟨B, d, rfl⟩ := slice_len ht
 clear h ht
 cases hb : symsOkB xs with
 | false =>
   rw [hb] at CV
   have HA := Lib.hid (ask_bad (ns := ns) hb)
   clear hb
   go_enter Try.func35, Try.ntmps35
   go_wp2_with fail
   refine (CV.out _ (H.out.alloc _)).mono ?_
   rintro en w1 ⟨rfl, b1⟩
   go_wp2_with fail
   refine bodyPost_ret (v := .tuple #[.pointer none, .int .i64 1]) (by simp [results, Try.results35, go_sem]) rfl ⟨((Below.refl _ _).alloc (Nat.le_refl _) _).trans (b1.mono (by simp)), _, by rw [HA.out], fun h => by rw [HA.out] at h; cases h⟩
 | true =>
   rw [hb] at CV
   have CK := Lib.hid (fun w' q q' => impl_check_c (e := e) (et := et) (o := o) (ot := ot) (xs := xs) (ns := ns) (vl := .slice A xs.length c) (vt := .slice B ns.length d) (Fl := Fl) (Ft := Ft) w' q q' hb)
   have HB := Lib.hid hb
   clear hb
   go_enter Try.func35, Try.ntmps35
   go_wp2_with fail
   refine (CV.out _ (H.out.alloc _)).mono ?_
   rintro en w1 ⟨rfl, b1⟩
   have b0 : Below w.heap.size w w1 := ((Below.refl _ _).alloc (Nat.le_refl _) _).trans (b1.mono (by simp))
   have R := (Row.new w 28 #[.slice B ns.length d]).later b1
   have t0 := R.c0
   go_wp2_with fail
   refine (CK.out _ (H.out.below b0) (HT.out.below b0)).mono ?_
   rintro en w2 ⟨b2, p, rfl, hp⟩
   rw [check_tree] at hp ⊢
   have b02 := b0.trans (b2.mono b0.size)
   cases ht : treeB xs ns with
   | false =>
     have HA := Lib.hid (ask_no HB.out ht)
     clear hp ht
     go_wp2_with fail
     refine bodyPost_ret (v := .tuple #[.pointer none, .int .i64 8]) (by simp [results, Try.results35, go_sem]) rfl ⟨b02, _, by rw [HA.out], fun h => by rw [HA.out] at h; cases h⟩
   | true =>
     have HA := Lib.hid (ask_yes HB.out ht)
     obtain ⟨gp, st, vu, vo, vb, Fu, Fo, Fb, rfl, hrun, hch, hfr⟩ := hp ht
     obtain ⟨us, op, hrun2⟩ := check_run xs ns ht
     rw [hrun2] at hrun
     injection hrun with hrun
     subst hrun
     have HCH := Lib.hid hch
     have HF := Lib.hid hfr
     clear hp ht hrun2 hch hfr
     have hbs := b0.size
     go_wp2_with fail
     refine bodyPost_ret (v := .tuple #[.pointer (some ⟨gp, 0, none⟩), .int .i64 0]) (by simp [results, Try.results35, go_sem]) rfl ⟨b02, _, by rw [HA.out], fun _ => ⟨gp, us, op, vu, vo, vb, Fu, Fo, Fb, rfl, HCH.out, fun b hb => Nat.le_trans hbs (HF.out b hb)⟩⟩
set_option maxRecDepth 100000 in
set_option maxHeartbeats 1000000 in
theorem impl_NodeBoxes_c {e et : TypeId} {o ot : Bool} {xs : List PSymbol} {ns : List PNode} {vl vt : Value} {Fl Ft : List Nat} (w : World) (h : (pSymbols e).rep o w xs [vl] Fl) (ht : (pNodes et).rep ot w ns [vt] Ft) (hx : xs.length ≤ 1048576) (hsz : ∀ c ∈ xs, c.label.size ≤ 1048576) :
 Calls Try.prog 17 #[vl, .agg #[vt]] w (GivesL (pBoxs 48) (boxesR xs ns) (askF xs ns) w) := by
 have CK := Lib.hid (fun w' q q' => impl_checked_c (e := e) (et := et) (o := o) (ot := ot) (xs := xs) (ns := ns) (vl := vl) (vt := vt) (Fl := Fl) (Ft := Ft) w' q q' hx hsz)
 have H := Lib.hid h
 have HT := Lib.hid ht
 obtain ⟨A, c, rfl⟩ := slice_len h
 obtain ⟨B, d, rfl⟩ := slice_len ht
 clear h ht
 have R := Row.new w 28 #[.slice B ns.length d]
 have t0 := R.c0
 go_enter Try.func17, Try.ntmps17
 go_wp2_with fail
 refine (CK.out _ (H.out.alloc _) (HT.out.alloc _)).mono ?_
 rintro en w1 ⟨b1, p, rfl, hp⟩
 have b0 : Below w.heap.size w w1 := ((Below.refl _ _).alloc (Nat.le_refl _) _).trans (b1.mono (by simp))
 by_cases h0 : askF xs ns = 0
 · obtain ⟨gp, us, op, vu, vo, vb, Fu, Fo, Fb, rfl, hch, hfr⟩ := hp h0
   have HC : Hid (boxesR xs ns = boxesF xs ns ns.length) := by show _ = _; rw [boxesR, if_pos h0]
   have HA := Lib.hid h0
   rw [h0]
   obtain ⟨_, _, _, _, _, _, Ab, cb, -, -, -, rfl⟩ := hch.shape
   have c3 := hch.row.c3
   have HB := Lib.hid hch.bs
   have HND : Hid (Fresh w.heap.size Fb) := by
    have h1 := hch.nd
    simp only [List.nodup_cons, List.nodup_append] at h1
    exact ⟨h1.2.2.1.2.1, fun b hb => by have := hfr b (by simp [hb]); simp at this; omega⟩
   clear hp h0 hch hfr
   go_wp2_with fail
   refine bodyPost_ret (v := .tuple #[_, .int .i64 0]) (by simp [results, Try.results17, go_sem]; rfl) rfl ⟨_, Fb, by rw [HA.out], by rw [HC.out]; exact HB.out, HND.out, b0⟩
 · have HC : Hid (boxesR xs ns = []) := by show _ = _; rw [boxesR, if_neg h0]
   have g : (askF xs ns != 0) = true := by simp [h0]
   clear hp h0
   go_wp2_with fail
   refine bodyPost_ret (v := .tuple #[.slice none 0 0, .int .i64 (askF xs ns)]) (by simp [results, Try.results17, go_sem]) rfl ⟨_, [], rfl, by rw [HC.out]; exact slice_nil _ _ _ _, Fresh.nil _, b0⟩
structure RdSt where
 used : List Bool
 boxes : List PBox
 depth : List Int
 cost : Int
 good : Bool
theorem boxCells_get : ∀ (bs : List PBox) (k i : Nat) (hk : k < bs.length), i < 4 → (bs.flatMap pBoxCells)[k * 4 + i]? = (pBoxCells bs[k])[i]?
 | b :: r, 0, i, _, hi => by
   rw [List.flatMap_cons, List.getElem?_append_left (by simp [pBoxCells]; omega)]
   simp
 | b :: r, k + 1, i, hk, hi => by
   have ih := boxCells_get r k i (by simpa using hk) hi
   rw [List.flatMap_cons, List.getElem?_append_right (by simp [pBoxCells]; omega), show (k + 1) * 4 + i - (pBoxCells b).length = k * 4 + i by simp [pBoxCells]; omega, ih]
   simp
theorem boxCells_set : ∀ (bs : List PBox) (k : Nat) (b : PBox), k < bs.length → ((((bs.flatMap pBoxCells).set (k * 4) (.int .i64 b.x1)).set (k * 4 + 1) (.int .i64 b.y1)).set (k * 4 + 2) (.int .i64 b.x2)).set (k * 4 + 3) (.int .i64 b.y2) = (bs.set k b).flatMap pBoxCells
 | c :: r, 0, b, _ => by simp [pBoxCells]
 | c :: r, k + 1, b, h => by
   have ih := boxCells_set r k b (by simpa using h)
   have e : (k + 1) * 4 = k * 4 + 4 := by omega
   rw [e]
   simp only [List.flatMap_cons, List.set_cons_succ, ← ih]
   simp [pBoxCells]
structure Rd (e et : TypeId) (o ot : Bool) (xs : List PSymbol) (ns : List PNode) (vl vn : Value) (Fl Fn : List Nat) (gp gu gb gd : Nat) (st : RdSt) (w : World) : Prop where
 row : Row w gp 90 [vl, vn, .slice (some ⟨gu, 0, none⟩) xs.length xs.length, .slice (some ⟨gb, 0, none⟩) ns.length ns.length, .int .i64 st.cost, .slice (some ⟨gd, 0, none⟩) ns.length ns.length, .slice none 0 0, .bool st.good]
 us : Row w gu 4 (st.used.map .bool)
 bs : Row w gb 48 (st.boxes.flatMap pBoxCells)
 ds : Row w gd 2 (st.depth.map (.int .i64))
 syms : (pSymbols e).rep o w xs [vl] Fl
 nods : (pNodes et).rep ot w ns [vn] Fn
 dis : gp ≠ gu ∧ gp ≠ gb ∧ gp ≠ gd ∧ gu ≠ gb ∧ gu ≠ gd ∧ gb ≠ gd
 dl : ∀ b ∈ Fl, b ≠ gp ∧ b ≠ gu ∧ b ≠ gb ∧ b ≠ gd
 dn : ∀ b ∈ Fn, b ≠ gp ∧ b ≠ gu ∧ b ≠ gb ∧ b ≠ gd
 ul : st.used.length = xs.length
 bl : st.boxes.length = ns.length
 dpl : st.depth.length = ns.length
section
variable {e et : TypeId} {o ot : Bool} {xs : List PSymbol} {ns : List PNode} {vl vn : Value} {Fl Fn G : List Nat} {gp gu gb gd : Nat} {st : RdSt} {w w' : World}
theorem Rd.only (h : Rd e et o ot xs ns vl vn Fl Fn gp gu gb gd st w) (ho : Only G w w') (h1 : gp ∉ G) (h2 : gu ∉ G) (h3 : gb ∉ G) (h4 : gd ∉ G) (h5 : ∀ b ∈ Fl, b ∉ G) (h6 : ∀ b ∈ Fn, b ∉ G) : Rd e et o ot xs ns vl vn Fl Fn gp gu gb gd st w' :=
 ⟨h.row.onlyC ho h1, h.us.onlyC ho h2, h.bs.onlyC ho h3, h.ds.onlyC ho h4, h.syms.only ho h5, h.nods.only ho h6, h.dis, h.dl, h.dn, h.ul, h.bl, h.dpl⟩
theorem Rd.below (h : Rd e et o ot xs ns vl vn Fl Fn gp gu gb gd st w) (hb : Below w.heap.size w w') : Rd e et o ot xs ns vl vn Fl Fn gp gu gb gd st w' :=
 h.only (G := []) (Only.of_below hb) (by simp) (by simp) (by simp) (by simp) (fun _ _ => by simp) (fun _ _ => by simp)
theorem Rd.alloc (h : Rd e et o ot xs ns vl vn Fl Fn gp gu gb gd st w) (x : Obj) : Rd e et o ot xs ns vl vn Fl Fn gp gu gb gd st (w.alloc x) := h.below ((Below.refl _ _).alloc (Nat.le_refl _) _)
theorem Rd.drew (h : Rd e et o ot xs ns vl vn Fl Fn gp gu gb gd st w) : Rd e et o ot xs ns vl vn Fl Fn gp gu gb gd st w.drew := h.below (Below.refl _ _).drew
theorem Rd.far (h : Rd e et o ot xs ns vl vn Fl Fn gp gu gb gd st w) {t : Nat} (i : Nat) (u : Value) (h1 : gp ≠ t) (h2 : gu ≠ t) (h3 : gb ≠ t) (h4 : gd ≠ t) (h5 : t ∉ Fl) (h6 : t ∉ Fn) : Rd e et o ot xs ns vl vn Fl Fn gp gu gb gd st (w.setCell ⟨t, i, none⟩ u) :=
 ⟨h.row.far h1 _, h.us.far h2 _, h.bs.far h3 _, h.ds.far h4 _, h.syms.setCell h5 _, h.nods.setCell h6 _, h.dis, h.dl, h.dn, h.ul, h.bl, h.dpl⟩
theorem Rd.setGood (h : Rd e et o ot xs ns vl vn Fl Fn gp gu gb gd st w) (b : Bool) : Rd e et o ot xs ns vl vn Fl Fn gp gu gb gd { st with good := b } (w.setCell ⟨gp, 7, none⟩ (.bool b)) := by
 obtain ⟨d1, d2, d3, d4, d5, d6⟩ := h.dis
 exact ⟨h.row.set 7 _, h.us.far (Ne.symm d1) _, h.bs.far (Ne.symm d2) _, h.ds.far (Ne.symm d3) _, h.syms.setCell (fun hb => (h.dl _ hb).1 rfl) _, h.nods.setCell (fun hb => (h.dn _ hb).1 rfl) _, h.dis, h.dl, h.dn, h.ul, h.bl, h.dpl⟩
theorem Rd.setCost (h : Rd e et o ot xs ns vl vn Fl Fn gp gu gb gd st w) (c : Int) : Rd e et o ot xs ns vl vn Fl Fn gp gu gb gd { st with cost := c } (w.setCell ⟨gp, 4, none⟩ (.int .i64 c)) := by
 obtain ⟨d1, d2, d3, d4, d5, d6⟩ := h.dis
 exact ⟨h.row.set 4 _, h.us.far (Ne.symm d1) _, h.bs.far (Ne.symm d2) _, h.ds.far (Ne.symm d3) _, h.syms.setCell (fun hb => (h.dl _ hb).1 rfl) _, h.nods.setCell (fun hb => (h.dn _ hb).1 rfl) _, h.dis, h.dl, h.dn, h.ul, h.bl, h.dpl⟩
theorem Rd.setUse (h : Rd e et o ot xs ns vl vn Fl Fn gp gu gb gd st w) (k : Nat) (b : Bool) : Rd e et o ot xs ns vl vn Fl Fn gp gu gb gd { st with used := st.used.set k b } (w.setCell ⟨gu, k, none⟩ (.bool b)) := by
 obtain ⟨d1, d2, d3, d4, d5, d6⟩ := h.dis
 exact ⟨h.row.far d1 _, by have := h.us.set k (.bool b); rwa [← List.map_set] at this, h.bs.far (Ne.symm d4) _, h.ds.far (Ne.symm d5) _, h.syms.setCell (fun hb => (h.dl _ hb).2.1 rfl) _, h.nods.setCell (fun hb => (h.dn _ hb).2.1 rfl) _, h.dis, h.dl, h.dn, by simpa using h.ul, h.bl, h.dpl⟩
theorem Rd.setDep (h : Rd e et o ot xs ns vl vn Fl Fn gp gu gb gd st w) (k : Nat) (d : Int) : Rd e et o ot xs ns vl vn Fl Fn gp gu gb gd { st with depth := st.depth.set k d } (w.setCell ⟨gd, k, none⟩ (.int .i64 d)) := by
 obtain ⟨d1, d2, d3, d4, d5, d6⟩ := h.dis
 exact ⟨h.row.far d3 _, h.us.far d5 _, h.bs.far d6 _, by have := h.ds.set k (.int .i64 d); rwa [← List.map_set] at this, h.syms.setCell (fun hb => (h.dl _ hb).2.2.2 rfl) _, h.nods.setCell (fun hb => (h.dn _ hb).2.2.2 rfl) _, h.dis, h.dl, h.dn, h.ul, h.bl, by simpa using h.dpl⟩
theorem Rd.setBox (h : Rd e et o ot xs ns vl vn Fl Fn gp gu gb gd st w) (k : Nat) (hk : k < ns.length) (b : PBox) : Rd e et o ot xs ns vl vn Fl Fn gp gu gb gd { st with boxes := st.boxes.set k b } ((((w.setCell ⟨gb, k * 4, none⟩ (.int .i64 b.x1)).setCell ⟨gb, k * 4 + 1, none⟩ (.int .i64 b.y1)).setCell ⟨gb, k * 4 + 2, none⟩ (.int .i64 b.x2)).setCell ⟨gb, k * 4 + 3, none⟩ (.int .i64 b.y2)) := by
 obtain ⟨d1, d2, d3, d4, d5, d6⟩ := h.dis
 have hl : gb ∉ Fl := fun hb => (h.dl _ hb).2.2.1 rfl
 have hn : gb ∉ Fn := fun hb => (h.dn _ hb).2.2.1 rfl
 refine ⟨(((h.row.far (p := ⟨gb, _, none⟩) d2 _).far (p := ⟨gb, _, none⟩) d2 _).far (p := ⟨gb, _, none⟩) d2 _).far (p := ⟨gb, _, none⟩) d2 _, (((h.us.far (p := ⟨gb, _, none⟩) d4 _).far (p := ⟨gb, _, none⟩) d4 _).far (p := ⟨gb, _, none⟩) d4 _).far (p := ⟨gb, _, none⟩) d4 _, ?_, (((h.ds.far (p := ⟨gb, _, none⟩) (Ne.symm d6) _).far (p := ⟨gb, _, none⟩) (Ne.symm d6) _).far (p := ⟨gb, _, none⟩) (Ne.symm d6) _).far (p := ⟨gb, _, none⟩) (Ne.symm d6) _, (((h.syms.setCell (p := ⟨gb, _, none⟩) hl _).setCell (p := ⟨gb, _, none⟩) hl _).setCell (p := ⟨gb, _, none⟩) hl _).setCell (p := ⟨gb, _, none⟩) hl _, (((h.nods.setCell (p := ⟨gb, _, none⟩) hn _).setCell (p := ⟨gb, _, none⟩) hn _).setCell (p := ⟨gb, _, none⟩) hn _).setCell (p := ⟨gb, _, none⟩) hn _, h.dis, h.dl, h.dn, h.ul, by simpa using h.bl, h.dpl⟩
 have := (((h.bs.set (k * 4) (.int .i64 b.x1)).set (k * 4 + 1) (.int .i64 b.y1)).set (k * 4 + 2) (.int .i64 b.x2)).set (k * 4 + 3) (.int .i64 b.y2)
 rwa [boxCells_set _ _ _ (by rw [h.bl]; exact hk)] at this
theorem Rd.useCell (h : Rd e et o ot xs ns vl vn Fl Fn gp gu gb gd st w) {k : Nat} (hk : k < st.used.length) : w.cell? ⟨gu, k, none⟩ = some (.bool st.used[k]) := h.us.cell' (by simp [hk])
theorem Rd.depCell (h : Rd e et o ot xs ns vl vn Fl Fn gp gu gb gd st w) {k : Nat} (hk : k < st.depth.length) : w.cell? ⟨gd, k, none⟩ = some (.int .i64 st.depth[k]) := h.ds.cell' (by simp [hk])
theorem Rd.boxCell (h : Rd e et o ot xs ns vl vn Fl Fn gp gu gb gd st w) {k : Nat} (hk : k < st.boxes.length) : w.cell? ⟨gb, k * 4, none⟩ = some (.int .i64 (st.boxes[k]).x1) ∧ w.cell? ⟨gb, k * 4 + 1, none⟩ = some (.int .i64 (st.boxes[k]).y1) ∧ w.cell? ⟨gb, k * 4 + 2, none⟩ = some (.int .i64 (st.boxes[k]).x2) ∧ w.cell? ⟨gb, k * 4 + 3, none⟩ = some (.int .i64 (st.boxes[k]).y2) :=
 ⟨h.bs.cell' ((boxCells_get _ k 0 hk (by omega)).trans rfl), h.bs.cell' ((boxCells_get _ k 1 hk (by omega)).trans rfl), h.bs.cell' ((boxCells_get _ k 2 hk (by omega)).trans rfl), h.bs.cell' ((boxCells_get _ k 3 hk (by omega)).trans rfl)⟩
theorem Rd.shape (h : Rd e et o ot xs ns vl vn Fl Fn gp gu gb gd st w) : ∃ A c B d, vl = .slice A xs.length c ∧ vn = .slice B ns.length d := by
 obtain ⟨A, c, rfl⟩ := slice_len h.syms
 obtain ⟨B, d, rfl⟩ := slice_len h.nods
 exact ⟨_, _, _, _, rfl, rfl⟩
end
def takeF (st : RdSt) (k : Int) : RdSt := match useK st.used k with
 | some us => { st with used := us }
 | none => { st with good := false }
set_option maxRecDepth 100000 in
set_option maxHeartbeats 1000000 in
theorem spec_take_c {e et : TypeId} {o ot : Bool} {xs : List PSymbol} {ns : List PNode} {vl vn : Value} {Fl Fn : List Nat} {gp gu gb gd : Nat} {st : RdSt} (k : Int) (w : World) (h : Rd e et o ot xs ns vl vn Fl Fn gp gu gb gd st w) (hx : xs.length ≤ 8) :
 Calls Try.prog 88 #[.pointer (some ⟨gp, 0, none⟩), .int .i64 k] w fun en w' => (∃ v, en = .returned v) ∧ Only [gp, gu] w w' ∧ Rd e et o ot xs ns vl vn Fl Fn gp gu gb gd (takeF st k) w' := by
 obtain ⟨A, c, B, d, rfl, rfl⟩ := h.shape
 have p0 := h.row.c0
 have p2 := h.row.c2
 have p7 := h.row.cell' (i := 7) rfl
 have hf := h.row.frozen
 have C := spec_inR_c k 0 ((xs.length : Int) - 1)
 have e1 := IntWalk.i64_in ((xs.length : Int) - 1) (by omega)
 have hul := h.ul
 by_cases hin : 0 ≤ k ∧ k < (xs.length : Int)
 · obtain ⟨n, rfl⟩ : ∃ n : Nat, k = (n : Int) := ⟨k.toNat, by omega⟩
   have hn : n < st.used.length := by omega
   have hb : inR (n : Int) 0 ((xs.length : Int) - 1) = true := by simp [inR]; omega
   rw [hb] at C
   have HC := Lib.hid C
   have hcell := h.useCell hn
   have hfu := h.us.frozen
   have n0 : (0 : Int) ≤ (n : Int) := by omega
   have n1 : (n : Int) < (xs.length : Int) := by omega
   have hu : takeF st (n : Int) = if st.used[n] = false then { st with used := st.used.set n true } else { st with good := false } := by
    unfold takeF useK
    simp only [Int.toNat_natCast]
    rw [List.getD_eq_getElem?_getD, List.getElem?_eq_getElem hn]
    by_cases hf : st.used[n] = false
    · rw [if_pos hf, if_pos ⟨by omega, by omega, by simpa using hf⟩]
    · rw [if_neg hf, if_neg (fun h => hf (by simpa using h.2.2))]
   rw [hu]
   have H := Lib.hid h
   clear hb C hin hu hul
   cases hv : st.used[n]
   · rw [hv] at hcell
     clear hv
     go_enter Try.func88, Try.ntmps88
     go_wp2_with fail
     refine (HC.out _).mono ?_
     rintro en w1 ⟨rfl, rfl⟩
     go_wp2_with fail
     refine bodyPost_end (v := .tuple #[]) (by simp [results, Try.results88, go_sem]) rfl ?_
     exact ⟨⟨_, rfl⟩, (Only.refl _ _).set (by simp) _, H.out.setUse n true⟩
   · rw [hv] at hcell
     clear hv
     go_enter Try.func88, Try.ntmps88
     go_wp2_with fail
     refine (HC.out _).mono ?_
     rintro en w1 ⟨rfl, rfl⟩
     go_wp2_with fail
     refine bodyPost_ret (v := .tuple #[]) (by simp [results, Try.results88, go_sem]) rfl ?_
     exact ⟨⟨_, rfl⟩, (Only.refl _ _).set (by simp) _, H.out.setGood false⟩
 · have hb : inR k 0 ((xs.length : Int) - 1) = false := by
    cases hb : inR k 0 ((xs.length : Int) - 1) with
    | false => rfl
    | true => simp [inR] at hb; omega
   rw [hb] at C
   have HC := Lib.hid C
   have hu : takeF st k = { st with good := false } := by
    unfold takeF useK
    rw [if_neg (fun hh => hin ⟨hh.1, by omega⟩)]
   rw [hu]
   have H := Lib.hid h
   clear hu hin hb C h hul
   go_enter Try.func88, Try.ntmps88
   go_wp2_with fail
   refine (HC.out _).mono ?_
   rintro en w1 ⟨rfl, rfl⟩
   go_wp2_with fail
   refine bodyPost_ret (v := .tuple #[]) (by simp [results, Try.results88, go_sem]) rfl ?_
   exact ⟨⟨_, rfl⟩, (Only.refl _ _).set (by simp) _, H.out.setGood false⟩
end Go.Proofs.Ytmopioaojdlnkaa
