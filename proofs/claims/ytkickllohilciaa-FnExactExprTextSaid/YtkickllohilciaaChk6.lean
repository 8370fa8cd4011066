/- The program's check of a tree. Conditions: none. -/
import Derived.Test.YtkickllohilciaaChk5
import Derived.Test.YtkickllohilciaaTyTree
namespace Go.Proofs.Ytkickllohilciaa
open Go Go.RowKit

/-- What check leaves. -/
def CheckPost (e : TypeId) (o : Bool) (xs : List PSymbol) (vl : Value) (Fl : List Nat) (ns : List PNode) (w : World) (en : Ending) (w' : World) : Prop :=
  Below w.heap.size w w' ∧ ∃ p, en = .returned (.tuple #[p, .bool (checkB xs ns)]) ∧ (checkB xs ns = true → ∃ gp st vu vo vb Fu Fo Fb, p = .pointer (some ⟨gp, 0, none⟩) ∧ runF xs ns ns.length = some st ∧ Chk e o xs vl Fl gp st vu vo vb Fu Fo Fb w' ∧ ∀ b ∈ gp :: (Fu ++ (Fo ++ Fb)), w.heap.size ≤ b)
theorem symsOk_few {xs : List PSymbol} (h : symsOkB xs = true) : xs.length ≤ 8 := by
  simp only [symsOkB, Bool.and_eq_true, decide_eq_true_eq] at h
  exact h.2
theorem symsOk_box {xs : List PSymbol} (h : symsOkB xs = true) : ∀ s ∈ xs, boxIn (boxOf s) := by
  intro s hs
  simp only [symsOkB, Bool.and_eq_true, List.all_eq_true] at h
  have := h.1 s hs
  simp only [symOkB, Bool.and_eq_true] at this
  exact boxIn_ok this.2
theorem nodeAt_get {ns : List PNode} {k : Nat} (h : k < ns.length) : nodeAt ns k = ns[k] := by simp [nodeAt, List.getD_eq_getElem?_getD, List.getElem?_eq_getElem h]
theorem checkB_none {xs : List PSymbol} {ns : List PNode} {k : Nat} (hk : k ≤ ns.length) (h : runF xs ns k = none) : checkB xs ns = false := by
  unfold checkB
  rw [runF_none h _ hk]
  simp
set_option maxRecDepth 100000 in
set_option maxHeartbeats 2000000 in
theorem impl_check_c {e et : TypeId} {o ot : Bool} {xs : List PSymbol} {ns : List PNode} {vl vt : Value} {Fl Ft : List Nat} (w : World) (h : (pSymbols e).rep o w xs [vl] Fl) (ht : (pNodes et).rep ot w ns [vt] Ft) (hok : symsOkB xs = true) :
    Calls Try.prog 42 #[vl, .agg #[vt]] w (CheckPost e o xs vl Fl ns w) := by
  have hfew := symsOk_few hok
  have HOK := Lib.hid hok
  obtain ⟨A, c, rfl⟩ := slice_len h
  obtain ⟨B, d, rfl, hd1, hd2, hr⟩ := pNodes_open ht
  have H := Lib.hid h
  clear h ht hok
  have hmk := make_run (P := Try.prog) (t := 61) (e := 4) (z := .bool false) (size := 1) (bytes := 1) Try.underlying61 (by kernel_rfl) xs.length (xs.length : Int) rfl (by omega) (by unfold maxLen; omega)
  simp only [show (Value.bool false).cells = #[.bool false] from rfl] at hmk
  by_cases hln : 15 < ns.length
  · have g : (15 : Int) < (ns.length : Int) := by omega
    have hf : Hid (checkB xs ns = false) := by
      show _ = _
      unfold checkB
      simp; omega
    clear hr hln
    go_enter Try.func42, Try.ntmps42
    go_wp2_with fail
    refine bodyPost_ret (v := .tuple #[.pointer none, .bool false]) (by simp [results, Try.results42, go_sem]) rfl ⟨?_, .pointer none, by rw [hf.out], fun h => by rw [hf.out] at h; cases h⟩
    exact ((((Below.refl _ _).alloc (Nat.le_refl _) _).alloc (by simp) _).alloc (by simp; omega) _)
  · have g : ¬ ((15 : Int) < (ns.length : Int)) := by omega
    have HC0 : Hid (Chk e o xs (.slice A xs.length c) Fl (w.heap.size + 2) ⟨List.replicate xs.length false, [], [], 0⟩ (.slice (some ⟨w.heap.size + 1, 0, none⟩) xs.length xs.length) (.slice none 0 0) (.slice none 0 0) [w.heap.size + 1] [] [] (((w.alloc (.cells #[.slice B ns.length d] 33)).alloc (.cells (madeCells #[.bool false] (xs.length * 1)) 4)).alloc (.cells #[.slice A xs.length c, .slice (some ⟨w.heap.size + 1, 0, none⟩) xs.length xs.length, .slice none 0 0, .slice none 0 0, .int .i64 0] 82))) := by
      have R2 := Row.new (w.alloc (.cells #[.slice B ns.length d] 33)) 4 (madeCells #[.bool false] (xs.length * 1))
      rw [Nat.mul_one, toList_madeCells_one] at R2
      have R3 := Row.new ((w.alloc (.cells #[.slice B ns.length d] 33)).alloc (.cells (madeCells #[.bool false] (xs.length * 1)) 4)) 82 #[.slice A xs.length c, .slice (some ⟨w.heap.size + 1, 0, none⟩) xs.length xs.length, .slice none 0 0, .slice none 0 0, .int .i64 0]
      have z1 : (w.alloc (.cells #[.slice B ns.length d] 33)).heap.size = w.heap.size + 1 := by simp
      have z2 : ((w.alloc (.cells #[.slice B ns.length d] 33)).alloc (.cells (madeCells #[.bool false] (xs.length * 1)) 4)).heap.size = w.heap.size + 2 := by simp
      rw [z1] at R2
      rw [z2] at R3
      have hlt := fun b hb => (pSymbols e).lt H.out b hb
      refine ⟨R3, ((H.out.alloc _).alloc _).alloc _, ?_, slice_nil _ _ _ _, slice_nil _ _ _ _, by simp, fun b hb => by have := hlt b hb; simp; omega⟩
      have S := slice_of_row (T := boolT) (xs := List.replicate xs.length false) R2 (by have := repL_bools (o := true) (w := (w.alloc (.cells #[.slice B ns.length d] 33)).alloc (.cells (madeCells #[.bool false] (xs.length)) 4)) (List.replicate xs.length false); simpa using this) (by simp [maxLen]; omega)
      simp only [List.length_replicate] at S
      have S' := S.alloc (.cells #[.slice A xs.length c, .slice (some ⟨w.heap.size + 1, 0, none⟩) xs.length xs.length, .slice none 0 0, .slice none 0 0, .int .i64 0] 82)
      rw [Nat.mul_one]
      exact S'
    have HK0 : Hid (ChkOk xs ⟨List.replicate xs.length false, [], [], 0⟩) := ⟨by simp, hfew, by simp, by simp, by simp, by simp, symsOk_box HOK.out, by simp⟩
    go_enter Try.func42, Try.ntmps42
    go_wp2_with fail
    go_loopw [22] (fun i wr => ∃ (k : Nat) (st : ChSt) (vo vb : Value) (Fo Fb : List Nat), k ≤ ns.length ∧ i = .int .i64 k ∧ runF xs ns k = some st ∧ ChkOk xs st ∧ st.boxes.length = k ∧ st.opn.length ≤ st.boxes.length ∧ Chk e o xs (.slice A xs.length c) Fl (w.heap.size + 2) st (.slice (some ⟨w.heap.size + 1, 0, none⟩) xs.length xs.length) vo vb [w.heap.size + 1] Fo Fb wr ∧ (∀ b ∈ Fo ++ Fb, w.heap.size ≤ b) ∧ Below w.heap.size w wr) (fun i _ => ns.length - (intOf i).toNat)
    case atStart =>
      have HC := HC0.out
      rw [Nat.mul_one] at HC
      refine ⟨0, _, _, _, [], [], Nat.zero_le _, rfl, rfl, HK0.out, rfl, Nat.le_refl _, by first | exact HC | simpa using HC, by simp, ?_⟩
      exact ((((Below.refl _ _).alloc (Nat.le_refl _) _).alloc (by simp) _).alloc (by simp; omega) _)
    case round =>
      obtain ⟨k, st, vo, vb, Fo, Fb, hk, rfl, hrun, hck, hbl, hol, hch, hfr, hb⟩ := hrel
      have hbs := hb.size
      by_cases hlt : k < ns.length
      · obtain ⟨b, off, rfl, hbb, _, q0, q1, q2, q3, _⟩ := hr k hlt
        rw [← hb.cell (p := ⟨b, _, none⟩) hbb] at q0 q1 q2 q3
        have i1 : (k : Int) < (ns.length : Int) := by omega
        have i2 : IntKind.i64.wrap ((k : Int) + 1) = (k : Int) + 1 := IntWalk.i64_in _ (by omega)
        have i3 : (0 : Int) ≤ (k : Int) := by omega
        have CN := Lib.hid (fun w' q => impl_node_c (e := e) (o := o) (xs := xs) (vl := .slice A xs.length c) (vu := .slice (some ⟨w.heap.size + 1, 0, none⟩) xs.length xs.length) (vo := vo) (vb := vb) (Fl := Fl) (Fu := [w.heap.size + 1]) (Fo := Fo) (Fb := Fb) (gp := w.heap.size + 2) (st := st) ns[k] w' q hck)
        have hstep : runF xs ns (k + 1) = stepF xs st ns[k] := by rw [runF, hrun, nodeAt_get hlt]; rfl
        have HST := Lib.hid hstep
        have HCH := Lib.hid hch
        have HOK2 := Lib.hid (fun st' (h : stepF xs st ns[k] = some st') => stepF_ok hck (by omega) hol h)
        have HF := Lib.hid hfr
        have HBL := Lib.hid hbl
        clear hstep hch hck hol hfr hrun hr hbl
        go_wp2_with fail
        refine (CN.out _ (HCH.out.alloc _)).mono ?_
        rintro en w1 ⟨rfl, o1, hpost⟩
        have hb1 : Below w.heap.size w w1 := (hb.alloc hbs _).trans (o1.below (by simp; omega) (fun b hb => by
          simp only [List.mem_cons, List.mem_append, List.not_mem_nil, or_false] at hb
          rcases hb with rfl | rfl | hb | hb
          · omega
          · omega
          · exact HF.out b (by simp [hb])
          · exact HF.out b (by simp [hb])))
        cases hs : stepF xs st ns[k] with
        | none =>
          have hf : Hid (checkB xs ns = false) := checkB_none (k := k + 1) (by omega) (HST.out.trans hs)
          clear hpost hs
          go_wp2_with fail
          refine bodyPost_ret (v := .tuple #[.pointer none, .bool false]) (by simp [results, Try.results42, go_sem]) rfl ⟨hb1, .pointer none, by rw [hf.out], fun h => by rw [hf.out] at h; cases h⟩
        | some st' =>
          obtain ⟨vo', vb', Fo', Fb', hch', hmem⟩ := hpost st' hs
          obtain ⟨hck', hbl', hol'⟩ := HOK2.out st' hs
          have hrun' : runF xs ns (k + 1) = some st' := HST.out.trans hs
          have G1 := Lib.hid hch'
          have G2 := Lib.hid hck'
          have G3 := Lib.hid hrun'
          have G4 := Lib.hid hol'
          have G5 := Lib.hid hmem
          have G6 : Hid (st'.boxes.length = k + 1) := by rw [← HBL.out]; exact hbl'
          clear hch' hck' hrun' hol' hmem hpost hs hbl'
          go_wp2_with fail
          go_roundw
          case rel =>
            refine ⟨k + 1, st', vo', vb', Fo', Fb', by omega, by go_num, G3.out, G2.out, G6.out, G4.out, G1.out, fun b hbm => ?_, hb1⟩
            rcases G5.out b hbm with h | h
            · exact HF.out b h
            · simp only [World.size_alloc] at h; omega
          case measure => simp [intOf]; omega
      · obtain rfl : k = ns.length := by omega
        have i1 : ¬ ((ns.length : Int) < (ns.length : Int)) := by omega
        obtain ⟨_, _, _, _, Ao, co, Ab, cb, -, -, rfl, rfl⟩ := hch.shape
        have p1 := hch.row.cell' (i := 1) rfl
        have p2 := hch.row.cell' (i := 2) rfl
        have hul := hck.used
        have CC := Lib.hid (Contains_bool wr hch.us (by omega))
        have HCH := Lib.hid hch
        have HRUN := Lib.hid hrun
        have HF := Lib.hid hfr
        have HUL := Lib.hid hul
        by_cases h1 : st.opn.length = 1
        · have g1 : ((st.opn.length : Int) == 1) = true := by simp [h1]
          have hcb : checkB xs ns = st.used.all id := by
            unfold checkB
            rw [hrun]
            simp [h1]; omega
          have HCB := Lib.hid hcb
          clear hcb hch hck hol hfr hrun hr hbl h1 hul
          go_wp2_with fail
          refine CC.out.mono ?_
          rintro en w1 ⟨rfl, rfl⟩
          go_wp2_with fail
          refine bodyPost_ret (v := .tuple #[.pointer (some ⟨w.heap.size + 2, 0, none⟩), .bool (st.used.all id)]) (by simp [results, Try.results42, go_sem]) rfl ⟨hb, _, by rw [HCB.out], fun _ => ⟨_, st, _, _, _, _, Fo, Fb, rfl, HRUN.out, HCH.out, fun b hb => ?_⟩⟩
          simp only [List.mem_cons, List.mem_append, List.not_mem_nil, or_false] at hb
          rcases hb with rfl | rfl | hb | hb
          · omega
          · omega
          · exact HF.out b (by simp [hb])
          · exact HF.out b (by simp [hb])
        · have g1 : ((st.opn.length : Int) == 1) = false := by simp; omega
          have hcb : checkB xs ns = false := by
            unfold checkB
            rw [hrun]
            simp [h1]
          have HCB := Lib.hid hcb
          clear hcb hch hck hol hfr hrun hr hbl h1 hul
          go_wp2_with fail
          refine bodyPost_ret (v := .tuple #[.pointer (some ⟨w.heap.size + 2, 0, none⟩), .bool false]) (by simp [results, Try.results42, go_sem]) rfl ⟨hb, _, by rw [HCB.out], fun h => by rw [HCB.out] at h; cases h⟩
end Go.Proofs.Ytkickllohilciaa
