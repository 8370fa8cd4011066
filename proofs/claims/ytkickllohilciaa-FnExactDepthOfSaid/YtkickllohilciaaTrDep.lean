/- Trees: DepthOf of the program and of the reference. Conditions: none. -/
import Derived.Test.YtkickllohilciaaRd7
import Derived.Test.YtkickllohilciaaTreeP
namespace Go.Proofs.Ytkickllohilciaa
open Go Go.RowKit

set_option maxRecDepth 100000 in
set_option maxHeartbeats 1000000 in
theorem spec_DepthOf_c {e et : TypeId} {o ot : Bool} {xs : List PSymbol} {ns : List PNode} {vl vt : Value} {Fl Ft : List Nat} (w : World) (h : (pSymbols e).rep o w xs [vl] Fl) (ht : (pNodes et).rep ot w ns [vt] Ft) (hx : xs.length ≤ 1048576) (hsz : ∀ c ∈ xs, c.label.size ≤ 1048576) :
    Calls Try.prog 19 #[vl, .agg #[vt]] w fun en w' => en = .returned (.tuple #[.int .i64 (depthR xs ns), .int .i64 (askF xs ns)]) ∧ Below w.heap.size w w' := by
  have R := Row.new w 33 #[vt]
  have bA : Below w.heap.size w (w.alloc (.cells #[vt] 33)) := (Below.refl _ _).alloc (Nat.le_refl _) _
  have CR := Lib.hid (spec_l21Ask_c (w.alloc (.cells #[vt] 33)) (h.alloc _) (ht.alloc _) R hx hsz)
  have BA := Lib.hid bA
  clear h ht R bA
  go_enter Try.func19, Try.ntmps19
  go_wp2_with fail
  refine CR.out.mono ?_
  rintro en w1 ⟨b1, p, rfl, hp⟩
  have b0 := Lib.hid (BA.out.trans (b1.mono (by simp)))
  clear b1
  by_cases h0 : askF xs ns = 0
  · obtain ⟨gp, gu, gb, gd, st, rfl, -, hch, -, h2, -⟩ := hp h0
    have HC : Hid (depthR xs ns = depthAt ns (ns.length - 1)) := by show _ = _; rw [depthR, if_pos h0]
    have HA := Lib.hid h0
    have htr := (ask_zero h0).2
    have hn1 := tree_some htr
    have hn2 := tree_few htr
    rw [h0]
    have c5 := hch.row.cell' (i := 5) rfl
    have hd : w1.cell? ⟨gd, ns.length - 1, none⟩ = some (.int .i64 (depthAt ns (ns.length - 1))) := by
      refine hch.ds.cell' ?_
      rw [h2, List.getElem?_map, depthsF_get ns (m := ns.length) (by omega)]; rfl
    have e1 : IntKind.i64.wrap ((ns.length : Int) - 1) = (ns.length : Int) - 1 := IntWalk.i64_in _ (by omega)
    have e2 : ((ns.length : Int) - 1).toNat = ns.length - 1 := by omega
    have e3 : (0 : Int) ≤ (ns.length : Int) - 1 := by omega
    have e4 : (ns.length : Int) - 1 < (ns.length : Int) := by omega
    clear hp h0 hch h2 htr
    go_wp2_with fail
    go_quiet (fail)
    go_wp2_with fail
    refine bodyPost_ret (v := .tuple #[.int .i64 (depthAt ns (ns.length - 1)), .int .i64 0]) (by simp [results, Try.results19, go_sem]) rfl ⟨by rw [HC.out, HA.out], below_drewN b0.out _⟩
  · have HC : Hid (depthR xs ns = 0) := by show _ = _; rw [depthR, if_neg h0]
    have g : (askF xs ns != 0) = true := by simp [h0]
    clear hp h0
    go_wp2_with fail
    refine bodyPost_ret (v := .tuple #[.int .i64 0, .int .i64 (askF xs ns)]) (by simp [results, Try.results19, go_sem]) rfl ⟨by rw [HC.out], b0.out⟩
set_option maxRecDepth 100000 in
set_option maxHeartbeats 4000000 in
theorem impl_DepthOf_c {e et : TypeId} {o ot : Bool} {xs : List PSymbol} {ns : List PNode} {vl vt : Value} {Fl Ft : List Nat} (w : World) (h : (pSymbols e).rep o w xs [vl] Fl) (ht : (pNodes et).rep ot w ns [vt] Ft) (hx : xs.length ≤ 1048576) (hsz : ∀ c ∈ xs, c.label.size ≤ 1048576) :
    Calls Try.prog 20 #[vl, .agg #[vt]] w fun en w' => en = .returned (.tuple #[.int .i64 (depthR xs ns), .int .i64 (askF xs ns)]) ∧ Below w.heap.size w w' := by
  have CK := Lib.hid (fun w' q q' => impl_checked_c (e := e) (et := et) (o := o) (ot := ot) (xs := xs) (ns := ns) (vl := vl) (vt := vt) (Fl := Fl) (Ft := Ft) w' q q' hx hsz)
  have H := Lib.hid h
  have HT := Lib.hid ht
  obtain ⟨A, c, rfl⟩ := slice_len h
  obtain ⟨B, d, rfl, hd1, hd2, hr⟩ := pNodes_open ht
  clear h ht
  have R := Row.new w 33 #[.slice B ns.length d]
  have t0 := R.cell' (i := 0) rfl
  go_enter Try.func20, Try.ntmps20
  go_wp2_with fail
  refine (CK.out _ (H.out.alloc _) (HT.out.alloc _)).mono ?_
  rintro en w1 ⟨b1, p, rfl, hp⟩
  have b0 : Below w.heap.size w w1 := ((Below.refl _ _).alloc (Nat.le_refl _) _).trans (b1.mono (by simp))
  clear hp
  by_cases h0 : askF xs ns = 0
  · have HC : Hid (depthR xs ns = depthAt ns (ns.length - 1)) := by show _ = _; rw [depthR, if_pos h0]
    have HA := Lib.hid h0
    have htr := (ask_zero h0).2
    have hn1 := tree_some htr
    have hn2 := tree_few htr
    have HTR := Lib.hid htr
    rw [h0]
    clear t0
    replace R := R.later b1
    have t0 := R.cell' (i := 0) rfl
    have lR := R.lt
    have hmk := make_run (P := Try.prog) (t := 42) (e := 2) (z := .int .i64 0) (size := 1) (bytes := 8) Try.underlying42 (by kernel_rfl) ns.length (ns.length : Int) rfl (by omega) (by unfold maxLen; omega)
    simp only [show (Value.int .i64 0).cells = #[.int .i64 0] from rfl] at hmk
    clear h0 htr
    go_wp2_with fail
    go_loopw [27] (fun i wr => ∃ (k : Nat) (ds : List Int), k ≤ ns.length ∧ i = .int .i64 k ∧ ds.length = ns.length ∧ Hid (∀ j, j < k → ds[j]? = some (depthAt ns j)) ∧ Row wr w1.heap.size 2 (ds.map (.int .i64)) ∧ Below w1.heap.size w1 wr) (fun i _ => ns.length - (intOf i).toNat)
    case atStart =>
      have R2 := Row.new w1 2 (madeCells #[.int .i64 0] (ns.length * 1))
      rw [Nat.mul_one, toList_madeCells_one] at R2
      refine ⟨0, List.replicate ns.length 0, Nat.zero_le _, rfl, by simp, Lib.hid (fun j hj => by omega), ?_, (Below.refl _ _).alloc (Nat.le_refl _) _⟩
      rw [List.map_replicate]
      exact R2
    case round =>
      obtain ⟨k, ds, hk, rfl, hdl, hds, RD, hb⟩ := hrel
      have hbs := hb.size
      have hb2 := b0.trans (hb.mono b0.size)
      by_cases hlt : k < ns.length
      · obtain ⟨b, off, rfl, hbb, _, q0, q1, q2, q3, _⟩ := hr k hlt
        rw [← hb2.cell (p := ⟨b, _, none⟩) hbb] at q0 q1 q2 q3
        have hnd : nodeAt ns k = ns[k] := nodeAt_get hlt
        have hparts := tree_parts HTR.out hlt
        have hD := depthAt_le HTR.out
        have dl := fun (h : (nodeAt ns k).kind = 0) => depth_leaf h
        have dr := fun (a : Nat) (h : (nodeAt ns k).kind = 5) (ha : (nodeAt ns k).a = (a : Int)) (hk : a < k) => depth_root h ha hk
        have db := fun (a b : Nat) (h : (nodeAt ns k).kind ≠ 0) (h' : (nodeAt ns k).kind ≠ 5) (ha : (nodeAt ns k).a = (a : Int)) (hb : (nodeAt ns k).b = (b : Int)) (hk : a < k) (hk2 : b < k) => depth_both h h' ha hb hk hk2
        rw [hnd] at hparts dl dr db
        obtain ⟨⟨kd, za, zb, zs⟩, hnk⟩ : ∃ n, ns[k] = n := ⟨_, rfl⟩
        rw [hnk] at q0 q1 q2 q3 hparts dl dr db
        dsimp only at q0 q1 q2 q3 hparts dl dr db
        have i1 : (k : Int) < (ns.length : Int) := by omega
        have i2 : IntKind.i64.wrap ((k : Int) + 1) = (k : Int) + 1 := IntWalk.i64_in _ (by omega)
        have i3 : (0 : Int) ≤ (k : Int) := by omega
        have RDa := RD.alloc (.cells #[.int .i64 kd, .int .i64 za, .int .i64 zb, .int .i64 zs] 84)
        have RN := Row.new wr 84 #[.int .i64 kd, .int .i64 za, .int .i64 zb, .int .i64 zs]
        have hba : Below w1.heap.size w1 (wr.alloc (.cells #[.int .i64 kd, .int .i64 za, .int .i64 zb, .int .i64 zs] 84)) := hb.alloc hbs _
        have hgn : w1.heap.size < wr.heap.size := RD.lt
        have step : ∀ (v : Int) (wz : World), depthAt ns k = v → Row wz w1.heap.size 2 (ds.map (.int .i64)) → Below w1.heap.size w1 wz → ∃ (k' : Nat) (ds' : List Int), k' ≤ ns.length ∧ Value.int .i64 ((k : Int) + 1) = .int .i64 k' ∧ ds'.length = ns.length ∧ Hid (∀ j, j < k' → ds'[j]? = some (depthAt ns j)) ∧ Row (wz.setCell ⟨w1.heap.size, k, none⟩ (.int .i64 v)) w1.heap.size 2 (ds'.map (.int .i64)) ∧ Below w1.heap.size w1 (wz.setCell ⟨w1.heap.size, k, none⟩ (.int .i64 v)) := by
          intro v wz hv hrow hbz
          refine ⟨k + 1, ds.set k v, by omega, by go_num, by simpa using hdl, Lib.hid (fun j hj => ?_), ?_, hbz.setCell (Nat.le_refl _) _⟩
          · by_cases ej : j = k
            · subst ej; rw [List.getElem?_set_self (by omega), hv]
            · rw [List.getElem?_set_ne (Ne.symm ej)]; exact hds.out j (by omega)
          · have := hrow.set k (.int .i64 v)
            rwa [← List.map_set] at this
        have STEP := Lib.hid step
        have dcell : ∀ (j : Nat), j < k → ∀ wz, Row wz w1.heap.size 2 (ds.map (.int .i64)) → wz.cell? ⟨w1.heap.size, j, none⟩ = some (.int .i64 (depthAt ns j)) := fun j hj wz hrow => hrow.cell' (by rw [List.getElem?_map, hds.out j hj]; rfl)
        have kcell : ∀ wz, Row wz w1.heap.size 2 (ds.map (.int .i64)) → wz.cell? ⟨w1.heap.size, k, none⟩ = some (.int .i64 ds[k]) := fun wz hrow => hrow.cell' (by rw [List.getElem?_map, List.getElem?_eq_getElem]; rfl)
        have DC := Lib.hid dcell
        have KC := Lib.hid kcell
        clear step dcell kcell hds hb hb2 hr hnd hnk RD t0 R b0 b1 HT H CK
        go_upto_region 8 with fail
        generalize wr.alloc (.cells #[.int .i64 kd, .int .i64 za, .int .i64 zb, .int .i64 zs] 84) = wa at RDa RN hba ⊢
        have n0 := RN.cell' (i := 0) rfl
        have n1 := RN.cell' (i := 1) rfl
        have n2 := RN.cell' (i := 2) rfl
        have kc := KC.out wa RDa
        have fd := RDa.frozen
        by_cases h0 : kd = 0
        · subst h0
          have HD := Lib.hid (dl rfl)
          clear dl dr db hparts hD
          go_wp2_with fail
          go_roundw
          case rel => exact STEP.out 1 wa HD.out RDa hba
          case measure => simp [intOf]; omega
        · rcases hparts with hz | ⟨hk1, ha, hb, _⟩
          · exact absurd hz h0
          obtain ⟨a, rfl⟩ : ∃ a : Nat, za = (a : Int) := ⟨za.toNat, by omega⟩
          have hak : a < k := by omega
          have ca := DC.out a hak wa RDa
          have hDa := hD a (by omega)
          have a0 : (0 : Int) ≤ (a : Int) := by omega
          have a1 : (a : Int) < (ns.length : Int) := by omega
          have g0 : (kd == 0) = false := by simp [h0]
          by_cases h5 : kd = 5
          · subst h5
            have HD := Lib.hid (dr a rfl rfl hak)
            have e1 : IntKind.i64.wrap (1 + depthAt ns a) = depthAt ns a + 1 := by rw [Int.add_comm]; exact IntWalk.i64_in _ (by omega)
            clear dl dr db hb hD h0
            go_wp2_with fail
            go_roundw
            case rel => exact STEP.out _ wa HD.out RDa hba
            case measure => simp [intOf]; omega
          · have hb := hb h5
            obtain ⟨b', rfl⟩ : ∃ b : Nat, zb = (b : Int) := ⟨zb.toNat, by omega⟩
            have hbk : b' < k := by omega
            have cb := DC.out b' hbk wa RDa
            have hDb := hD b' (by omega)
            have b0' : (0 : Int) ≤ (b' : Int) := by omega
            have b1' : (b' : Int) < (ns.length : Int) := by omega
            have g5 : (kd == 5) = false := by simp [h5]
            have HD := Lib.hid (db a b' h0 h5 rfl rfl hak hbk)
            have e1 : IntKind.i64.wrap (1 + max (depthAt ns a) (depthAt ns b')) = max (depthAt ns a) (depthAt ns b') + 1 := by rw [Int.add_comm]; exact IntWalk.i64_in _ (by omega)
            clear dl dr db hD h0 h5
            go_upto_region 9 with fail
            go_still_tail 15, (by kernel_rfl)
            go_wp2_with fail
            go_roundw
            case rel => exact STEP.out _ _ HD.out (RDa.drewN _) (below_drewN hba _)
            case measure => simp [intOf]; omega
      · obtain rfl : k = ns.length := by omega
        have i1 : ¬ ((ns.length : Int) < (ns.length : Int)) := by omega
        have hl := RD.cell' (i := ns.length - 1) (u := .int .i64 (depthAt ns (ns.length - 1))) (by rw [List.getElem?_map, hds.out (ns.length - 1) (by omega)]; rfl)
        have e1 : IntKind.i64.wrap ((ns.length : Int) - 1) = (ns.length : Int) - 1 := IntWalk.i64_in _ (by omega)
        have e2 : ((ns.length : Int) - 1).toNat = ns.length - 1 := by omega
        have e3 : (0 : Int) ≤ (ns.length : Int) - 1 := by omega
        have e4 : (ns.length : Int) - 1 < (ns.length : Int) := by omega
        clear hr hds RD hdl
        go_wp2_with fail
        refine bodyPost_ret (v := .tuple #[.int .i64 (depthAt ns (ns.length - 1)), .int .i64 0]) (by simp [results, Try.results20, go_sem]) rfl ⟨by rw [HC.out, HA.out], hb2⟩
  · have HC : Hid (depthR xs ns = 0) := by show _ = _; rw [depthR, if_neg h0]
    have g : (askF xs ns != 0) = true := by simp [h0]
    clear h0
    go_wp2_with fail
    refine bodyPost_ret (v := .tuple #[.int .i64 0, .int .i64 (askF xs ns)]) (by simp [results, Try.results20, go_sem]) rfl ⟨by rw [HC.out], b0⟩
end Go.Proofs.Ytkickllohilciaa
