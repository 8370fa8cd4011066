/- ReadPage of the reference. Conditions: none. -/
import Derived.Test.YtahoopmiipmgpaaDoorRpC
namespace Go.Proofs.YtahoopmiipmgpaaDoor
open Go Go.RowKit

theorem end_last {s : ByteArray} {ws : List ByteArray} (h : ws.map (fun b : ByteArray => b.data.toList) = splitC 10 s.data.toList) :
    ∃ m, ws.length = m + 1 ∧ (∀ x, ws[m]? = some x → endB s.data.toList = decide (x = .empty)) ∧ (endB s.data.toList = true → lns s = ws.take m) := by
  have hw := of_bytes h
  rcases nil_or_end (splitC 10 s.data.toList) with h0 | ⟨r, x, hr⟩
  · exact absurd h0 (splitC_ne _)
  · rw [hr] at hw
    have hl : ws.length = r.length + 1 := by rw [hw]; simp
    refine ⟨r.length, hl, ?_, fun he => ?_⟩
    · intro y hy
      rw [hw, List.map_append, List.getElem?_append_right (by simp)] at hy
      simp only [List.length_map, Nat.sub_self, List.map_cons, List.map_nil, List.getElem?_cons_zero, Option.some.injEq] at hy
      subst hy
      rw [endB, hr]
      simp only [List.getLast?_append, List.getLast?_singleton, Option.some_or]
      apply decide_eq_decide.2
      simp only [Option.some.injEq]
      constructor
      · rintro rfl; rfl
      · intro h1
        have := congrArg (fun b : ByteArray => b.data.toList) h1
        exact this
    · rw [lns, if_pos he, hr, hw]
      simp
set_option maxRecDepth 100000 in
set_option maxHeartbeats 4000000 in
theorem spec_ReadPage_c (s : ByteArray) (w : World) (hs : s.size ≤ 1048576) :
    Calls Tryd.prog 5 #[.string s] w (GivesPB (readP s) (readOkP s) w) := by
  have HL := Lib.hid (spec_l01SplitC_c 10 s (w.alloc (.cells #[.slice none 0 0, .slice none 0 0, .slice none 0 0] 25)) hs)
  have HLN := Lib.hid (lns_sum s)
  have HLC := Lib.hid (len_sum (lns s))
  have HSM := Lib.hid (read_small s hs)
  have R0 := Row.new w 25 #[.slice none 0 0, .slice none 0 0, .slice none 0 0]
  have b00 : Below w.heap.size w (w.alloc (.cells #[.slice none 0 0, .slice none 0 0, .slice none 0 0] 25)) := (Below.refl _ _).alloc (Nat.le_refl _) _
  have hrp : readP s = if readOkP s = true then ⟨(lns s).map lineOf, [], []⟩ else nilPage := rfl
  have hrd : readOkP s = (endB s.data.toList && linesOkB ((lns s).map lineOf)) := rfl
  generalize readP s = Q at hrp
  generalize readOkP s = B at hrp hrd
  have HRP := Lib.hid hrp
  have HRD := Lib.hid hrd
  clear hrp hrd
  go_enter Tryd.func5, Tryd.ntmps5
  go_wp2_with fail
  refine HL.out.mono ?_
  rintro e w1 ⟨ws, v1, F1, rfl, hws, r1, f1, b1⟩
  obtain ⟨m, hm, he, hlns⟩ := end_last hws
  have R1 := R0.later b1
  have q0 := R1.lt
  have b01 := b00.trans (b1.mono b00.size)
  obtain ⟨A, c, rfl, hc1, hc2, hr⟩ := strs_open r1
  clear r1 b1 b00 R0 hws
  have hmw : m < ws.length := by omega
  obtain ⟨b', off, rfl, hbb, _, hlast, _⟩ := hr m hmw
  have kl : IntKind.i64.wrap ((ws.length : Int) - 1) = (m : Int) := (IntWalk.i64_in _ (by unfold maxLen at hc2; omega)).trans (by omega)
  have g1 : (m : Int) < (ws.length : Int) := by omega
  have g2 : (0 : Int) ≤ (m : Int) := by omega
  replace he := he _ (List.getElem?_eq_getElem hmw)
  generalize ws[m]'hmw = last at hlast he
  have HM := Lib.hid hm
  have HW := Lib.hid hmw
  cases hen : endB s.data.toList
  · rw [hen] at he
    have hne : ¬ last = .empty := by simpa using he.symm
    have g3 : (last.toList == []) = false := by
      have := str_eq last .empty
      rw [show ByteArray.empty.toList = [] from by simp] at this
      rw [this]; simp [hne]
    have g4 : last.toList.isEmpty = false := by rw [← List.beq_nil_eq, g3]
    have hq : B = false := by rw [HRD.out, hen]; rfl
    have hq2 : Q = nilPage := by rw [HRP.out, hq]; rfl
    subst hq hq2
    have o0 := R1.cell' (i := 0) rfl
    have o1 := R1.cell' (i := 1) rfl
    have o2 := R1.cell' (i := 2) rfl
    have of := R1.frozen
    clear hm he hr hne hlns
    go_wp2_with fail
    have TF := ((R1.set 0 (.slice none 0 0)).set 1 (.slice none 0 0)).set 2 (.slice none 0 0)
    have e0 := TF.cell' (i := 0) rfl
    have e1 := TF.cell' (i := 1) rfl
    have e2 := TF.cell' (i := 2) rfl
    exact bodyPost_ret (v := .tuple #[.agg #[.slice none 0 0, .slice none 0 0, .slice none 0 0], .bool false]) (by simp only [results, Tryd.results5]; go_simp) rfl ⟨_, [], rfl, nilPage_is _ _ _ _, Fresh.nil _, set3 b01 (by omega) _ _ _⟩
  · rw [hen] at he
    have hne : last = .empty := by simpa using he.symm
    subst hne
    have hln := hlns hen
    have hlen : (lns s).length = m := by rw [hln, List.length_take]; omega
    have HEL := Lib.hid (show ∀ k (h : k < (lns s).length) (h' : k < ws.length), ws[k] = (lns s)[k] from fun k h h' => by simp only [hln, List.getElem_take])
    have HLEN := Lib.hid hlen
    have HB : Hid (B = linesOkB ((lns s).map lineOf)) := by show B = _; rw [HRD.out, hen]; simp
    have hwl : ws.length ≤ 2000000 := by have := HLC.out; have := HLN.out; omega
    clear hm he hlns hln hlen
    go_wp2_with fail
    have RP0 := Row.new w1 25 #[.slice none 0 0, .slice none 0 0, .slice none 0 0]
    have bb0 : Below w1.heap.size w1 (w1.alloc (.cells #[.slice none 0 0, .slice none 0 0, .slice none 0 0] 25)) := (Below.refl _ _).alloc (Nat.le_refl _) _
    go_loopw [6] (fun i wr => ∃ (k : Nat) (X : Option Addr) (x : Nat) (G : List Nat), k ≤ m ∧ i = .int .i64 k ∧ Row wr w1.heap.size 25 [.slice X k x, .slice none 0 0, .slice none 0 0] ∧ Hid ((pLines 39).rep true wr (((lns s).take k).map lineOf) [.slice X k x] G) ∧ Hid (Fresh (w1.heap.size + 1) G) ∧ Below w1.heap.size w1 wr) (fun i _ => m - (intOf i).toNat)
    case atStart => exact ⟨0, none, 0, [], Nat.zero_le _, rfl, RP0, slice_nil _ _ _ _, Fresh.nil _, bb0⟩
    case round =>
      obtain ⟨k, X, x, G, hk, rfl, RP, hrep, hfr, hb⟩ := hrel
      have hbs := hb.size
      have hlp := RP.lt
      have i2 : IntKind.i64.wrap ((k : Int) + 1) = (k : Int) + 1 := IntWalk.i64_in _ (by have := HM.out; omega)
      by_cases hlm : k < m
      · have gl : ((k : Int) + 1 < (ws.length : Int)) = True := eq_true (by have := HM.out; omega)
        have gk1 : (k : Int) < (ws.length : Int) := by omega
        have hkw : k < ws.length := by omega
        have hlt : k < (lns s).length := by rw [HLEN.out]; exact hlm
        obtain ⟨b'', off'', he', hbb'', _, h0, _⟩ := hr k hkw
        obtain ⟨rfl, rfl⟩ : b'' = b' ∧ off'' = off := by injection he' with h; injection h with h1 h2 _; exact ⟨h1.symm, h2.symm⟩
        rw [← hb.cell (p := ⟨b'', _, none⟩) hbb''] at h0
        rw [HEL.out k hlt hkw] at h0
        have HLT := Lib.hid (lines_take hlt)
        have hsz : (lns s)[k].size + 1 ≤ 1048576 := by have := mem_le_sum (List.getElem_mem hlt); have := HLN.out; omega
        have hkl : ((((lns s).take k).map lineOf).length : Nat) = k := by rw [List.length_map, List.length_take]; omega
        have HKL := Lib.hid hkl
        have HLTT := Lib.hid (show k + 1 ≤ m from hlm)
        have HN := Lib.hid (show m ≤ 1048576 by have := HLC.out; have := HLN.out; have := HLEN.out; omega)
        have hkk : k ≤ 1048576 := by have := HN.out; omega
        generalize hl : (lns s)[k] = l at h0 hsz HLT
        have hbw : b'' < wr.heap.size := by omega
        clear hr hkl hl hlt he'
        by_cases hz : l = .empty
        · subst hz
          have hlo : lineOf ByteArray.empty = [] := by rw [lineOf, if_pos rfl]
          have RL := Row.new wr 39 #[.slice none 0 0]
          have bL : Below wr.heap.size wr (wr.alloc (.cells #[.slice none 0 0] 39)) := (Below.refl _ _).alloc (Nat.le_refl _) _
          have hy : Hid ((strs 9).rep true (wr.alloc (.cells #[.slice none 0 0] 39)) (lineOf .empty) [.slice none 0 0] []) := by
            rw [hlo]; exact slice_nil _ _ _ _
          have fL : Hid (Fresh (wr.heap.size + 1) ([] : List Nat)) := Fresh.nil _
          clear hlo
          go_upto_region 11 with fail
          generalize hW : (wr.alloc (.cells #[.slice none 0 0] 39)) = W at hy RL bL
          have hW2 := bL.size
          have RPW := RP.later bL
          have RLl := RL.lt
          have q1 := RPW.cell' (i := 0) rfl
          have p1 := RPW.cell' (i := 1) rfl
          have p2 := RPW.cell' (i := 2) rfl
          have pf := RPW.frozen
          have l1 := RL.cell' (i := 0) rfl
          have HPW := Lib.hid (hrep.out.below bL)
          have hGB := hrep.out.blocks
          have hFB := hy.out.blocks
          have hnd : (G ++ ([])).Nodup := List.nodup_append.2 ⟨hfr.out.1, fL.out.1, fun a h1 b h2 e => by
            subst e
            have := hGB a h1; have := fL.out.2 a h2; omega⟩
          have hfr2 : Hid (Fresh (w1.heap.size + 1) (G ++ ([]))) := ⟨hnd, fun a ha => by
            rcases List.mem_append.1 ha with h | h
            · exact hfr.out.2 a h
            · have := fL.out.2 a h; omega⟩
          have HND := Lib.hid hnd
          clear hW hnd
          go_wp2_with (at_builtin; go_loud (refine wpList_append_repX (T := pLine) (e := 39) (ys := [lineOf ByteArray.empty]) (ec := [.slice none 0 0]) rfl (.tmp 39) (.tmp 41) rfl Tryd.underlying22 Tryd.infoLine rfl (by decide) rfl (HPW.out.alloc _) rfl (repL_single.2 (hy.out.alloc _)) (cellsAt_new _ _ _) trivial HND.out (by have := HN.out; rw [HKL.out]; simp only [List.length_singleton, maxLen]; omega) (by have := HN.out; rw [HKL.out]; simp only [List.length_singleton]; omega) ?_; intro v3 w3 F3 r3 o3 q3 x3; obtain ⟨A3, k3, hv3⟩ := slice_len r3; rw [show (((lns s).take k).map lineOf ++ [lineOf ByteArray.empty]).length = k + 1 from by rw [List.length_append, HKL.out, List.length_singleton]] at hv3; subst hv3; have RP3 := (RPW.alloc (.cells #[.slice none 0 0] 39)).only o3 (fun hin => by have := hfr.out.2 _ hin; omega); have s1 := RP3.cell' (i := 0) rfl; have s2 := RP3.frozen))
          go_roundw
          case rel =>
            refine ⟨k + 1, A3, k3, F3, HLTT.out, by go_num, RP3.set 0 (.slice A3 (k + 1) k3), ?_, q3 _ hfr2.out (by simp; omega), ?_⟩
            · show (pLines _).rep _ _ _ _ _
              rw [HLT.out]
              exact r3.setCell (fun hin => by
                rcases x3.1 _ hin with h | h
                · exact absurd (hfr2.out.2 _ h) (by simp)
                · simp at h; omega) _
            · exact ((((hb.trans (bL.mono hbs)).alloc (by omega) _).trans (o3.below (by simp; omega) (fun a ha => by have := hfr.out.2 a ha; omega))).setCell (by simp) _)
          case measure =>
            have := HLTT.out; simp [intOf]; omega
        · have g0 : (l.toList == []) = false := by
            have := str_eq l .empty
            rw [show ByteArray.empty.toList = [] from by simp] at this
            rw [this]; simp [hz]
          have g1 : l.toList.isEmpty = false := by rw [← List.beq_nil_eq, g0]
          have HWO := Lib.hid (fun w' => spec_l01SplitC_c 32 l w' (by omega))
          have hlo : lineOf l = (splitC 32 l.data.toList).map baOf := by rw [lineOf, if_neg hz]
          have HLO := Lib.hid hlo
          have RL0 := Row.new wr 39 #[.slice none 0 0]
          have bL0 : Below wr.heap.size wr (wr.alloc (.cells #[.slice none 0 0] 39)) := (Below.refl _ _).alloc (Nat.le_refl _) _
          clear hlo
          go_wp2_with fail
          refine (HWO.out _).mono ?_
          rintro e w2 ⟨ws2, v2, F2, rfl, hws, r2, f2, b2⟩
          obtain ⟨A2, n2, c2, rfl⟩ := slice_form r2
          have hwl : ws2 = lineOf l := by rw [HLO.out]; exact of_bytes hws
          subst hwl
          simp only [World.size_alloc] at f2
          have R2 := RL0.later b2
          have l0 := R2.cell' (i := 0) rfl
          have lf := R2.frozen
          go_upto_region 11 with fail
          have hy : Hid ((strs 9).rep true (w2.setCell ⟨wr.heap.size, 0, none⟩ (.slice A2 n2 c2)) (lineOf l) [.slice A2 n2 c2] F2) := r2.setCell (fun hin => absurd (f2.2 _ hin) (by simp)) _
          have RL := R2.set 0 (.slice A2 n2 c2)
          have bL : Below wr.heap.size wr (w2.setCell ⟨wr.heap.size, 0, none⟩ (.slice A2 n2 c2)) := (bL0.trans (b2.mono (by simp))).setCell (Nat.le_refl _) _
          have fL : Hid (Fresh (wr.heap.size + 1) F2) := f2
          clear l0 lf r2 f2
          generalize hW : (w2.setCell ⟨wr.heap.size, 0, none⟩ (.slice A2 n2 c2)) = W at hy RL bL
          have hW2 := bL.size
          have RPW := RP.later bL
          have RLl := RL.lt
          have q1 := RPW.cell' (i := 0) rfl
          have p1 := RPW.cell' (i := 1) rfl
          have p2 := RPW.cell' (i := 2) rfl
          have pf := RPW.frozen
          have l1 := RL.cell' (i := 0) rfl
          have HPW := Lib.hid (hrep.out.below bL)
          have hGB := hrep.out.blocks
          have hFB := hy.out.blocks
          have hnd : (G ++ (F2)).Nodup := List.nodup_append.2 ⟨hfr.out.1, fL.out.1, fun a h1 b h2 e => by
            subst e
            have := hGB a h1; have := fL.out.2 a h2; omega⟩
          have hfr2 : Hid (Fresh (w1.heap.size + 1) (G ++ (F2))) := ⟨hnd, fun a ha => by
            rcases List.mem_append.1 ha with h | h
            · exact hfr.out.2 a h
            · have := fL.out.2 a h; omega⟩
          have HND := Lib.hid hnd
          clear hW hnd
          go_wp2_with (at_builtin; go_loud (refine wpList_append_repX (T := pLine) (e := 39) (ys := [lineOf l]) (ec := [.slice A2 n2 c2]) rfl (.tmp 39) (.tmp 41) rfl Tryd.underlying22 Tryd.infoLine rfl (by decide) rfl (HPW.out.alloc _) rfl (repL_single.2 (hy.out.alloc _)) (cellsAt_new _ _ _) trivial HND.out (by have := HN.out; rw [HKL.out]; simp only [List.length_singleton, maxLen]; omega) (by have := HN.out; rw [HKL.out]; simp only [List.length_singleton]; omega) ?_; intro v3 w3 F3 r3 o3 q3 x3; obtain ⟨A3, k3, hv3⟩ := slice_len r3; rw [show (((lns s).take k).map lineOf ++ [lineOf l]).length = k + 1 from by rw [List.length_append, HKL.out, List.length_singleton]] at hv3; subst hv3; have RP3 := (RPW.alloc (.cells #[.slice A2 n2 c2] 39)).only o3 (fun hin => by have := hfr.out.2 _ hin; omega); have s1 := RP3.cell' (i := 0) rfl; have s2 := RP3.frozen))
          go_roundw
          case rel =>
            refine ⟨k + 1, A3, k3, F3, HLTT.out, by go_num, RP3.set 0 (.slice A3 (k + 1) k3), ?_, q3 _ hfr2.out (by simp; omega), ?_⟩
            · show (pLines _).rep _ _ _ _ _
              rw [HLT.out]
              exact r3.setCell (fun hin => by
                rcases x3.1 _ hin with h | h
                · exact absurd (hfr2.out.2 _ h) (by simp)
                · simp at h; omega) _
            · exact ((((hb.trans (bL.mono hbs)).alloc (by omega) _).trans (o3.below (by simp; omega) (fun a ha => by have := hfr.out.2 a ha; omega))).setCell (by simp) _)
          case measure =>
            have := HLTT.out; simp [intOf]; omega
      · obtain rfl : k = m := by omega
        have gl : ((k : Int) + 1 < (ws.length : Int)) = False := eq_false (by have := HM.out; omega)
        rw [List.take_of_length_le (by rw [HLEN.out]; exact Nat.le_refl _)] at hrep
        have hrep' := hrep.out
        have hpg : PageIs 39 66 true wr ⟨(lns s).map lineOf, [], []⟩ (.agg #[.slice X k x, .slice none 0 0, .slice none 0 0]) G := by
          have h0 := slice_nil pStep 66 true wr
          have := PageIs.make (p := ⟨(lns s).map lineOf, [], []⟩) hrep.out h0 h0
          simpa using this
        have HPG := Lib.hid hpg
        have hGB := hrep.out.blocks
        have hR0 := (R1.below hb q0)
        have ll := R1.lt
        have q1 := RP.cell' (i := 0) rfl
        have p1 := RP.cell' (i := 1) rfl
        have p2 := RP.cell' (i := 2) rfl
        have HV := Lib.hid (spec_l27Lines_c wr hrep.out HSM.out.s.l HSM.out.s.w HSM.out.b.l)
        have o0 := hR0.cell' (i := 0) rfl
        have o1 := hR0.cell' (i := 1) rfl
        have o2 := hR0.cell' (i := 2) rfl
        have of := hR0.frozen
        clear hr hpg hrep hrep' hlm
        cases hv : linesOkB ((lns s).map lineOf)
        · have hb2 : B = false := by rw [HB.out, hv]
          have hq : Q = nilPage := by rw [HRP.out, hb2]; rfl
          subst hb2 hq
          rw [hv] at HV
          go_wp2_with fail
          refine HV.out.mono ?_
          rintro e w2 ⟨rfl, rfl⟩
          go_wp2_with fail
          have TF := ((hR0.set 0 (.slice none 0 0)).set 1 (.slice none 0 0)).set 2 (.slice none 0 0)
          have e0 := TF.cell' (i := 0) rfl
          have e1 := TF.cell' (i := 1) rfl
          have e2 := TF.cell' (i := 2) rfl
          exact bodyPost_ret (v := .tuple #[.agg #[.slice none 0 0, .slice none 0 0, .slice none 0 0], .bool false]) (by simp only [results, Tryd.results5]; go_simp) rfl ⟨_, [], rfl, nilPage_is _ _ _ _, Fresh.nil _, set3 (b01.trans (hb.mono b01.size)) (by omega) _ _ _⟩
        · have hb2 : B = true := by rw [HB.out, hv]
          have hq : Q = ⟨(lns s).map lineOf, [], []⟩ := by rw [HRP.out, hb2]; rfl
          subst hb2 hq
          rw [hv] at HV
          go_wp2_with fail
          refine HV.out.mono ?_
          rintro e w2 ⟨rfl, rfl⟩
          have ng : w.heap.size ∉ G := fun hin => by have := hfr.out.2 _ hin; omega
          go_wp2_with fail
          have TF := ((hR0.set 0 (.slice X k x)).set 1 (.slice none 0 0)).set 2 (.slice none 0 0)
          have e0 := TF.cell' (i := 0) rfl
          have e1 := TF.cell' (i := 1) rfl
          have e2 := TF.cell' (i := 2) rfl
          exact bodyPost_ret (v := .tuple #[.agg #[.slice X k x, .slice none 0 0, .slice none 0 0], .bool true]) (by simp only [results, Tryd.results5]; go_simp) rfl ⟨_, G, rfl, page_set HPG.out ng, hfr.out.mono (by omega), set3 (b01.trans (hb.mono b01.size)) (by omega) _ _ _⟩
end Go.Proofs.YtahoopmiipmgpaaDoor
