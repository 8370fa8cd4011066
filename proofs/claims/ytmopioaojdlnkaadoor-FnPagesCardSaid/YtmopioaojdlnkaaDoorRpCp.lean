/- ReadPage of the program. Conditions: the library's variables are laid. -/
import Derived.Deep.Cut
import Derived.Deep.CutRange
import Derived.Test.YtmopioaojdlnkaaDoorRpBp
import Derived.Test.YtmopioaojdlnkaaDoorPgText2p
import Derived.Test.YtmopioaojdlnkaaDoorPgDo4p
namespace Go.Proofs.YtmopioaojdlnkaaDoor
open Go Go.RowKit
def GivesPB (q : PPage) (b : Bool) (w : World) (e : Ending) (w' : World) : Prop := ∃ v F, e = .returned (.tuple #[v, .bool b]) ∧ PageIs 56 30 true w' q v F ∧ Fresh w.heap.size F ∧ Below w.heap.size w w'
theorem lines_take {s : ByteArray} {k : Nat} (h : k < (lns s).length) : ((lns s).take (k + 1)).map lineOf = ((lns s).take k).map lineOf ++ [lineOf (lns s)[k]] := by
 rw [List.take_succ_eq_append_getElem h, List.map_append]; rfl
theorem page_set {el es : TypeId} {o : Bool} {w : World} {p : PPage} {v : Value} {F : List Nat} {g : Nat} {a b c : Value} (h : PageIs el es o w p v F) (hg : g ∉ F) : PageIs el es o (((w.setCell ⟨g, 0, none⟩ a).setCell ⟨g, 1, none⟩ b).setCell ⟨g, 2, none⟩ c) p v F := by
 obtain ⟨a, b, c, F1, F2, F3, rfl, rfl, h1, h2, h3⟩ := h
 simp only [List.mem_append, not_or] at hg
 exact ⟨a, b, c, F1, F2, F3, rfl, rfl, ((h1.setCell hg.1 _).setCell hg.1 _).setCell hg.1 _, ((h2.setCell hg.2.1 _).setCell hg.2.1 _).setCell hg.2.1 _, ((h3.setCell hg.2.2 _).setCell hg.2.2 _).setCell hg.2.2 _⟩
set_option maxRecDepth 100000 in
set_option maxHeartbeats 4000000 in
theorem impl_ReadPage_c (s : ByteArray) (w : World) (hs : s.size ≤ 1048576) (hE : MaxE w) :
 Calls Tryd.prog 12 #[.string s] w (GivesPB (readP s) (readOkP s) w) := by
 have E0 := (hE.below ((Below.refl _ _).alloc (Nat.le_refl _) (.cells #[.slice none 0 0, .slice none 0 0, .slice none 0 0] 27)))
 have HL := Lib.hid (impl_linesOf_c s _ hs E0)
 have HLN := Lib.hid (lns_sum s)
 have HLC := Lib.hid (len_sum (lns s))
 have HSM := Lib.hid (read_small s hs)
 have R0 := Row.new w 27 #[.slice none 0 0, .slice none 0 0, .slice none 0 0]
 have b00 : Below w.heap.size w (w.alloc (.cells #[.slice none 0 0, .slice none 0 0, .slice none 0 0] 27)) := (Below.refl _ _).alloc (Nat.le_refl _) _
 cases he : endB s.data.toList
 · rw [he] at HL
   have hr : readP s = nilPage ∧ readOkP s = false := by simp [readP, readOkP, he]
   rw [hr.1, hr.2]
   go_enter Tryd.func12, Tryd.ntmps12
   go_wp2_with fail
   refine HL.out.mono ?_
   rintro e w1 ⟨v1, F1, rfl, r1, f1, b1⟩
   have R1 := R0.later b1
   have q0 := R1.lt
   have o0 := R1.c0
   have o1 := R1.c1
   have o2 := R1.c2
   have of := R1.frozen
   go_wp2_with fail
   have TF := ((R1.set 0 (.slice none 0 0)).set 1 (.slice none 0 0)).set 2 (.slice none 0 0)
   have e0 := TF.c0
   have e1 := TF.c1
   have e2 := TF.c2
   exact bodyPost_ret (v := .tuple #[.agg #[.slice none 0 0, .slice none 0 0, .slice none 0 0], .bool false]) (by simp only [results, Tryd.results12]; go_simp) rfl ⟨_, [], rfl, nilPage_is _ _ _ _, Fresh.nil _, set3 (b00.trans (b1.mono b00.size)) (by omega) _ _ _⟩
 · rw [he] at HL
   have HV : ∀ w' v F, PageIs 56 30 true w' ⟨(lns s).map lineOf, [], []⟩ v F → Calls Tryd.prog 17 #[v] w' fun e w'' => e = .returned (.bool (linesOkB ((lns s).map lineOf))) ∧ Below w'.heap.size w' w'' := by
    intro w' v F q
    have := impl_ValidPage_c w' q HSM.out.s HSM.out.b
    rwa [valid_read] at this
   have HT : ∀ w' v F, PageIs 56 30 true w' ⟨(lns s).map lineOf, [], []⟩ v F → linesOkB ((lns s).map lineOf) = true → Calls Tryd.prog 13 #[v] w' fun e w'' => e = .returned (.string s) ∧ Below w'.heap.size w' w'' := by
    intro w' v F q hv
    have := impl_PageText_c w' q HSM.out
    rwa [pageText_read he hv] at this
   have hrd : readOkP s = linesOkB ((lns s).map lineOf) := by simp [readOkP, he]
   have hrp : readP s = if linesOkB ((lns s).map lineOf) = true then ⟨(lns s).map lineOf, [], []⟩ else nilPage := by rw [readP, hrd]
   generalize readP s = Q at hrp
   generalize readOkP s = B at hrd
   have HRD := Lib.hid hrd
   have HRP := Lib.hid hrp
   have HVH := Lib.hid HV
   have HTH := Lib.hid HT
   clear HV HT hrd hrp he
   go_enter Tryd.func12, Tryd.ntmps12
   go_wp2_with fail
   refine HL.out.mono ?_
   rintro e w1 ⟨v1, F1, rfl, r1, f1, b1⟩
   have R1 := R0.later b1
   have q0 := R1.lt
   have E1 := E0.below b1
   have b01 := b00.trans (b1.mono b00.size)
   have hz1 := b1.size
   obtain ⟨A, c, rfl, hc1, hc2, hr⟩ := strs_open r1
   clear r1 b1 b00 E0 hE R0
   go_wp2_with fail
   go_loopw [20] (fun i wr => ∃ (k : Nat) (X : Option Addr) (x : Nat) (G : List Nat), k ≤ (lns s).length ∧ i = .int .i64 k ∧ Row wr w1.heap.size 27 [.slice X k x, .slice none 0 0, .slice none 0 0] ∧ Hid ((pLines 56).rep true wr (((lns s).take k).map lineOf) [.slice X k x] G) ∧ Hid (Fresh (w1.heap.size + 1) G) ∧ Below w1.heap.size w1 wr) (fun i _ => (lns s).length - (intOf i).toNat)
   case atStart => exact ⟨0, none, 0, [], Nat.zero_le _, rfl, Row.new w1 _ _, slice_nil _ _ _ _, Fresh.nil _, (Below.refl _ _).alloc (Nat.le_refl _) _⟩
   case round =>
    obtain ⟨k, X, x, G, hk, rfl, RP, hrep, hfr, hb⟩ := hrel
    have hbs := hb.size
    have hlp := RP.lt
    by_cases hlt : k < (lns s).length
    · obtain ⟨b', off, rfl, hbb, _, h0, _⟩ := hr k hlt
      rw [← hb.cell (p := ⟨b', _, none⟩) hbb] at h0
      have HLT := Lib.hid (lines_take hlt)
      have hsz : (lns s)[k].size + 1 ≤ 1048576 := by have := mem_le_sum (List.getElem_mem hlt); have := HLN.out; omega
      have hkl : ((((lns s).take k).map lineOf).length : Nat) = k := by rw [List.length_map, List.length_take]; omega
      have HKL := Lib.hid hkl
      have HLTT := Lib.hid (show k + 1 ≤ (lns s).length from hlt)
      have HN := Lib.hid (show (lns s).length ≤ 1048576 by have := HLC.out; have := HLN.out; omega)
      generalize hl : (lns s)[k] = l at h0 hsz HLT
      clear hr hkl hl
      have hkk : k ≤ 1048576 := by have := HN.out; omega
      have i2 := IntWalk.i64_in ((k : Int) + 1) (by omega)
      by_cases hz : l = .empty
      · subst hz
        have hlo : lineOf ByteArray.empty = [] := by rw [lineOf, if_pos rfl]
        have hy : Hid ((strs 9).rep true (wr.alloc (.cells #[.slice none 0 0] 56)) (lineOf .empty) [.slice none 0 0] []) := by
         rw [hlo]; exact slice_nil _ _ _ _
        have RL := Row.new wr 56 #[.slice none 0 0]
        have bL : Below wr.heap.size wr (wr.alloc (.cells #[.slice none 0 0] 56)) := (Below.refl _ _).alloc (Nat.le_refl _) _
        have fL : Hid (Fresh (wr.heap.size + 1) ([] : List Nat)) := Fresh.nil _
        clear hlo
        go_upto_region 11 with fail
        generalize hW : (wr.alloc (.cells #[.slice none 0 0] 56)) = W at hy RL bL
        have hW2 := bL.size
        have RPW := RP.later bL
        have RLl := RL.lt
        have q1 := RPW.c0
        have p1 := RPW.c1
        have p2 := RPW.c2
        have pf := RPW.frozen
        have l1 := RL.c0
        have HPW := Lib.hid (hrep.out.below bL)
        have hGB := hrep.out.blocks
        have hFB := hy.out.blocks
        have hnd : (G ++ ([])).Nodup := List.nodup_append.2 ⟨hfr.out.1, fL.out.1, fun a h1 b h2 e => by
         subst e
         have := hGB a h1; have := fL.out.2 a h2; omega⟩
        have hfr2 : Hid (Fresh (w1.heap.size + 1) (G ++ ([]))) := ⟨hnd, fun a ha => by
         rcases List.mem_append.1 ha with h | h
         · exact hfr.out.2 a h
         · have := fL.out.2 a h; omega⟩
        have HND := Lib.hid hnd
        clear hW hnd
        go_wp2_with (at_builtin; go_loud (refine wpList_append_repX (T := pLine) (e := 56) (ys := [lineOf ByteArray.empty]) (ec := [.slice none 0 0]) rfl (.tmp 30) (.tmp 32) rfl Tryd.underlying24 Tryd.infoLine rfl (by decide) rfl (HPW.out.alloc _) rfl (repL_single.2 (hy.out.alloc _)) (cellsAt_new _ _ _) trivial HND.out (by have := HN.out; rw [HKL.out]; simp only [List.length_singleton, maxLen]; omega) (by have := HN.out; rw [HKL.out]; simp only [List.length_singleton]; omega) ?_; intro v3 w3 F3 r3 o3 q3 x3; obtain ⟨A3, k3, hv3⟩ := slice_len r3; rw [show (((lns s).take k).map lineOf ++ [lineOf ByteArray.empty]).length = k + 1 from by rw [List.length_append, HKL.out, List.length_singleton]] at hv3; subst hv3; have RP3 := (RPW.alloc (.cells #[.slice none 0 0] 56)).only o3 (fun hin => by have := hfr.out.2 _ hin; omega); have s1 := RP3.c0; have s2 := RP3.frozen))
        go_roundw
        case rel =>
         refine ⟨k + 1, A3, k3, F3, HLTT.out, by go_num, RP3.set 0 (.slice A3 (k + 1) k3), ?_, q3 _ hfr2.out (by simp; omega), ?_⟩
         · show (pLines _).rep _ _ _ _ _
           rw [HLT.out]
           exact r3.setCell (fun hin => by
            rcases x3.1 _ hin with h | h
            · exact absurd (hfr2.out.2 _ h) (by simp)
            · simp at h; omega) _
         · exact ((((hb.trans (bL.mono hbs)).alloc (by omega) _).trans (o3.below (by simp; omega) (fun a ha => by have := hfr.out.2 a ha; omega))).setCell (by simp) _)
        case measure =>
         have := HLTT.out; simp [intOf]; omega
      · have g0 : (l.toList == []) = false := by
         have := str_eq l .empty
         rw [show ByteArray.empty.toList = [] from by simp] at this
         rw [this]; simp [hz]
        have g1 : l.toList.isEmpty = false := by rw [← List.beq_nil_eq, g0]
        have HWO := Lib.hid (fun w' (q : MaxE w') => impl_wordsOf_m l w' (by omega) q)
        have EA := (E1.below hb).below ((Below.refl _ _).alloc (Nat.le_refl _) (.cells #[.slice none 0 0] 56))
        have hlo : lineOf l = (splitC 32 l.data.toList).map baOf := by rw [lineOf, if_neg hz]
        have HLO := Lib.hid hlo
        clear hlo
        go_wp2_with fail
        refine (HWO.out _ EA).mono ?_
        rintro e w2 ⟨ws, v2, rfl, hws, r2, b2⟩
        obtain ⟨A2, n2, c2, rfl⟩ := slice_form r2
        have hwl : ws = lineOf l := by rw [HLO.out]; exact of_bytes hws
        subst hwl
        have R2 := (Row.new wr 56 #[.slice none 0 0]).later b2
        have l0 := R2.c0
        have lf := R2.frozen
        go_upto_region 11 with fail
        have hy : Hid ((strs 9).rep true (w2.setCell ⟨wr.heap.size, 0, none⟩ (.slice A2 n2 c2)) (lineOf l) [.slice A2 n2 c2] [(wr.alloc (.cells #[.slice none 0 0] 56)).heap.size]) := r2.setCell (by simp) _
        have RL := R2.set 0 (.slice A2 n2 c2)
        have bL : Below wr.heap.size wr (w2.setCell ⟨wr.heap.size, 0, none⟩ (.slice A2 n2 c2)) := (((Below.refl _ _).alloc (Nat.le_refl _) _).trans (b2.mono (by simp))).setCell (Nat.le_refl _) _
        have fL : Hid (Fresh (wr.heap.size + 1) [(wr.alloc (.cells #[.slice none 0 0] 56)).heap.size]) := ⟨by simp, by simp⟩
        clear l0 lf r2
        generalize hW : (w2.setCell ⟨wr.heap.size, 0, none⟩ (.slice A2 n2 c2)) = W at hy RL bL
        have hW2 := bL.size
        have RPW := RP.later bL
        have RLl := RL.lt
        have q1 := RPW.c0
        have p1 := RPW.c1
        have p2 := RPW.c2
        have pf := RPW.frozen
        have l1 := RL.c0
        have HPW := Lib.hid (hrep.out.below bL)
        have hGB := hrep.out.blocks
        have hFB := hy.out.blocks
        have hnd : (G ++ ([(wr.alloc (.cells #[.slice none 0 0] 56)).heap.size])).Nodup := List.nodup_append.2 ⟨hfr.out.1, fL.out.1, fun a h1 b h2 e => by
         subst e
         have := hGB a h1; have := fL.out.2 a h2; omega⟩
        have hfr2 : Hid (Fresh (w1.heap.size + 1) (G ++ ([(wr.alloc (.cells #[.slice none 0 0] 56)).heap.size]))) := ⟨hnd, fun a ha => by
         rcases List.mem_append.1 ha with h | h
         · exact hfr.out.2 a h
         · have := fL.out.2 a h; omega⟩
        have HND := Lib.hid hnd
        clear hW hnd
        go_wp2_with (at_builtin; go_loud (refine wpList_append_repX (T := pLine) (e := 56) (ys := [lineOf l]) (ec := [.slice A2 n2 c2]) rfl (.tmp 30) (.tmp 32) rfl Tryd.underlying24 Tryd.infoLine rfl (by decide) rfl (HPW.out.alloc _) rfl (repL_single.2 (hy.out.alloc _)) (cellsAt_new _ _ _) trivial HND.out (by have := HN.out; rw [HKL.out]; simp only [List.length_singleton, maxLen]; omega) (by have := HN.out; rw [HKL.out]; simp only [List.length_singleton]; omega) ?_; intro v3 w3 F3 r3 o3 q3 x3; obtain ⟨A3, k3, hv3⟩ := slice_len r3; rw [show (((lns s).take k).map lineOf ++ [lineOf l]).length = k + 1 from by rw [List.length_append, HKL.out, List.length_singleton]] at hv3; subst hv3; have RP3 := (RPW.alloc (.cells #[.slice A2 n2 c2] 56)).only o3 (fun hin => by have := hfr.out.2 _ hin; omega); have s1 := RP3.c0; have s2 := RP3.frozen))
        go_roundw
        case rel =>
         refine ⟨k + 1, A3, k3, F3, HLTT.out, by go_num, RP3.set 0 (.slice A3 (k + 1) k3), ?_, q3 _ hfr2.out (by simp; omega), ?_⟩
         · show (pLines _).rep _ _ _ _ _
           rw [HLT.out]
           exact r3.setCell (fun hin => by
            rcases x3.1 _ hin with h | h
            · exact absurd (hfr2.out.2 _ h) (by simp)
            · simp at h; omega) _
         · exact ((((hb.trans (bL.mono hbs)).alloc (by omega) _).trans (o3.below (by simp; omega) (fun a ha => by have := hfr.out.2 a ha; omega))).setCell (by simp) _)
        case measure =>
         have := HLTT.out; simp [intOf]; omega
    · obtain rfl : k = (lns s).length := by omega
      rw [List.take_length] at hrep
      have hpg : PageIs 56 30 true wr ⟨(lns s).map lineOf, [], []⟩ (.agg #[.slice X (lns s).length x, .slice none 0 0, .slice none 0 0]) G := by
       have h0 := slice_nil pStep 30 true wr
       have := PageIs.make (p := ⟨(lns s).map lineOf, [], []⟩) hrep.out h0 h0
       simpa using this
      have HPG := Lib.hid hpg
      have hGB := hrep.out.blocks
      have hR0 := (R1.below hb q0)
      have ll := R1.lt
      have q1 := RP.c0
      have p1 := RP.c1
      have p2 := RP.c2
      clear hr hpg hrep
      cases hv : linesOkB ((lns s).map lineOf)
      · have hq : Q = nilPage := by rw [HRP.out, hv]; rfl
        have hb2 : B = false := by rw [HRD.out, hv]
        subst hq hb2
        have HV := Lib.hid (HVH.out wr _ G HPG.out)
        rw [hv] at HV
        go_wp2_with fail
        refine HV.out.mono ?_
        rintro e w2 ⟨rfl, b2⟩
        have R2 := hR0.later b2
        have o0 := R2.c0
        have o1 := R2.c1
        have o2 := R2.c2
        have of := R2.frozen
        go_wp2_with fail
        have TF := ((R2.set 0 (.slice none 0 0)).set 1 (.slice none 0 0)).set 2 (.slice none 0 0)
        have e0 := TF.c0
        have e1 := TF.c1
        have e2 := TF.c2
        exact bodyPost_ret (v := .tuple #[.agg #[.slice none 0 0, .slice none 0 0, .slice none 0 0], .bool false]) (by simp only [results, Tryd.results12]; go_simp) rfl ⟨_, [], rfl, nilPage_is _ _ _ _, Fresh.nil _, set3 ((b01.trans (hb.mono b01.size)).trans (b2.mono (by omega))) (by omega) _ _ _⟩
      · have hq : Q = ⟨(lns s).map lineOf, [], []⟩ := by rw [HRP.out, hv]; rfl
        have hb2 : B = true := by rw [HRD.out, hv]
        subst hq hb2
        have HV := Lib.hid (HVH.out wr _ G HPG.out)
        have HT := Lib.hid (fun w' q => HTH.out w' (.agg #[.slice X (lns s).length x, .slice none 0 0, .slice none 0 0]) G q hv)
        rw [hv] at HV
        go_wp2_with fail
        refine HV.out.mono ?_
        rintro e w2 ⟨rfl, b2⟩
        have q1 := (RP.later b2).c0
        have p1 := (RP.later b2).c1
        have p2 := (RP.later b2).c2
        have gs : (!s.toList == s.toList) = false := by simp
        go_wp2_with fail
        refine (HT.out _ (HPG.out.below b2)).mono ?_
        rintro e w3 ⟨rfl, b3⟩
        have R3 := (hR0.later b2).later b3
        have P3 := (RP.later b2).later b3
        clear q1 p1 p2
        have q1 := P3.c0
        have p1 := P3.c1
        have p2 := P3.c2
        have o0 := R3.c0
        have o1 := R3.c1
        have o2 := R3.c2
        have of := R3.frozen
        have hg3 := HPG.out.below b2 |>.below b3
        have ng : w.heap.size ∉ G := fun hin => by have := hfr.out.2 _ hin; omega
        go_wp2_with fail
        have TF := ((R3.set 0 (.slice X (lns s).length x)).set 1 (.slice none 0 0)).set 2 (.slice none 0 0)
        have e0 := TF.c0
        have e1 := TF.c1
        have e2 := TF.c2
        exact bodyPost_ret (v := .tuple #[.agg #[.slice X (lns s).length x, .slice none 0 0, .slice none 0 0], .bool true]) (by simp only [results, Tryd.results12]; go_simp) rfl ⟨_, G, rfl, page_set hg3 ng, hfr.out.mono (by omega), set3 ((b01.trans (hb.mono b01.size)).trans ((b2.trans (b3.mono b2.size)).mono (by omega))) (by omega) _ _ _⟩
end Go.Proofs.YtmopioaojdlnkaaDoor
