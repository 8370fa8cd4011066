/- The program's checker of trees: join. Conditions: none. -/
import Derived.Test.YtmopioaojdlnkaaTkt
import Derived.Test.YtmopioaojdlnkaaSymst
import Derived.Deep.Cut
import Derived.Deep.CutRange
namespace Go.Proofs.Ytmopioaojdlnkaa
open Go Go.RowKit
def joinF (xs : List PSymbol) (st : ChSt) (n : PNode) : Option (ChSt × PBox) :=
 (popB st.opn n).bind fun o1 => (popK o1 n.a).bind fun o2 => (signUse xs st.used n).bind fun u =>
   if fitsF n.kind (partA st.boxes n) (partB st.boxes n) (signB xs st.boxes n) then some (⟨u, o2, st.boxes, st.cost + ownF n.kind (partA st.boxes n) (partB st.boxes n) (signB xs st.boxes n)⟩, boxNode xs st.boxes n) else none
theorem stepF_join (xs : List PSymbol) (st : ChSt) (n : PNode) (h0 : n.kind ≠ 0) : stepF xs st n = (joinF xs st n).map fun p => { p.1 with opn := p.1.opn ++ [(st.boxes.length : Int)], boxes := st.boxes ++ [p.2] } := by
 unfold stepF joinF
 rw [if_neg h0]
 cases popB st.opn n with
 | none => rfl
 | some o1 =>
   simp only [Option.bind_some]
   cases popK o1 n.a with
   | none => rfl
   | some o2 =>
     simp only [Option.bind_some]
     cases signUse xs st.used n with
     | none => rfl
     | some u =>
       simp only [Option.bind_some]
       split <;> rfl
structure ChkOk (xs : List PSymbol) (st : ChSt) : Prop where
 used : st.used.length = xs.length
 few : xs.length ≤ 8
 op : ∀ r ∈ st.opn, 0 ≤ r ∧ r < (st.boxes.length : Int)
 opl : st.opn.length ≤ 16
 bl : st.boxes.length ≤ 16
 bx : ∀ b ∈ st.boxes, boxIn b
 sy : ∀ s ∈ xs, boxIn (boxOf s)
 cost : 0 ≤ st.cost ∧ st.cost ≤ 40000 * (st.boxes.length : Int)
def JoinPost (e : TypeId) (o : Bool) (xs : List PSymbol) (vl : Value) (Fl : List Nat) (gp : Nat) (vu vb : Value) (Fu Fo Fb : List Nat) (w : World) (r : Option (ChSt × PBox)) (en : Ending) (w' : World) : Prop :=
 Only (gp :: Fu) w w' ∧ match r with
  | some (st', bx) => en = .returned (.tuple #[boxV bx, .bool true]) ∧ ∃ vo', Chk e o xs vl Fl gp st' vu vo' vb Fu Fo Fb w'
  | none => ∃ bx, en = .returned (.tuple #[boxV bx, .bool false])
theorem popK_mem {o o' : List Int} {r : Int} (h : popK o r = some o') : r ∈ o ∧ (∀ x ∈ o', x ∈ o) ∧ o'.length ≤ o.length := by
 unfold popK at h
 split at h
 · rename_i x hx
   split at h
   · rename_i hr
     injection h with h
     subst h; subst hr
     exact ⟨List.mem_of_getLast? hx, fun y hy => List.dropLast_subset _ hy, by rw [List.length_dropLast]; omega⟩
   · cases h
 · cases h
theorem Only.set_new {F : List Nat} {a b : World} (h : Only F a b) {p : Addr} (hp : a.heap.size ≤ p.block) (u : Value) : Only F a (b.setCell p u) :=
 ⟨h.os, h.tape, h.output, by simpa [World.setCell] using h.size, fun k hk hn => (Below.heap_setCell b p u k (fun e => by omega)).trans (h.block k hk hn)⟩
theorem Only.alloc {F : List Nat} {a b : World} (h : Only F a b) (x : Obj) : Only F a (b.alloc x) := h.trans (Only.of_below ((Below.refl _ _).alloc (Nat.le_refl _) _))
theorem Only.drew {F : List Nat} {a b : World} (h : Only F a b) : Only F a b.drew := h.trans (Only.of_below (Below.refl _ _).drew)
theorem four_cells {w : World} {g : Nat} {e : TypeId} {c : List Value} (R : Row w g e c) (hc : c.length = 4) (a b d f : Value) : Row ((((w.setCell ⟨g, 0, none⟩ a).setCell ⟨g, 1, none⟩ b).setCell ⟨g, 2, none⟩ d).setCell ⟨g, 3, none⟩ f) g e [a, b, d, f] := by
 have h := (((R.set 0 a).set 1 b).set 2 d).set 3 f
 match c, hc with
 | [_, _, _, _], _ => exact h
theorem only_cellC {F : List Nat} {a b : World} (h : Only F a b) {g i : Nat} (hg : g < a.heap.size) (hn : g ∉ F) : b.cell? ⟨g, i, none⟩ = a.cell? ⟨g, i, none⟩ := by
 have := h.block g hg hn
 simp [World.cell?, this]
theorem four_only (w : World) (g : Nat) (a b c d : Value) : Only [g] w ((((w.setCell ⟨g, 0, none⟩ a).setCell ⟨g, 1, none⟩ b).setCell ⟨g, 2, none⟩ c).setCell ⟨g, 3, none⟩ d) :=
 ((((Only.refl _ _).set (by simp) _).set (by simp) _).set (by simp) _).set (by simp) _
theorem S4 {w : World} {g : Nat} {e : TypeId} {a b c d : Value} (R : Row w g e [a, b, c, d]) : w.cell? ⟨g, 0, none⟩ = some a ∧ w.cell? ⟨g, 1, none⟩ = some b ∧ w.cell? ⟨g, 2, none⟩ = some c ∧ w.cell? ⟨g, 3, none⟩ = some d :=
 ⟨R.c0, R.c1, R.c2, R.c3⟩
theorem Row.far4 {w : World} {g t : Nat} {e : TypeId} {cs : List Value} (R : Row w g e cs) (h : g ≠ t) (a b c d : Value) : Row ((((w.setCell ⟨t, 0, none⟩ a).setCell ⟨t, 1, none⟩ b).setCell ⟨t, 2, none⟩ c).setCell ⟨t, 3, none⟩ d) g e cs :=
 (((R.far (p := ⟨t, 0, none⟩) h a).far (p := ⟨t, 1, none⟩) h b).far (p := ⟨t, 2, none⟩) h c).far (p := ⟨t, 3, none⟩) h d
structure JIn (e : TypeId) (o : Bool) (xs : List PSymbol) (vl : Value) (Fl : List Nat) (gp : Nat) (st : ChSt) (vu vo vb : Value) (Fu Fo Fb : List Nat) (nd r4 : List Value) (w0 w : World) : Prop where
 chk : Chk e o xs vl Fl gp st vu vo vb Fu Fo Fb w
 r3 : Row w w0.heap.size 76 nd
 r4 : Row w (w0.heap.size + 1) 48 r4
 on : Only (gp :: Fu) w0 w
 lt : ∀ b ∈ gp :: (Fu ++ (Fo ++ Fb)), b < w0.heap.size
 ltl : ∀ b ∈ Fl, b < w0.heap.size
section
variable {e : TypeId} {o : Bool} {xs : List PSymbol} {vl vu vo vb : Value} {Fl Fu Fo Fb G : List Nat} {gp : Nat} {st st' : ChSt} {nd r4 : List Value} {w0 w w' : World}
theorem JIn.below (h : JIn e o xs vl Fl gp st vu vo vb Fu Fo Fb nd r4 w0 w) (hb : Below w.heap.size w w') : JIn e o xs vl Fl gp st vu vo vb Fu Fo Fb nd r4 w0 w' :=
 ⟨h.chk.below hb, h.r3.later hb, h.r4.later hb, h.on.trans (Only.of_below hb), h.lt, h.ltl⟩
theorem JIn.alloc (h : JIn e o xs vl Fl gp st vu vo vb Fu Fo Fb nd r4 w0 w) (x : Obj) : JIn e o xs vl Fl gp st vu vo vb Fu Fo Fb nd r4 w0 (w.alloc x) := h.below ((Below.refl _ _).alloc (Nat.le_refl _) _)
theorem JIn.drew (h : JIn e o xs vl Fl gp st vu vo vb Fu Fo Fb nd r4 w0 w) : JIn e o xs vl Fl gp st vu vo vb Fu Fo Fb nd r4 w0 w.drew := h.below (Below.refl _ _).drew
theorem JIn.set (h : JIn e o xs vl Fl gp st vu vo vb Fu Fo Fb nd r4 w0 w) {t : Nat} (ht : w0.heap.size + 2 ≤ t) (i : Nat) (u : Value) : JIn e o xs vl Fl gp st vu vo vb Fu Fo Fb nd r4 w0 (w.setCell ⟨t, i, none⟩ u) := by
 have ho : Only [t] w (w.setCell ⟨t, i, none⟩ u) := (Only.refl _ _).set (by simp) _
 refine ⟨h.chk.only ho (fun b hb => by have := h.lt b hb; simp; omega) (fun b hb => by have := h.ltl b hb; simp; omega), h.r3.far (by show _ ≠ t; omega) _, h.r4.far (by show _ ≠ t; omega) _, h.on.set_new (by show _ ≤ t; omega) _, h.lt, h.ltl⟩
theorem JIn.use (h : JIn e o xs vl Fl gp st vu vo vb Fu Fo Fb nd r4 w0 w) (ho : Only Fu w w') (hc : Chk e o xs vl Fl gp st' vu vo vb Fu Fo Fb w') : JIn e o xs vl Fl gp st' vu vo vb Fu Fo Fb nd r4 w0 w' :=
 ⟨hc, h.r3.onlyC ho (fun hin => by have := h.lt _ (show w0.heap.size ∈ _ by simp [hin]); omega), h.r4.onlyC ho (fun hin => by have := h.lt _ (show w0.heap.size + 1 ∈ _ by simp [hin]); omega), h.on.trans (ho.mono (fun x hx => by simp [hx])), h.lt, h.ltl⟩
theorem JIn.cost (h : JIn e o xs vl Fl gp st vu vo vb Fu Fo Fb nd r4 w0 w) (c : Int) : JIn e o xs vl Fl gp { st with cost := c } vu vo vb Fu Fo Fb nd r4 w0 (w.setCell ⟨gp, 4, none⟩ (.int .i64 c)) := by
 have hnd := h.chk.nd
 rw [List.nodup_cons] at hnd
 have ng : ∀ b, b ∈ Fu ++ (Fo ++ Fb) → gp ≠ b := fun b hb e => hnd.1 (e ▸ hb)
 have hg := h.lt gp (by simp)
 refine ⟨⟨h.chk.row.set 4 _, h.chk.syms.setCell (fun hb => h.chk.dis _ hb (by simp)) _, h.chk.us.setCell (fun hb => ng _ (by simp [hb]) rfl) _, h.chk.op.setCell (fun hb => ng _ (by simp [hb]) rfl) _, h.chk.bs.setCell (fun hb => ng _ (by simp [hb]) rfl) _, h.chk.nd, h.chk.dis⟩, h.r3.far (by show _ ≠ gp; omega) _, h.r4.far (by show _ ≠ gp; omega) _, h.on.set (by simp) _, h.lt, h.ltl⟩
end
theorem ownF_le (kind : Int) {a b s : PBox} (ha : boxIn a) (hb : boxIn b) (hs : boxIn s) : 0 ≤ ownF kind a b s ∧ ownF kind a b s ≤ 40000 := by
 unfold boxIn at ha hb hs
 have h1 := absI_le (n := a.y1 + a.y2 - b.y1 - b.y2) (m := 9000) (by omega)
 have h2 := absI_le (n := a.x1 + a.x2 - s.x1 - s.x2) (m := 9000) (by omega)
 have h3 := absI_le (n := b.x1 + b.x2 - s.x1 - s.x2) (m := 9000) (by omega)
 have h4 := absI_le (n := b.x1 - a.x2) (m := 9000) (by omega)
 have h5 := absI_le (n := b.y2 - a.y1) (m := 9000) (by omega)
 have h6 := absI_le (n := b.y1 - a.y2) (m := 9000) (by omega)
 unfold ownF
 repeat' split
 all_goals omega
theorem joinB_back (a b : PBox) : joinB (joinB a b) a = joinB a b := by
 cases a; cases b; simp only [joinB, PBox.mk.injEq]; omega
set_option maxRecDepth 100000 in
set_option maxHeartbeats 8000000 in
theorem impl_join5_c {e : TypeId} {o : Bool} {xs : List PSymbol} {vl vu vo vb : Value} {Fl Fu Fo Fb : List Nat} {gp : Nat} {st : ChSt} (a b sign : Int) (w : World) (h : Chk e o xs vl Fl gp st vu vo vb Fu Fo Fb w) (hc : ChkOk xs st) :
 Calls Try.prog 75 #[.pointer (some ⟨gp, 0, none⟩), .agg #[.int .i64 5, .int .i64 a, .int .i64 b, .int .i64 sign]] w (JoinPost e o xs vl Fl gp vu vb Fu Fo Fb w (joinF xs st ⟨5, a, b, sign⟩)) := by
 have al2 : Only (gp :: Fu) w ((w.alloc (.cells #[.int .i64 5, .int .i64 a, .int .i64 b, .int .i64 sign] 76)).alloc (.cells #[.int .i64 0, .int .i64 0, .int .i64 0, .int .i64 0] 48)) := Only.of_below (((Below.refl _ _).alloc (Nat.le_refl _) _).alloc (by simp) _)
 have hlt : ∀ b ∈ gp :: (Fu ++ (Fo ++ Fb)), b < w.heap.size := fun b hb => by
  simp only [List.mem_cons, List.mem_append] at hb
  rcases hb with rfl | hb | hb | hb
  · exact h.row.lt
  · exact (bools 4).lt h.us b hb
  · exact (nums 2).lt h.op b hb
  · exact (pBoxs 48).lt h.bs b hb
 have hltl : ∀ b ∈ Fl, b < w.heap.size := fun b hb => (pSymbols e).lt h.syms b hb
 have J0 : JIn e o xs vl Fl gp st vu vo vb Fu Fo Fb (#[.int .i64 5, .int .i64 a, .int .i64 b, .int .i64 sign]).toList (#[.int .i64 0, .int .i64 0, .int .i64 0, .int .i64 0]).toList w ((w.alloc (.cells #[.int .i64 5, .int .i64 a, .int .i64 b, .int .i64 sign] 76)).alloc (.cells #[.int .i64 0, .int .i64 0, .int .i64 0, .int .i64 0] 48)) := by
  refine ⟨(h.alloc _).alloc _, (Row.new w 76 #[.int .i64 5, .int .i64 a, .int .i64 b, .int .i64 sign]).alloc _, ?_, al2, hlt, hltl⟩
  have R4 := (Row.new (w.alloc (.cells #[.int .i64 5, .int .i64 a, .int .i64 b, .int .i64 sign] 76)) 48 #[.int .i64 0, .int .i64 0, .int .i64 0, .int .i64 0])
  rwa [show (w.alloc (.cells #[.int .i64 5, .int .i64 a, .int .i64 b, .int .i64 sign] 76)).heap.size = w.heap.size + 1 by simp] at R4
 have CP := fun (r : Int) (st' : ChSt) (vo' : Value) (hl : st'.opn.length ≤ 16) w' (q : Chk e o xs vl Fl gp st' vu vo' vb Fu Fo Fb w') => impl_pop_c r w' q (by omega)
 have hx8 := hc.few
 have hul := Lib.hid hc.used
 have hbx := Lib.hid hc.bx
 have hsy := Lib.hid hc.sy
 have hco := hc.cost
 have hbl := hc.bl
 by_cases hb : b = 0
 · subst hb
   cases hp : popK st.opn a with
   | none =>
     have hj : joinF xs st ⟨5, a, 0, sign⟩ = none := by simp [joinF, popB, hp]
     rw [hj]
     have C := CP a st vo hc.opl
     rw [hp] at C
     have HC := Lib.hid C
     clear hj hp C CP hc h
     go_enter Try.func75, Try.ntmps75
     go_wp2_with fail
     refine (HC.out _ J0.chk).mono ?_
     rintro en w1 ⟨rfl, ow1, vo1, hw1⟩
     have J1 : JIn e o xs vl Fl gp { st with opn := st.opn } vu vo1 vb Fu Fo Fb (#[.int .i64 5, .int .i64 a, .int .i64 0, .int .i64 sign]).toList (#[.int .i64 0, .int .i64 0, .int .i64 0, .int .i64 0]).toList w w1 := ⟨hw1, J0.r3.onlyC ow1 (fun hin => by have := hlt gp (by simp); simp at hin; omega), J0.r4.onlyC ow1 (fun hin => by have := hlt gp (by simp); simp at hin; omega), J0.on.trans (ow1.mono (by simp)), hlt, hltl⟩
     clear hw1 ow1
     have c50 := J1.r4.c0
     have c51 := J1.r4.c1
     have c52 := J1.r4.c2
     have c53 := J1.r4.c3
     have F5 := J1.r4.frozen
     go_wp2_with fail
     have R6 := four_cells J1.r4 rfl (.int .i64 0) (.int .i64 0) (.int .i64 0) (.int .i64 0)
     have d0 := R6.c0
     have d1 := R6.c1
     have d2 := R6.c2
     have d3 := R6.c3
     refine bodyPost_ret (v := .tuple #[boxV ⟨0, 0, 0, 0⟩, .bool false]) (by simp [results, Try.results75, go_sem, boxV, d0, d1, d2, d3]) rfl ⟨?_, _, rfl⟩
     exact (((J1.on.set_new (by simp) _).set_new (by simp) _).set_new (by simp) _).set_new (by simp) _
   | some o2 =>
     have hm := popK_mem hp
     obtain ⟨ia, rfl⟩ : ∃ i : Nat, a = (i : Int) := ⟨a.toNat, by have := hc.op _ hm.1; omega⟩
     have hia : ia < st.boxes.length := by have := hc.op _ hm.1; omega
     have hba : boxIn st.boxes[ia] := hbx.out _ (List.getElem_mem hia)
     have hbb := hba
     have C := CP (ia : Int) st vo hc.opl
     rw [hp] at C
     have HC := Lib.hid C
     have hj : joinF xs st ⟨5, (ia : Int), 0, sign⟩ = (signUse xs st.used ⟨5, (ia : Int), 0, sign⟩).bind fun u => if fitsF 5 st.boxes[ia] st.boxes[ia] (boxOf (symAt xs sign)) then some ((⟨u, o2, st.boxes, st.cost + ownF 5 st.boxes[ia] st.boxes[ia] (boxOf (symAt xs sign))⟩ : ChSt), joinB (joinB st.boxes[ia] st.boxes[ia]) (boxOf (symAt xs sign))) else none := by
      simp [joinF, popB, hp, partA, partB, signB, signed, boxNode, List.getD_eq_getElem?_getD, List.getElem?_eq_getElem hia]
     rw [hj]
     clear hj hp C CP hm h
     generalize hR : ((signUse xs st.used ⟨5, (ia : Int), 0, sign⟩).bind fun u => if fitsF 5 st.boxes[ia] st.boxes[ia] (boxOf (symAt xs sign)) then some ((⟨u, o2, st.boxes, st.cost + ownF 5 st.boxes[ia] st.boxes[ia] (boxOf (symAt xs sign))⟩ : ChSt), joinB (joinB st.boxes[ia] st.boxes[ia]) (boxOf (symAt xs sign))) else none) = r
     have HR := Lib.hid hR
     clear hR
     go_enter Try.func75, Try.ntmps75
     go_wp2_with fail
     refine (HC.out _ J0.chk).mono ?_
     rintro en w1 ⟨rfl, ow1, vo1, hw1⟩
     have J1 : JIn e o xs vl Fl gp { st with opn := o2 } vu vo1 vb Fu Fo Fb (#[.int .i64 5, .int .i64 (ia : Int), .int .i64 0, .int .i64 sign]).toList (#[.int .i64 0, .int .i64 0, .int .i64 0, .int .i64 0]).toList w w1 := ⟨hw1, J0.r3.onlyC ow1 (fun hin => by have := hlt gp (by simp); simp at hin; omega), J0.r4.onlyC ow1 (fun hin => by have := hlt gp (by simp); simp at hin; omega), J0.on.trans (ow1.mono (by simp)), hlt, hltl⟩
     clear hw1 ow1
     obtain ⟨Al, cl, Au, cu, Ao, co, Ab, cb, rfl, rfl, rfl, rfl⟩ := J1.chk.shape
     have p3 := J1.chk.row.c3
     obtain ⟨Ab', cb', hvb, _, _, hbr⟩ := pBoxs_open J1.chk.bs
     injection hvb with hvb1 _ hvb3
     subst hvb1; subst hvb3
     obtain ⟨gb, ob, rfl, hgb, hgbF, q0, q1, q2, q3, _⟩ := hbr ia hia
     have k1 := J1.r3.c1
     have hia0 : (0 : Int) ≤ (ia : Int) := by omega
     have hia1 : (ia : Int) < (st.boxes.length : Int) := by omega
     have hg1 := J1.chk.row.lt
     have hg3 := J1.r3.lt
     clear hbr
     go_wp2_with fail
     have hS : (fun w' : World => w'.cell? ⟨gp, 3, none⟩ = some (.slice (some ⟨gb, ob, none⟩) st.boxes.length cb) ∧ w'.cell? ⟨w.heap.size, 1, none⟩ = some (.int .i64 (ia : Int)) ∧ w'.cell? ⟨gb, ob + ia * 4, none⟩ = some (.int .i64 (st.boxes[ia]).x1) ∧ w'.cell? ⟨gb, ob + ia * 4 + 1, none⟩ = some (.int .i64 (st.boxes[ia]).y1) ∧ w'.cell? ⟨gb, ob + ia * 4 + 2, none⟩ = some (.int .i64 (st.boxes[ia]).x2) ∧ w'.cell? ⟨gb, ob + ia * 4 + 3, none⟩ = some (.int .i64 (st.boxes[ia]).y2)) w1.drew := ⟨p3, k1, q0, q1, q2, q3⟩
     dsimp only at hS
     refine wp_region_held_drew (S := (fun w' : World => w'.cell? ⟨gp, 3, none⟩ = some (.slice (some ⟨gb, ob, none⟩) st.boxes.length cb) ∧ w'.cell? ⟨w.heap.size, 1, none⟩ = some (.int .i64 (ia : Int)) ∧ w'.cell? ⟨gb, ob + ia * 4, none⟩ = some (.int .i64 (st.boxes[ia]).x1) ∧ w'.cell? ⟨gb, ob + ia * 4 + 1, none⟩ = some (.int .i64 (st.boxes[ia]).y1) ∧ w'.cell? ⟨gb, ob + ia * 4 + 2, none⟩ = some (.int .i64 (st.boxes[ia]).x2) ∧ w'.cell? ⟨gb, ob + ia * 4 + 3, none⟩ = some (.int .i64 (st.boxes[ia]).y2))) (by kernel_rfl) hS (fun _ => ?_)
     refine tJ 0 hS ?_
     refine tJ 1 hS ?_
     refine tJ 2 hS ?_
     refine tJ 3 hS ?_
     refine tJ 4 hS ?_
     refine tJ 5 hS ?_
     refine tJ 6 hS ?_
     refine tJ 7 hS ?_
     refine rJ 8 fun K hK => ?_
     go_simp
     have past : ∀ (x : Obj) (g i : Nat) (u : Value), g < w1.heap.size → w1.cell? ⟨g, i, none⟩ = some u → (w1.alloc x).drew.cell? ⟨g, i, none⟩ = some u := fun x g i u hg hc => (World.cell?_alloc_past (w := w1) _ _ _ hg).trans hc
     refine hK.out _ _ ?_ (fun hHeld => ?_)
     · exact ⟨past _ _ _ _ hg1 p3, past _ _ _ _ hg3 k1, past _ _ _ _ hgb q0, past _ _ _ _ hgb q1, past _ _ _ _ hgb q2, past _ _ _ _ hgb q3⟩
     clear hK K hHeld
     refine rJ 9 fun K hK => ?_
     go_simp
     refine hK.out _ _ ?_ (fun hHeld => ?_)
     · exact ⟨past _ _ _ _ hg1 p3, past _ _ _ _ hg3 k1, past _ _ _ _ hgb q0, past _ _ _ _ hgb q1, past _ _ _ _ hgb q2, past _ _ _ _ hgb q3⟩
     clear hK K hHeld hS past
     refine wpAnyH_done (by kernel_rfl) ?_ _
     have J8 := (J1.alloc (.cells #[.int .i64 (st.boxes[ia]).x1, .int .i64 (st.boxes[ia]).y1, .int .i64 (st.boxes[ia]).x2, .int .i64 (st.boxes[ia]).y2] 48)).drew
     have R6 := (Row.new w1 48 #[.int .i64 (st.boxes[ia]).x1, .int .i64 (st.boxes[ia]).y1, .int .i64 (st.boxes[ia]).x2, .int .i64 (st.boxes[ia]).y2]).drew
     clear p3 q0 q1 q2 q3 k1
     have hb6 : w.heap.size + 2 ≤ w1.heap.size := by have := J1.r4.lt; omega
     generalize hw8 : (w1.alloc (.cells #[.int .i64 (st.boxes[ia]).x1, .int .i64 (st.boxes[ia]).y1, .int .i64 (st.boxes[ia]).x2, .int .i64 (st.boxes[ia]).y2] 48)).drew = w8 at J8 R6 ⊢
     generalize hb6' : w1.heap.size = b6 at R6 hb6 ⊢
     have f0 := R6.c0
     have f1 := R6.c1
     have f2 := R6.c2
     have f3 := R6.c3
     have l6 := R6.lt
     clear hw8
     go_upto_region 9 with fail
     go_cut [7, 8, 9] from 40 to 42 (fun s7 s8 s9 wx => ∃ b7 b8 b9, s7 = .pointer (some ⟨b7, 0, none⟩) ∧ s8 = .pointer (some ⟨b8, 0, none⟩) ∧ s9 = .pointer (some ⟨b9, 0, none⟩) ∧ b6 < b7 ∧ b6 < b8 ∧ b6 < b9 ∧ b7 ≠ b8 ∧ b7 ≠ b9 ∧ b8 ≠ b9 ∧ Row wx b6 48 (#[.int .i64 (st.boxes[ia]).x1, .int .i64 (st.boxes[ia]).y1, .int .i64 (st.boxes[ia]).x2, .int .i64 (st.boxes[ia]).y2]).toList ∧ Row wx b7 48 (#[.int .i64 (st.boxes[ia]).x1, .int .i64 (st.boxes[ia]).y1, .int .i64 (st.boxes[ia]).x2, .int .i64 (st.boxes[ia]).y2]).toList ∧ Row wx b8 48 (#[.int .i64 (st.boxes[ia]).x1, .int .i64 (st.boxes[ia]).y1, .int .i64 (st.boxes[ia]).x2, .int .i64 (st.boxes[ia]).y2]).toList ∧ Row wx b9 48 (#[.int .i64 (st.boxes[ia]).x1, .int .i64 (st.boxes[ia]).y1, .int .i64 (st.boxes[ia]).x2, .int .i64 (st.boxes[ia]).y2]).toList ∧ JIn e o xs (.slice Al xs.length cl) Fl gp { st with opn := o2 } (.slice Au st.used.length cu) (.slice Ao o2.length co) (.slice (some ⟨gb, ob, none⟩) st.boxes.length cb) Fu Fo Fb (#[.int .i64 5, .int .i64 (ia : Int), .int .i64 0, .int .i64 sign]).toList (#[.int .i64 0, .int .i64 0, .int .i64 0, .int .i64 0]).toList w wx)
     case first =>
      obtain ⟨Q0, Q1, Q2⟩ := three_boxes w8 (st.boxes[ia]) (st.boxes[ia]) (st.boxes[ia])
      have R9 := (((R6.alloc (.cells #[.int .i64 (st.boxes[ia]).x1, .int .i64 (st.boxes[ia]).y1, .int .i64 (st.boxes[ia]).x2, .int .i64 (st.boxes[ia]).y2] 48)).alloc (.cells #[.int .i64 (st.boxes[ia]).x1, .int .i64 (st.boxes[ia]).y1, .int .i64 (st.boxes[ia]).x2, .int .i64 (st.boxes[ia]).y2] 48)).alloc (.cells #[.int .i64 (st.boxes[ia]).x1, .int .i64 (st.boxes[ia]).y1, .int .i64 (st.boxes[ia]).x2, .int .i64 (st.boxes[ia]).y2] 48)).drew
      have J9 := (((J8.alloc (.cells #[.int .i64 (st.boxes[ia]).x1, .int .i64 (st.boxes[ia]).y1, .int .i64 (st.boxes[ia]).x2, .int .i64 (st.boxes[ia]).y2] 48)).alloc (.cells #[.int .i64 (st.boxes[ia]).x1, .int .i64 (st.boxes[ia]).y1, .int .i64 (st.boxes[ia]).x2, .int .i64 (st.boxes[ia]).y2] 48)).alloc (.cells #[.int .i64 (st.boxes[ia]).x1, .int .i64 (st.boxes[ia]).y1, .int .i64 (st.boxes[ia]).x2, .int .i64 (st.boxes[ia]).y2] 48)).drew
      go_region_held3 (fun w' : World => w'.cell? ⟨b6, 0, none⟩ = some (.int .i64 (st.boxes[ia]).x1) ∧ w'.cell? ⟨b6, 1, none⟩ = some (.int .i64 (st.boxes[ia]).y1) ∧ w'.cell? ⟨b6, 2, none⟩ = some (.int .i64 (st.boxes[ia]).x2) ∧ w'.cell? ⟨b6, 3, none⟩ = some (.int .i64 (st.boxes[ia]).y2)) (first | exact S4 R6.drew | exact S4 (R6.drew.alloc _) | exact S4 ((R6.drew.alloc _).alloc _) | exact S4 (((R6.drew.alloc _).alloc _).alloc _) | exact S4 (((R6.drew.alloc _).far4 (by simp; omega) _ _ _ _)) | exact S4 ((((R6.drew.alloc _).alloc _).far4 (by simp; omega) _ _ _ _)) | exact S4 (((((R6.drew.alloc _).alloc _).alloc _).far4 (by simp; omega) _ _ _ _)) | exact S4 ((((((R6.drew.alloc _).alloc _).alloc _).far4 (by simp; omega) _ _ _ _).far4 (by simp; omega) _ _ _ _)) | exact S4 (((((((R6.drew.alloc _).alloc _).alloc _).far4 (by simp; omega) _ _ _ _).far4 (by simp; omega) _ _ _ _).far4 (by simp; omega) _ _ _ _)) | exact S4 ((((R6.drew.alloc _).alloc _).far4 (by simp; omega) _ _ _ _).far4 (by simp; omega) _ _ _ _) | go_keep) (first | fail)
      all_goals
       go_wp2_with fail
       go_meet
       exact ⟨_, _, _, rfl, rfl, rfl, by omega, by omega, by omega, by omega, by omega, by omega, R9, by first | exact Q0.drew | exact Q1.drew | exact Q2.drew, by first | exact Q0.drew | exact Q1.drew | exact Q2.drew, by first | exact Q0.drew | exact Q1.drew | exact Q2.drew, J9⟩
     case rest =>
      obtain ⟨w9, hw9⟩ : ∃ W, W = wc := ⟨_, rfl⟩
      subst hw9
      clear f0 f1 f2 f3 l6 R6 J8
      obtain ⟨b7, b8, b9, rfl, rfl, rfl, h67, h68, h69, h78, h79, h89, R6, R7, R8, R9, J9⟩ := hcut
      have k0 := J9.r3.c0
      have k3 := J9.r3.c3
      have CS := Lib.hid (show ∀ w : World, Calls Try.prog 39 #[.int .i64 5] w fun e w' => e = .returned (.string ⟨#[114]⟩) ∧ w' = w from impl_signOf_c 5)
      go_wp2_with fail
      refine (CS.out _).mono ?_
      rintro en w10 ⟨rfl, rfl⟩
      go_wp2_with fail
      cases hu : useK st.used sign with
      | none =>
        have CU := impl_use_c sign w10.drew J9.chk.drew (by omega) hul.out
        dsimp only at CU
        rw [hu] at CU
        have HU := Lib.hid CU
        have hr : r = none := by
         rw [← HR.out]
         simp [signUse, signed, hu]
        subst hr
        clear CU hu
        have hS : (fun w' : World => w'.cell? ⟨w.heap.size, 3, none⟩ = some (.int .i64 sign)) w10.drew := k3
        dsimp only at hS
        refine wp_region_held_drew (S := (fun w' : World => w'.cell? ⟨w.heap.size, 3, none⟩ = some (.int .i64 sign))) (by kernel_rfl) hS (fun _ => ?_)
        refine tJ 0 hS ?_
        refine tJ 1 hS ?_
        refine tJ 2 hS ?_
        refine rJ 3 fun K hK => ?_
        refine step_call 74 #[.tmp 62, .tmp 64] _ rfl rfl #[.pointer (some ⟨gp, 0, none⟩), .int .i64 sign] Try.call74 (by go_simp) HU.out ?_
        rintro en w11 ⟨rfl, o11, h11⟩
        refine ⟨_, rfl, ?_⟩
        have J11 := J9.drew.use o11 h11
        replace hS : (fun w' : World => w'.cell? ⟨w.heap.size, 3, none⟩ = some (.int .i64 sign)) w11 := J11.r3.c3
        dsimp only at hS
        refine bJ hK hS ?_
        clear hK K
        simp only [Act.put, pA, pB, pC]
        refine tJ 4 hS ?_
        refine tJ 5 hS ?_
        refine tJ0 6 hS ?_
        refine tJ0 7 hS ?_
        refine tJ0 8 hS ?_
        refine tJ0 9 hS ?_
        refine tJ0 10 hS ?_
        refine tJ0 11 hS ?_
        refine tJ0 12 hS ?_
        refine tJ0 13 hS ?_
        refine tJ0 14 hS ?_
        refine tJ0 15 hS ?_
        refine tJ0 16 hS ?_
        refine tJ 17 hS ?_
        refine wpAnyH_done (by kernel_rfl) ?_ _
        have c50 := J11.r4.c0
        have c51 := J11.r4.c1
        have c52 := J11.r4.c2
        have c53 := J11.r4.c3
        have F5 := J11.r4.frozen
        go_wp2_with fail
        have R6 := four_cells J11.r4 rfl (.int .i64 0) (.int .i64 0) (.int .i64 0) (.int .i64 0)
        have d0 := R6.c0
        have d1 := R6.c1
        have d2 := R6.c2
        have d3 := R6.c3
        refine bodyPost_ret (v := .tuple #[boxV ⟨0, 0, 0, 0⟩, .bool false]) (by simp [results, Try.results75, go_sem, boxV, d0, d1, d2, d3]) rfl ⟨?_, _, rfl⟩
        exact (((J11.on.set_new (by simp) _).set_new (by simp) _).set_new (by simp) _).set_new (by simp) _
      | some us' =>
        have hin : 0 ≤ sign ∧ sign < (xs.length : Int) := by
         have := hul.out
         unfold useK at hu
         split at hu
         · rename_i hh; omega
         · cases hu
        obtain ⟨js, rfl⟩ : ∃ n : Nat, sign = (n : Int) := ⟨sign.toNat, by omega⟩
        have hjl : js < xs.length := by omega
        have hsa : symAt xs (js : Int) = xs[js] := by simp [symAt, List.getD_eq_getElem?_getD, List.getElem?_eq_getElem hjl]
        have CU := impl_use_c (js : Int) w10.drew J9.chk.drew (by omega) hul.out
        dsimp only at CU
        rw [hu] at CU
        have HU := Lib.hid CU
        obtain ⟨_, _, hvl, _, _, hsr⟩ := pSymbols_open J9.chk.syms
        injection hvl with hvl1 _ hvl3
        subst hvl1; subst hvl3
        obtain ⟨gs, os, rfl, hgs, hgin, s0, s1, s2, s3, s4, _⟩ := hsr js hjl
        have p0 := J9.chk.row.c0
        have hgd : gs ∉ Fu := fun hb => J9.chk.dis _ hgin (by simp [hb])
        have js0 : (0 : Int) ≤ (js : Int) := by omega
        have js1 : (js : Int) < (xs.length : Int) := by omega
        have HUU := Lib.hid hu
        clear CU hu hsr hin
        have hS : (fun w' : World => w'.cell? ⟨w.heap.size, 3, none⟩ = some (.int .i64 (js : Int)) ∧ w'.cell? ⟨gp, 0, none⟩ = some (.slice (some ⟨gs, os, none⟩) xs.length cl) ∧ w'.cell? ⟨gs, os + js * 5, none⟩ = some (.string xs[js].label)) w10.drew := ⟨k3, p0, s0⟩
        dsimp only at hS
        by_cases hl : xs[js].label = root1
        · have gl : (xs[js].label.toList == [114]) = true := by
           have := str_eq xs[js].label root1
           rw [decide_eq_true hl] at this
           rw [← this, ByteArray.toList_eq root1]; rfl
          have HLL := Lib.hid hl
          clear hl
          refine wp_region_held_drew (S := (fun w' : World => w'.cell? ⟨w.heap.size, 3, none⟩ = some (.int .i64 (js : Int)) ∧ w'.cell? ⟨gp, 0, none⟩ = some (.slice (some ⟨gs, os, none⟩) xs.length cl) ∧ w'.cell? ⟨gs, os + js * 5, none⟩ = some (.string xs[js].label))) (by kernel_rfl) hS (fun _ => ?_)
          refine tJ 0 hS ?_
          refine tJ 1 hS ?_
          refine tJ 2 hS ?_
          refine rJ 3 fun K hK => ?_
          refine step_call 74 #[.tmp 62, .tmp 64] _ rfl rfl #[.pointer (some ⟨gp, 0, none⟩), .int .i64 (js : Int)] Try.call74 (by go_simp) HU.out ?_
          rintro en w11 ⟨rfl, o11, h11⟩
          refine ⟨_, rfl, ?_⟩
          have J11 := J9.drew.use o11 h11
          have s0' := (only_cellC o11 hgs hgd).trans s0
          replace hS : (fun w' : World => w'.cell? ⟨w.heap.size, 3, none⟩ = some (.int .i64 (js : Int)) ∧ w'.cell? ⟨gp, 0, none⟩ = some (.slice (some ⟨gs, os, none⟩) xs.length cl) ∧ w'.cell? ⟨gs, os + js * 5, none⟩ = some (.string xs[js].label)) w11 := ⟨J11.r3.c3, J11.chk.row.c0, s0'⟩
          dsimp only at hS
          refine bJ hK hS ?_
          clear hK K
          simp only [Act.put, pA, pB, pC]
          refine tJ 4 hS ?_
          refine tJ 5 hS ?_
          refine tJ 6 hS ?_
          refine tJ 7 hS ?_
          refine tJ 8 hS ?_
          refine tJ 9 hS ?_
          refine tJ 10 hS ?_
          refine tJ 11 hS ?_
          refine tJ 12 hS ?_
          refine tJ 13 hS ?_
          refine tJ 14 hS ?_
          refine tJ 15 hS ?_
          refine tJ 16 hS ?_
          refine tJ 17 hS ?_
          refine wpAnyH_done (by kernel_rfl) ?_ _
          go_wp2_with fail
          have hgs11 : gs < w11.heap.size := Nat.lt_of_lt_of_le hgs o11.size
          have s1' := (only_cellC o11 hgs hgd).trans s1
          have s2' := (only_cellC o11 hgs hgd).trans s2
          have s3' := (only_cellC o11 hgs hgd).trans s3
          have s4' := (only_cellC o11 hgs hgd).trans s4
          have f9 : ∀ b, b6 ≤ b → b ∉ Fu := fun b hb hin => by have := hlt b (by simp [hin]); omega
          replace R6 := R6.drew.onlyC o11 (f9 _ (Nat.le_refl _))
          replace R7 := R7.drew.onlyC o11 (f9 _ (by omega))
          replace R8 := R8.drew.onlyC o11 (f9 _ (by omega))
          replace R9 := R9.drew.onlyC o11 (f9 _ (by omega))
          have hng : gp ≠ b9 := fun e => by have := hlt gp (by simp); omega
          have hns : gs ≠ b9 := fun e => by have := hltl gs hgin; omega
          have hS : (fun w' : World => w'.cell? ⟨w.heap.size, 3, none⟩ = some (.int .i64 (js : Int)) ∧ w'.cell? ⟨gp, 0, none⟩ = some (.slice (some ⟨gs, os, none⟩) xs.length cl) ∧ w'.cell? ⟨gs, os + js * 5 + 1, none⟩ = some (.int .i64 xs[js].x1) ∧ w'.cell? ⟨gs, os + js * 5 + 2, none⟩ = some (.int .i64 xs[js].y1) ∧ w'.cell? ⟨gs, os + js * 5 + 3, none⟩ = some (.int .i64 xs[js].x2) ∧ w'.cell? ⟨gs, os + js * 5 + 4, none⟩ = some (.int .i64 xs[js].y2)) w11.drew := ⟨J11.r3.c3, J11.chk.row.c0, s1', s2', s3', s4'⟩
          dsimp only at hS
          have c90 := R9.c0
          have c91 := R9.c1
          have c92 := R9.c2
          have c93 := R9.c3
          have e90 : w11.drew.cell? ⟨b9, 0, none⟩ = _ := c90
          have e91 : w11.drew.cell? ⟨b9, 1, none⟩ = _ := c91
          have e92 : w11.drew.cell? ⟨b9, 2, none⟩ = _ := c92
          have e93 : w11.drew.cell? ⟨b9, 3, none⟩ = _ := c93
          have F9 : ∀ i, w11.frozen? ⟨b9, i, none⟩ = false := R9.frozen
          refine wp_region_held_drew (S := (fun w' : World => w'.cell? ⟨w.heap.size, 3, none⟩ = some (.int .i64 (js : Int)) ∧ w'.cell? ⟨gp, 0, none⟩ = some (.slice (some ⟨gs, os, none⟩) xs.length cl) ∧ w'.cell? ⟨gs, os + js * 5 + 1, none⟩ = some (.int .i64 xs[js].x1) ∧ w'.cell? ⟨gs, os + js * 5 + 2, none⟩ = some (.int .i64 xs[js].y1) ∧ w'.cell? ⟨gs, os + js * 5 + 3, none⟩ = some (.int .i64 xs[js].x2) ∧ w'.cell? ⟨gs, os + js * 5 + 4, none⟩ = some (.int .i64 xs[js].y2))) (by kernel_rfl) hS (fun _ => ?_)
          refine tJ 0 hS ?_
          refine tJ 1 hS ?_
          refine tJ 2 hS ?_
          refine tJ 3 hS ?_
          refine tJ 4 hS ?_
          refine tJ 5 hS ?_
          refine tJ 6 hS ?_
          refine tJ 7 hS ?_
          refine tJ 8 hS ?_
          refine rJ 9 fun K hK => ?_
          go_simp
          have o12 := (four_only w11 b9 (.int .i64 xs[js].x1) (.int .i64 xs[js].y1) (.int .i64 xs[js].x2) (.int .i64 xs[js].y2)).drew
          have J12 := ((((J11.set (t := b9) (by omega) 0 (.int .i64 xs[js].x1)).set (t := b9) (by omega) 1 (.int .i64 xs[js].y1)).set (t := b9) (by omega) 2 (.int .i64 xs[js].x2)).set (t := b9) (by omega) 3 (.int .i64 xs[js].y2)).drew
          have hns' : gs ∉ [b9] := by simpa using hns
          refine hK.out _ _ ?_ (fun hHeld => ?_)
          · exact ⟨J12.r3.c3, J12.chk.row.c0, (only_cellC o12 hgs11 hns').trans s1', (only_cellC o12 hgs11 hns').trans s2', (only_cellC o12 hgs11 hns').trans s3', (only_cellC o12 hgs11 hns').trans s4'⟩
          clear hK K hHeld
          refine wpAnyH_done (by kernel_rfl) ?_ _
          replace R9 := (four_cells R9 rfl (.int .i64 xs[js].x1) (.int .i64 xs[js].y1) (.int .i64 xs[js].x2) (.int .i64 xs[js].y2)).drew
          replace R6 := (R6.far4 (t := b9) (by omega) (.int .i64 xs[js].x1) (.int .i64 xs[js].y1) (.int .i64 xs[js].x2) (.int .i64 xs[js].y2)).drew
          replace R7 := (R7.far4 (t := b9) h79 (.int .i64 xs[js].x1) (.int .i64 xs[js].y1) (.int .i64 xs[js].x2) (.int .i64 xs[js].y2)).drew
          replace R8 := (R8.far4 (t := b9) h89 (.int .i64 xs[js].x1) (.int .i64 xs[js].y1) (.int .i64 xs[js].x2) (.int .i64 xs[js].y2)).drew
          generalize ((((w11.setCell ⟨b9, 0, none⟩ (.int .i64 xs[js].x1)).setCell ⟨b9, 1, none⟩ (.int .i64 xs[js].y1)).setCell ⟨b9, 2, none⟩ (.int .i64 xs[js].x2)).setCell ⟨b9, 3, none⟩ (.int .i64 xs[js].y2)).drew = w12 at J12 R6 R7 R8 R9 ⊢
          clear o12 c90 c91 c92 c93 e90 e91 e92 e93 F9 s1' s2' s3' s4' hS s0' s0 s1 s2 s3 s4 k0 k3 p0
          obtain ⟨SB, hSB⟩ : ∃ S, boxOf xs[js] = S := ⟨_, rfl⟩
          replace R9 : Row w12 b9 48 (#[.int .i64 (SB).x1, .int .i64 (SB).y1, .int .i64 (SB).x2, .int .i64 (SB).y2]).toList := hSB ▸ R9
          have hsb : boxIn SB := hSB ▸ hsy.out _ (List.getElem_mem hjl)
          have HSB := Lib.hid hSB
          clear hSB
          obtain ⟨Y, hY⟩ : ∃ Y, joinB (st.boxes[ia]) (SB) = Y := ⟨_, rfl⟩
          have CBX : ∀ w, Calls Try.prog 82 #[.agg #[.int .i64 (st.boxes[ia]).x1, .int .i64 (st.boxes[ia]).y1, .int .i64 (st.boxes[ia]).x2, .int .i64 (st.boxes[ia]).y2], .agg #[.int .i64 (SB).x1, .int .i64 (SB).y1, .int .i64 (SB).x2, .int .i64 (SB).y2]] w fun e w' => e = .returned (.agg #[.int .i64 (Y).x1, .int .i64 (Y).y1, .int .i64 (Y).x2, .int .i64 (Y).y2]) ∧ Below w.heap.size w w' := by
           intro w
           rw [← hY]
           exact impl_joinBoxes_c (st.boxes[ia]) (SB) w
          have CH := Lib.hid CBX
          have HY := Lib.hid hY
          clear CBX hY
          have ya0 := R7.c0
          have ya1 := R7.c1
          have ya2 := R7.c2
          have ya3 := R7.c3
          have yb0 := R9.c0
          have yb1 := R9.c1
          have yb2 := R9.c2
          have yb3 := R9.c3
          go_wp2_with fail
          refine (CH.out _).mono ?_
          rintro en w18 ⟨rfl, bc⟩
          clear ya0 ya1 ya2 ya3 yb0 yb1 yb2 yb3
          replace J12 := J12.below bc
          replace R6 := R6.later bc
          replace R7 := R7.later bc
          replace R8 := R8.later bc
          replace R9 := R9.later bc
          clear bc CH
          have z0 := R7.c0
          have z1 := R7.c1
          have z2 := R7.c2
          have z3 := R7.c3
          have F7 := R7.frozen
          go_upto_region 21 with fail
          replace R6 := R6.far4 (t := b7) (by omega) (.int .i64 (Y).x1) (.int .i64 (Y).y1) (.int .i64 (Y).x2) (.int .i64 (Y).y2)
          replace R7 := four_cells R7 rfl (.int .i64 (Y).x1) (.int .i64 (Y).y1) (.int .i64 (Y).x2) (.int .i64 (Y).y2)
          replace R8 := R8.far4 (t := b7) (by omega) (.int .i64 (Y).x1) (.int .i64 (Y).y1) (.int .i64 (Y).x2) (.int .i64 (Y).y2)
          replace R9 := R9.far4 (t := b7) (by omega) (.int .i64 (Y).x1) (.int .i64 (Y).y1) (.int .i64 (Y).x2) (.int .i64 (Y).y2)
          replace J12 := (((J12.set (t := b7) (by omega) 0 (.int .i64 (Y).x1)).set (t := b7) (by omega) 1 (.int .i64 (Y).y1)).set (t := b7) (by omega) 2 (.int .i64 (Y).x2)).set (t := b7) (by omega) 3 (.int .i64 (Y).y2)
          generalize ((((w18.setCell ⟨b7, 0, none⟩ (.int .i64 (Y).x1)).setCell ⟨b7, 1, none⟩ (.int .i64 (Y).y1)).setCell ⟨b7, 2, none⟩ (.int .i64 (Y).x2)).setCell ⟨b7, 3, none⟩ (.int .i64 (Y).y2)) = w19 at R6 R7 R8 R9 J12 ⊢
          clear F7
          clear z0 z1 z2 z3
          have ta0 := R6.c0
          have ta1 := R6.c1
          have ta2 := R6.c2
          have ta3 := R6.c3
          have tb0 := R8.c0
          have tb1 := R8.c1
          have tb2 := R8.c2
          have tb3 := R8.c3
          have ts0 := R9.c0
          have ts1 := R9.c1
          have ts2 := R9.c2
          have ts3 := R9.c3
          have tk0 := J12.r3.c0
          have CCJ := Lib.hid (impl_joinCost_c 5 (st.boxes[ia]) (st.boxes[ia]) (SB))
          have hw := ownF_le 5 hba hbb hsb
          go_wp2_with fail
          refine (CCJ.out _ hba hbb hsb).mono ?_
          rintro en w21 ⟨rfl, bc⟩
          replace J12 := J12.below bc
          replace R6 := R6.later bc
          replace R7 := R7.later bc
          replace R8 := R8.later bc
          replace R9 := R9.later bc
          clear ta0 ta1 ta2 ta3 tb0 tb1 tb2 tb3 ts0 ts1 ts2 ts3
          clear bc CCJ tk0
          have p4 := J12.chk.row.c4
          have F4 := J12.chk.row.frozen
          have ew := IntWalk.i64_in (st.cost + ownF 5 (st.boxes[ia]) (st.boxes[ia]) (SB)) (by omega)
          go_upto_region 23 with fail
          have hg7 : b7 ≠ gp := by have := hlt gp (by simp); omega
          replace R7 := R7.far (p := ⟨gp, 4, none⟩) hg7 (.int .i64 (st.cost + ownF 5 (st.boxes[ia]) (st.boxes[ia]) (SB)))
          replace J12 := J12.cost (st.cost + ownF 5 (st.boxes[ia]) (st.boxes[ia]) (SB))
          clear R6 R8 R9 p4 F4
          generalize w21.setCell ⟨gp, 4, none⟩ (.int .i64 (st.cost + ownF 5 (st.boxes[ia]) (st.boxes[ia]) (SB))) = w22 at R7 J12 ⊢
          have z0 := R7.c0
          have z1 := R7.c1
          have z2 := R7.c2
          have z3 := R7.c3
          have c50 := J12.r4.c0
          have c51 := J12.r4.c1
          have c52 := J12.r4.c2
          have c53 := J12.r4.c3
          have F5 := J12.r4.frozen
          go_wp2_with fail
          have R5 := four_cells J12.r4 rfl (.int .i64 (Y).x1) (.int .i64 (Y).y1) (.int .i64 (Y).x2) (.int .i64 (Y).y2)
          have hon := (((J12.on.set_new (p := ⟨w.heap.size + 1, 0, none⟩) (by simp) (.int .i64 (Y).x1)).set_new (p := ⟨w.heap.size + 1, 1, none⟩) (by simp) (.int .i64 (Y).y1)).set_new (p := ⟨w.heap.size + 1, 2, none⟩) (by simp) (.int .i64 (Y).x2)).set_new (p := ⟨w.heap.size + 1, 3, none⟩) (by simp) (.int .i64 (Y).y2)
          have hch := J12.chk.only (four_only w22 (w.heap.size + 1) (.int .i64 (Y).x1) (.int .i64 (Y).y1) (.int .i64 (Y).x2) (.int .i64 (Y).y2)) (fun b hb => by have := hlt b hb; simp; omega) (fun b hb => by have := hltl b hb; simp; omega)
          have d0 := R5.c0
          have d1 := R5.c1
          have d2 := R5.c2
          have d3 := R5.c3
          refine bodyPost_ret (v := .tuple #[boxV Y, .bool (fitsF 5 (st.boxes[ia]) (st.boxes[ia]) (SB))]) (by simp [results, Try.results75, go_sem, boxV, d0, d1, d2, d3]) rfl ?_
          cases hf : fitsF 5 (st.boxes[ia]) (st.boxes[ia]) (SB) with
          | false =>
            have hr : r = none := by
             rw [← HR.out]
             simp [signUse, signed, HUU.out, hsa, HLL.out, labelF, HSB.out, hf]
            subst hr
            exact ⟨hon, _, rfl⟩
          | true =>
            have hr : r = some (⟨us', o2, st.boxes, st.cost + ownF 5 (st.boxes[ia]) (st.boxes[ia]) (SB)⟩, Y) := by
             rw [← HR.out]
             simp [signUse, signed, HUU.out, hsa, HLL.out, labelF, HSB.out, hf, joinB_self, HY.out]
            subst hr
            exact ⟨hon, rfl, _, hch⟩
        · have gl : (xs[js].label.toList == [114]) = false := by
           have := str_eq xs[js].label root1
           rw [decide_eq_false hl] at this
           rw [← this, ByteArray.toList_eq root1]; rfl
          have hr : r = none := by
           rw [← HR.out]
           simp [signUse, signed, HUU.out, hsa, hl, labelF]
          subst hr
          clear hl
          refine wp_region_held_drew (S := (fun w' : World => w'.cell? ⟨w.heap.size, 3, none⟩ = some (.int .i64 (js : Int)) ∧ w'.cell? ⟨gp, 0, none⟩ = some (.slice (some ⟨gs, os, none⟩) xs.length cl) ∧ w'.cell? ⟨gs, os + js * 5, none⟩ = some (.string xs[js].label))) (by kernel_rfl) hS (fun _ => ?_)
          refine tJ 0 hS ?_
          refine tJ 1 hS ?_
          refine tJ 2 hS ?_
          refine rJ 3 fun K hK => ?_
          refine step_call 74 #[.tmp 62, .tmp 64] _ rfl rfl #[.pointer (some ⟨gp, 0, none⟩), .int .i64 (js : Int)] Try.call74 (by go_simp) HU.out ?_
          rintro en w11 ⟨rfl, o11, h11⟩
          refine ⟨_, rfl, ?_⟩
          have J11 := J9.drew.use o11 h11
          have s0' := (only_cellC o11 hgs hgd).trans s0
          replace hS : (fun w' : World => w'.cell? ⟨w.heap.size, 3, none⟩ = some (.int .i64 (js : Int)) ∧ w'.cell? ⟨gp, 0, none⟩ = some (.slice (some ⟨gs, os, none⟩) xs.length cl) ∧ w'.cell? ⟨gs, os + js * 5, none⟩ = some (.string xs[js].label)) w11 := ⟨J11.r3.c3, J11.chk.row.c0, s0'⟩
          dsimp only at hS
          refine bJ hK hS ?_
          clear hK K
          simp only [Act.put, pA, pB, pC]
          refine tJ 4 hS ?_
          refine tJ 5 hS ?_
          refine tJ 6 hS ?_
          refine tJ 7 hS ?_
          refine tJ 8 hS ?_
          refine tJ 9 hS ?_
          refine tJ 10 hS ?_
          refine tJ 11 hS ?_
          refine tJ 12 hS ?_
          refine tJ 13 hS ?_
          refine tJ 14 hS ?_
          refine tJ 15 hS ?_
          refine tJ 16 hS ?_
          refine tJ 17 hS ?_
          refine wpAnyH_done (by kernel_rfl) ?_ _
          have c50 := J11.r4.c0
          have c51 := J11.r4.c1
          have c52 := J11.r4.c2
          have c53 := J11.r4.c3
          have F5 := J11.r4.frozen
          go_wp2_with fail
          have R6 := four_cells J11.r4 rfl (.int .i64 0) (.int .i64 0) (.int .i64 0) (.int .i64 0)
          have d0 := R6.c0
          have d1 := R6.c1
          have d2 := R6.c2
          have d3 := R6.c3
          refine bodyPost_ret (v := .tuple #[boxV ⟨0, 0, 0, 0⟩, .bool false]) (by simp [results, Try.results75, go_sem, boxV, d0, d1, d2, d3]) rfl ⟨?_, _, rfl⟩
          exact (((J11.on.set_new (by simp) _).set_new (by simp) _).set_new (by simp) _).set_new (by simp) _
 · have gb : (b != 0) = true := by simp [hb]
   have hj : joinF xs st ⟨5, a, b, sign⟩ = none := by simp [joinF, popB, hb]
   rw [hj]
   clear hj hb h hc CP J0
   go_enter Try.func75, Try.ntmps75
   go_wp2_with fail
   refine bodyPost_ret (v := .tuple #[boxV ⟨0, 0, 0, 0⟩, .bool false]) (by simp [results, Try.results75, go_sem, boxV]) rfl ⟨al2, _, rfl⟩
end Go.Proofs.Ytmopioaojdlnkaa
