/- append as one step of a region that draws its order; the form of a slice. No program is named here. Conditions: none. -/
import Derived.Test.YtmopioaojdlnkaaSymst
import Derived.Test.YtmopioaojdlnkaaTkt
import Derived.Test.YtmopioaojdlnkaaChk3t
import Derived.Deep.RegionLaw
namespace Go.Proofs.Ytmopioaojdlnkaa
open Go Go.RowKit
theorem slice_form {α : Type} {T : Ty α} {e : TypeId} {o : Bool} {w : World} {xs : List α} {v : Value} {F : List Nat} (h : (T.slice e).rep o w xs [v] F) : ∃ A n c, v = .slice A n c := by
 obtain ⟨A, c, rfl⟩ := slice_len h
 exact ⟨_, _, _, rfl⟩
section
variable {P : Program} {α : Type} {T : Ty α} {t e : TypeId} {z : Value} {bytes : Nat} {w : World} {xs ys : List α} {v : Value} {F Fy : List Nat} {A : Option Addr} {c : Nat} {ec : List Value}
theorem step_append_repX {ops : Array Oper} {o : Oper} {a : Act} {K : Act → World → Prop} {Q : Exit → Act → World → Prop} {E : Prop} (hgd : o.guard = none) (s x : Operand)
 (ho : o.op = .call { callee := .builtin .append, args := #[s, x], argTypes := #[t, t] })
 (ht : P.underlying t = some (.slice e)) (hi : (P.info? e).map (fun i => (i.zero, i.size, i.bytes)) = some (some z, T.size, bytes)) (hz : z.cells.size = T.size) (h0 : 0 < T.size)
 (hs : a.eval s = v) (hr : (T.slice e).rep true w xs [v] F) (hx : a.eval x = .slice A ys.length c) (hy : repL T true w ys ec Fy) (hat : CellsAt w A ec) (hnd : (F ++ Fy).Nodup)
 (h63 : xs.length + ys.length ≤ maxLen) (hb : (xs.length + ys.length) * bytes ≤ 140737488355328)
 (h : ∀ v' w' F', (T.slice e).rep true w' (xs ++ ys) [v'] F' → Only F w w' → (∀ B, Fresh B (F ++ Fy) → B ≤ w.heap.size → Fresh B F') → ((∀ b ∈ F', b ∈ F ++ Fy ∨ w.heap.size ≤ b) ∧ Only v.ownBlock.toList w w' ∧ ∀ b ∈ v'.ownBlock.toList, b ∈ v.ownBlock.toList ∨ w.heap.size ≤ b) → K (a.put o.dst v') w') :
 if Region.wanted o (yielded ops a.tmps) = true then Oper.wp P o a w K Q else E := by
 have hw : Region.wanted o (yielded ops a.tmps) = true := by simp [Region.wanted, hgd]
 rw [if_pos hw]
 obtain ⟨v', w', F', hrun, h2, h3, h4, h5⟩ := run_append_repX (P := P) (c := c) o.type ht hi hz h0 hr hy hat trivial hnd h63 hb
 unfold Oper.wp
 simp [execOp, ho, resolve, invoke, builtin, hs, hx, hrun, Result.andThen]
 exact h v' w' F' h2 h3 h4 h5
end
theorem node_neq (s t : PNode) (w : World) : (binOp .neq 76 (.agg #[.int .i64 s.kind, .int .i64 s.a, .int .i64 s.b, .int .i64 s.sign]) (.agg #[.int .i64 t.kind, .int .i64 t.a, .int .i64 t.b, .int .i64 t.sign])).run Try.prog w = .ok (.bool (!decide (s = t))) w := by
 have hS : Try.prog.underlying 76 = some (.struct (Try.prog.fieldsOf 76)) := by kernel_rfl
 have hp : Try.prog.stoodInHeld 76 = false := by kernel_rfl
 rw [run_neq_struct, show (10000 : Nat) = 9999 + 1 from rfl, run_equalIn_agg w 9999 76 _ _ hS hp]
 simp only [Program.fieldsOf, Try.underlying76]
 go_simp
 obtain ⟨a, b, c, d⟩ := s
 obtain ⟨a', b', c', d'⟩ := t
 simp only [PNode.mk.injEq]
 by_cases h1 : a = a' <;> by_cases h2 : b = b' <;> by_cases h3 : c = c' <;> by_cases h4 : d = d' <;> simp [h1, h2, h3, h4]
theorem infoI : (Try.prog.info? 2).map (fun i => (i.zero, i.size, i.bytes)) = some (some (.int .i64 0), int64.size, 8) := by kernel_rfl
theorem infoBox : (Try.prog.info? 48).map (fun i => (i.zero, i.size, i.bytes)) = some (some (.agg #[.int .i64 0, .int .i64 0, .int .i64 0, .int .i64 0]), pBox.size, 32) := by kernel_rfl
theorem cellsAt_in (w : World) (e : TypeId) (cs : List Value) {n : Nat} (hn : n = w.heap.size) : CellsAt (w.alloc (.cells cs.toArray e)) (some ⟨n, 0, none⟩) cs := hn ▸ cellsAt_new w e cs
theorem CellsAt.drewC {w : World} {A : Option Addr} {ec : List Value} (h : CellsAt w A ec) : CellsAt w.drew A ec := h
theorem joinF_ok {xs : List PSymbol} {st : ChSt} {n : PNode} (hc : ChkOk xs st) {p : ChSt × PBox} (h : joinF xs st n = some p) : boxIn p.2 ∧ p.1.boxes = st.boxes ∧ p.1.opn.length ≤ st.opn.length := by
 have hz : boxIn ⟨0, 0, 0, 0⟩ := by unfold boxIn; simp
 have hb : ∀ k : Nat, boxIn (st.boxes.getD k ⟨0, 0, 0, 0⟩) := fun k => by
  rw [List.getD_eq_getElem?_getD]
  cases e : st.boxes[k]? with
  | none => exact hz
  | some b => exact hc.bx b (List.mem_of_getElem? e)
 have hs : ∀ k : Int, boxIn (boxOf (symAt xs k)) := fun k => by
  unfold symAt
  rw [List.getD_eq_getElem?_getD]
  cases e : xs[k.toNat]? with
  | none => exact hz
  | some b => exact hc.sy b (List.mem_of_getElem? e)
 have h1 : boxIn (partA st.boxes n) := hb _
 have h2 : boxIn (partB st.boxes n) := by unfold partB; split <;> first | exact h1 | exact hb _
 have h3 : boxIn (signB xs st.boxes n) := by unfold signB; split <;> first | exact h1 | exact hs _
 have h4 : boxIn (boxNode xs st.boxes n) := by
  unfold boxNode
  split
  · exact hs _
  · exact boxIn_join (boxIn_join h1 h2) h3
 unfold joinF at h
 cases e1 : popB st.opn n with
 | none => rw [e1] at h; cases h
 | some o1 =>
   rw [e1] at h
   have l1 : o1.length ≤ st.opn.length := by
    unfold popB at e1
    split at e1
    · split at e1
      · cases e1; exact Nat.le_refl _
      · cases e1
    · exact (popK_mem e1).2.2
   simp only [Option.bind_some] at h
   cases e2 : popK o1 n.a with
   | none => rw [e2] at h; cases h
   | some o2 =>
     rw [e2] at h
     have l2 := (popK_mem e2).2.2
     simp only [Option.bind_some] at h
     cases e3 : signUse xs st.used n with
     | none => rw [e3] at h; cases h
     | some u =>
       rw [e3] at h
       simp only [Option.bind_some] at h
       split at h
       · cases h
         exact ⟨h4, rfl, by show o2.length ≤ _; omega⟩
       · cases h
def NodePost (e : TypeId) (o : Bool) (xs : List PSymbol) (vl : Value) (Fl : List Nat) (gp : Nat) (vu : Value) (Fu Fo Fb : List Nat) (w : World) (r : Option ChSt) (en : Ending) (w' : World) : Prop :=
 en = .returned (.bool r.isSome) ∧ Only (gp :: (Fu ++ (Fo ++ Fb))) w w' ∧ ∀ st', r = some st' → ∃ vo' vb' Fo' Fb', Chk e o xs vl Fl gp st' vu vo' vb' Fu Fo' Fb' w' ∧ ∀ b ∈ Fo' ++ Fb', b ∈ Fo ++ Fb ∨ w.heap.size ≤ b
section
variable {e : TypeId} {o : Bool} {xs : List PSymbol} {vl vu vo vb : Value} {Fl Fu Fo Fb : List Nat} {gp : Nat} {st st' : ChSt} {nd r4 : List Value} {w0 w w' : World}
theorem JIn.joined (h : JIn e o xs vl Fl gp st vu vo vb Fu Fo Fb nd r4 w0 w) (ho : Only (gp :: Fu) w w') {vo' : Value} (hc : Chk e o xs vl Fl gp st' vu vo' vb Fu Fo Fb w') : JIn e o xs vl Fl gp st' vu vo' vb Fu Fo Fb nd r4 w0 w' :=
 ⟨hc, h.r3.onlyC ho (fun hin => by have := h.lt w0.heap.size (by simp only [List.mem_cons, List.mem_append] at hin ⊢; rcases hin with h | h <;> simp [h]); omega), h.r4.onlyC ho (fun hin => by have := h.lt (w0.heap.size + 1) (by simp only [List.mem_cons, List.mem_append] at hin ⊢; rcases hin with h | h <;> simp [h]); omega), h.on.trans ho, h.lt, h.ltl⟩
theorem JIn.set4 (h : JIn e o xs vl Fl gp st vu vo vb Fu Fo Fb nd r4 w0 w) (hl : r4.length = 4) (a b c d : Value) : JIn e o xs vl Fl gp st vu vo vb Fu Fo Fb nd [a, b, c, d] w0 ((((w.setCell ⟨w0.heap.size + 1, 0, none⟩ a).setCell ⟨w0.heap.size + 1, 1, none⟩ b).setCell ⟨w0.heap.size + 1, 2, none⟩ c).setCell ⟨w0.heap.size + 1, 3, none⟩ d) := by
 have ho := four_only w (w0.heap.size + 1) a b c d
 exact ⟨h.chk.only ho (fun b hb => by have := h.lt b hb; simp; omega) (fun b hb => by have := h.ltl b hb; simp; omega), h.r3.far4 (by omega) _ _ _ _, four_cells h.r4 hl _ _ _ _, (((h.on.set_new (by simp) _).set_new (by simp) _).set_new (by simp) _).set_new (by simp) _, h.lt, h.ltl⟩
theorem Chk.pushO (h : Chk e o xs vl Fl gp st vu vo vb Fu Fo Fb w) {os : List Int} {v' : Value} {Fo' : List Nat} (r : (nums 2).rep true w' os [v'] Fo') (ho : Only Fo w w') (hx : ∀ b ∈ Fo', b ∈ Fo ∨ w.heap.size ≤ b) (hn : Fo'.Nodup) :
 Chk e o xs vl Fl gp { st with opn := os } vu v' vb Fu Fo' Fb (w'.setCell ⟨gp, 2, none⟩ v') := by
 have hnd := h.nd
 have hdis := h.dis
 simp only [List.nodup_cons, List.nodup_append, List.mem_append] at hnd
 obtain ⟨n1, n2, ⟨n3, n4, n5⟩, n6⟩ := hnd
 have l1 := h.row.lt
 have l2 : ∀ b ∈ Fu, b < w.heap.size := fun b hb => (bools 4).lt h.us b hb
 have l3 : ∀ b ∈ Fb, b < w.heap.size := fun b hb => (pBoxs 48).lt h.bs b hb
 have l4 : ∀ b ∈ Fl, b < w.heap.size := fun b hb => (pSymbols e).lt h.syms b hb
 have g1 : gp ∉ Fo := fun hb => n1 (.inr (.inl hb))
 have g2 : gp ∉ Fo' := fun hb => by rcases hx _ hb with h | h <;> first | exact g1 h | omega
 have u1 : ∀ b ∈ Fu, b ∉ Fo := fun b hb h2 => n6 _ hb _ (.inl h2) rfl
 have u2 : ∀ b ∈ Fu, b ∉ Fo' := fun b hb h2 => by rcases hx _ h2 with h | h <;> first | exact u1 _ hb h | (have := l2 _ hb; omega)
 have b1 : ∀ b ∈ Fb, b ∉ Fo := fun b hb h2 => n5 _ h2 _ hb rfl
 have b2 : ∀ b ∈ Fb, b ∉ Fo' := fun b hb h2 => by rcases hx _ h2 with h | h <;> first | exact b1 _ hb h | (have := l3 _ hb; omega)
 have s1 : ∀ b ∈ Fl, b ∉ Fo := fun b hb h2 => hdis _ hb (by simp [h2])
 have s2 : ∀ b ∈ Fl, b ∉ Fo' := fun b hb h2 => by rcases hx _ h2 with h | h <;> first | exact s1 _ hb h | (have := l4 _ hb; omega)
 have gu : ∀ b ∈ Fu, b ≠ gp := fun b hb e => n1 (.inl (e ▸ hb))
 have gb : ∀ b ∈ Fb, b ≠ gp := fun b hb e => n1 (.inr (.inr (e ▸ hb)))
 refine ⟨(h.row.onlyC ho g1).set 2 v', (h.syms.only ho s1).setCell (fun hb => hdis _ hb (by simp)) _, (h.us.only ho u1).setCell (fun hb => gu _ hb rfl) _, r.setCell (fun hb => g2 hb) _, (h.bs.only ho b1).setCell (fun hb => gb _ hb rfl) _, ?_, ?_⟩
 · simp only [List.nodup_cons, List.nodup_append, List.mem_append]
   refine ⟨?_, n2, ⟨hn, n4, fun a ha b hb e => b2 _ hb (e ▸ ha)⟩, ?_⟩
   · rintro (h1 | h1 | h1)
     · exact gu _ h1 rfl
     · exact g2 h1
     · exact gb _ h1 rfl
   · rintro a ha b (hb | hb) e
     · exact u2 _ ha (e ▸ hb)
     · exact n6 _ ha _ (.inr hb) e
 · intro b hb
   have h0 := hdis b hb
   simp only [List.mem_cons, List.mem_append, not_or] at h0 ⊢
   exact ⟨h0.1, h0.2.1, s2 _ hb, h0.2.2.2⟩
theorem Chk.pushB (h : Chk e o xs vl Fl gp st vu vo vb Fu Fo Fb w) {bs : List PBox} {v' : Value} {Fb' : List Nat} (r : (pBoxs 48).rep true w' bs [v'] Fb') (ho : Only Fb w w') (hx : ∀ b ∈ Fb', b ∈ Fb ∨ w.heap.size ≤ b) (hn : Fb'.Nodup) :
 Chk e o xs vl Fl gp { st with boxes := bs } vu vo v' Fu Fo Fb' (w'.setCell ⟨gp, 3, none⟩ v') := by
 have hnd := h.nd
 have hdis := h.dis
 simp only [List.nodup_cons, List.nodup_append, List.mem_append] at hnd
 obtain ⟨n1, n2, ⟨n3, n4, n5⟩, n6⟩ := hnd
 have l1 := h.row.lt
 have l2 : ∀ b ∈ Fu, b < w.heap.size := fun b hb => (bools 4).lt h.us b hb
 have l3 : ∀ b ∈ Fo, b < w.heap.size := fun b hb => (nums 2).lt h.op b hb
 have l4 : ∀ b ∈ Fl, b < w.heap.size := fun b hb => (pSymbols e).lt h.syms b hb
 have g1 : gp ∉ Fb := fun hb => n1 (.inr (.inr hb))
 have g2 : gp ∉ Fb' := fun hb => by rcases hx _ hb with h | h <;> first | exact g1 h | omega
 have u1 : ∀ b ∈ Fu, b ∉ Fb := fun b hb h2 => n6 _ hb _ (.inr h2) rfl
 have u2 : ∀ b ∈ Fu, b ∉ Fb' := fun b hb h2 => by rcases hx _ h2 with h | h <;> first | exact u1 _ hb h | (have := l2 _ hb; omega)
 have b1 : ∀ b ∈ Fo, b ∉ Fb := fun b hb h2 => n5 _ hb _ h2 rfl
 have b2 : ∀ b ∈ Fo, b ∉ Fb' := fun b hb h2 => by rcases hx _ h2 with h | h <;> first | exact b1 _ hb h | (have := l3 _ hb; omega)
 have s1 : ∀ b ∈ Fl, b ∉ Fb := fun b hb h2 => hdis _ hb (by simp [h2])
 have s2 : ∀ b ∈ Fl, b ∉ Fb' := fun b hb h2 => by rcases hx _ h2 with h | h <;> first | exact s1 _ hb h | (have := l4 _ hb; omega)
 have gu : ∀ b ∈ Fu, b ≠ gp := fun b hb e => n1 (.inl (e ▸ hb))
 have gb : ∀ b ∈ Fo, b ≠ gp := fun b hb e => n1 (.inr (.inl (e ▸ hb)))
 refine ⟨(h.row.onlyC ho g1).set 3 v', (h.syms.only ho s1).setCell (fun hb => hdis _ hb (by simp)) _, (h.us.only ho u1).setCell (fun hb => gu _ hb rfl) _, (h.op.only ho b1).setCell (fun hb => gb _ hb rfl) _, r.setCell (fun hb => g2 hb) _, ?_, ?_⟩
 · simp only [List.nodup_cons, List.nodup_append, List.mem_append]
   refine ⟨?_, n2, ⟨n3, hn, fun a ha b hb e => b2 _ ha (e ▸ hb)⟩, ?_⟩
   · rintro (h1 | h1 | h1)
     · exact gu _ h1 rfl
     · exact gb _ h1 rfl
     · exact g2 h1
   · rintro a ha b (hb | hb) e
     · exact n6 _ ha _ (.inl hb) e
     · exact u2 _ ha (e ▸ hb)
 · intro b hb
   have h0 := hdis b hb
   simp only [List.mem_cons, List.mem_append, not_or] at h0 ⊢
   exact ⟨h0.1, h0.2.1, h0.2.2.1, s2 _ hb⟩
end
set_option maxRecDepth 100000 in
set_option maxHeartbeats 8000000 in
theorem impl_node_c {e : TypeId} {o : Bool} {xs : List PSymbol} {vl vu vo vb : Value} {Fl Fu Fo Fb : List Nat} {gp : Nat} {st : ChSt} (n : PNode) (w : World) (h : Chk e o xs vl Fl gp st vu vo vb Fu Fo Fb w) (hc : ChkOk xs st) :
 Calls Try.prog 54 #[.pointer (some ⟨gp, 0, none⟩), .agg #[.int .i64 n.kind, .int .i64 n.a, .int .i64 n.b, .int .i64 n.sign]] w (NodePost e o xs vl Fl gp vu Fu Fo Fb w (stepF xs st n)) := by
 obtain ⟨kind, a, b, sign⟩ := n
 have al2 : Only (gp :: Fu) w ((w.alloc (.cells #[.int .i64 kind, .int .i64 a, .int .i64 b, .int .i64 sign] 76)).alloc (.cells #[.int .i64 0, .int .i64 0, .int .i64 0, .int .i64 0] 48)) := Only.of_below (((Below.refl _ _).alloc (Nat.le_refl _) _).alloc (by simp) _)
 have hlt : ∀ b ∈ gp :: (Fu ++ (Fo ++ Fb)), b < w.heap.size := fun b hb => by
  simp only [List.mem_cons, List.mem_append] at hb
  rcases hb with rfl | hb | hb | hb
  · exact h.row.lt
  · exact (bools 4).lt h.us b hb
  · exact (nums 2).lt h.op b hb
  · exact (pBoxs 48).lt h.bs b hb
 have hltl : ∀ b ∈ Fl, b < w.heap.size := fun b hb => (pSymbols e).lt h.syms b hb
 have J0 : JIn e o xs vl Fl gp st vu vo vb Fu Fo Fb (#[.int .i64 kind, .int .i64 a, .int .i64 b, .int .i64 sign]).toList (#[.int .i64 0, .int .i64 0, .int .i64 0, .int .i64 0]).toList w ((w.alloc (.cells #[.int .i64 kind, .int .i64 a, .int .i64 b, .int .i64 sign] 76)).alloc (.cells #[.int .i64 0, .int .i64 0, .int .i64 0, .int .i64 0] 48)) := by
  refine ⟨(h.alloc _).alloc _, (Row.new w 76 #[.int .i64 kind, .int .i64 a, .int .i64 b, .int .i64 sign]).alloc _, ?_, al2, hlt, hltl⟩
  have R4 := (Row.new (w.alloc (.cells #[.int .i64 kind, .int .i64 a, .int .i64 b, .int .i64 sign] 76)) 48 #[.int .i64 0, .int .i64 0, .int .i64 0, .int .i64 0])
  rwa [show (w.alloc (.cells #[.int .i64 kind, .int .i64 a, .int .i64 b, .int .i64 sign] 76)).heap.size = w.heap.size + 1 by simp] at R4
 have hx8 := hc.few
 have hul := Lib.hid hc.used
 have hbl := hc.bl
 have hopl := Lib.hid hc.opl
 have hsy := Lib.hid hc.sy
 have hm : Try.prog.eqGuardType Try.prog.depth 76 = false := by kernel_rfl
 have okk : ∀ {a b : World}, Only (gp :: Fu) a b → Only (gp :: (Fu ++ (Fo ++ Fb))) a b := fun h => h.mono (fun x hx => by simp only [List.mem_cons, List.mem_append] at hx ⊢; rcases hx with h | h <;> simp [h])
 by_cases h0 : kind = 0
 · subst h0
   by_cases hbs : b = 0 ∧ sign = 0
   · obtain ⟨rfl, rfl⟩ := hbs
     have hq : ∀ w, (binOp .neq 76 (.agg #[.int .i64 0, .int .i64 a, .int .i64 0, .int .i64 0]) (.agg #[.int .i64 0, .int .i64 a, .int .i64 0, .int .i64 0])).run Try.prog w = .ok (.bool false) w := fun w => by
      have := node_neq ⟨0, a, 0, 0⟩ ⟨0, a, 0, 0⟩ w
      simpa using this
     cases hu : useK st.used a with
     | none =>
       have hr : stepF xs st ⟨0, a, 0, 0⟩ = none := by simp [stepF, hu]
       rw [hr]
       have CU := fun w' q => impl_use_c (e := e) (o := o) (xs := xs) (vl := vl) (vu := vu) (vo := vo) (vb := vb) (Fl := Fl) (Fu := Fu) (Fo := Fo) (Fb := Fb) (gp := gp) (st := st) a w' q (by omega) hul.out
       rw [hu] at CU
       have HU := Lib.hid CU
       have hJ := Lib.hid J0
       clear CU hu hr h hc J0
       go_enter Try.func54, Try.ntmps54
       go_wp2_with fail
       refine (HU.out _ hJ.out.chk).mono ?_
       rintro en w1 ⟨rfl, o1, h1⟩
       go_wp2_with fail
       go_ret
       exact ⟨rfl, okk (al2.trans (o1.mono (fun x hx => by simp [hx]))), fun _ h => by cases h⟩
     | some us' =>
       have hin : 0 ≤ a ∧ a < (xs.length : Int) := by
        have := hul.out
        unfold useK at hu
        split at hu
        · rename_i hh; omega
        · cases hu
       obtain ⟨js, rfl⟩ : ∃ n : Nat, a = (n : Int) := ⟨a.toNat, by omega⟩
       have hjl : js < xs.length := by omega
       have hsa : symAt xs (js : Int) = xs[js] := by simp [symAt, List.getD_eq_getElem?_getD, List.getElem?_eq_getElem hjl]
       obtain ⟨X, hXX⟩ : ∃ X, boxOf xs[js] = X := ⟨_, rfl⟩
       have hr : stepF xs st ⟨0, (js : Int), 0, 0⟩ = some ⟨us', st.opn ++ [(st.boxes.length : Int)], st.boxes ++ [X], st.cost⟩ := by simp [stepF, hu, boxNode, hsa, hXX]
       have HXX := Lib.hid hXX
       rw [hr]
       have CU := fun w' q => impl_use_c (e := e) (o := o) (xs := xs) (vl := vl) (vu := vu) (vo := vo) (vb := vb) (Fl := Fl) (Fu := Fu) (Fo := Fo) (Fb := Fb) (gp := gp) (st := st) (js : Int) w' q (by omega) hul.out
       rw [hu] at CU
       have HU := Lib.hid CU
       have hJ := Lib.hid J0
       have hX : boxIn X := hXX ▸ hsy.out _ (List.getElem_mem hjl)
       clear hXX CU hu hr hsa h hc J0
       go_enter Try.func54, Try.ntmps54
       go_wp2_with fail
       refine (HU.out _ hJ.out.chk).mono ?_
       rintro en w1 ⟨rfl, o1, h1⟩
       have J := hJ.out.use o1 h1
       obtain ⟨_, cl, hvl, _, _, hsr⟩ := pSymbols_open J.chk.syms
       subst hvl
       obtain ⟨gs, os, rfl, hgs, hgin, s0, s1, s2, s3, s4, _⟩ := hsr js hjl
       have p0 := J.chk.row.c0
       have k1 := J.r3.c1
       have js0 : (0 : Int) ≤ (js : Int) := by omega
       have js1 : (js : Int) < (xs.length : Int) := by omega
       have hnx : w.heap.size + 1 ≠ gp := fun e => by have := hlt gp (by simp); omega
       have hns : gs ≠ w.heap.size + 1 := fun e => by have := hltl gs hgin; omega
       clear hsr hin s0
       go_wp2_with fail
       have hS : (fun w' : World => w'.cell? ⟨w.heap.size, 1, none⟩ = some (.int .i64 (js : Int)) ∧ w'.cell? ⟨gp, 0, none⟩ = some (.slice (some ⟨gs, os, none⟩) xs.length cl) ∧ w'.cell? ⟨gs, os + js * 5 + 1, none⟩ = some (.int .i64 xs[js].x1) ∧ w'.cell? ⟨gs, os + js * 5 + 2, none⟩ = some (.int .i64 xs[js].y1) ∧ w'.cell? ⟨gs, os + js * 5 + 3, none⟩ = some (.int .i64 xs[js].x2) ∧ w'.cell? ⟨gs, os + js * 5 + 4, none⟩ = some (.int .i64 xs[js].y2)) w1.drew := ⟨k1, p0, s1, s2, s3, s4⟩
       dsimp only at hS
       have c90 := J.r4.c0
       have c91 := J.r4.c1
       have c92 := J.r4.c2
       have c93 := J.r4.c3
       have e90 : w1.drew.cell? ⟨w.heap.size + 1, 0, none⟩ = _ := c90
       have e91 : w1.drew.cell? ⟨w.heap.size + 1, 1, none⟩ = _ := c91
       have e92 : w1.drew.cell? ⟨w.heap.size + 1, 2, none⟩ = _ := c92
       have e93 : w1.drew.cell? ⟨w.heap.size + 1, 3, none⟩ = _ := c93
       have F9 : ∀ i, w1.frozen? ⟨w.heap.size + 1, i, none⟩ = false := J.r4.frozen
       refine wp_region_held_drew (S := (fun w' : World => w'.cell? ⟨w.heap.size, 1, none⟩ = some (.int .i64 (js : Int)) ∧ w'.cell? ⟨gp, 0, none⟩ = some (.slice (some ⟨gs, os, none⟩) xs.length cl) ∧ w'.cell? ⟨gs, os + js * 5 + 1, none⟩ = some (.int .i64 xs[js].x1) ∧ w'.cell? ⟨gs, os + js * 5 + 2, none⟩ = some (.int .i64 xs[js].y1) ∧ w'.cell? ⟨gs, os + js * 5 + 3, none⟩ = some (.int .i64 xs[js].x2) ∧ w'.cell? ⟨gs, os + js * 5 + 4, none⟩ = some (.int .i64 xs[js].y2))) (by kernel_rfl) hS (fun _ => ?_)
       refine tJ 0 hS ?_
       refine tJ 1 hS ?_
       refine tJ 2 hS ?_
       refine tJ 3 hS ?_
       refine tJ 4 hS ?_
       refine tJ 5 hS ?_
       refine tJ 6 hS ?_
       refine tJ 7 hS ?_
       refine tJ 8 hS ?_
       refine rJ 9 fun K hK => ?_
       go_simp
       have o12 := (four_only w1 (w.heap.size + 1) (.int .i64 xs[js].x1) (.int .i64 xs[js].y1) (.int .i64 xs[js].x2) (.int .i64 xs[js].y2)).drew
       have hns' : gs ∉ [w.heap.size + 1] := by simpa using hns
       replace J := (J.set4 rfl (.int .i64 xs[js].x1) (.int .i64 xs[js].y1) (.int .i64 xs[js].x2) (.int .i64 xs[js].y2)).drew
       refine hK.out _ _ ?_ (fun hHeld => ?_)
       · exact ⟨J.r3.c1, J.chk.row.c0, (only_cellC o12 hgs hns').trans s1, (only_cellC o12 hgs hns').trans s2, (only_cellC o12 hgs hns').trans s3, (only_cellC o12 hgs hns').trans s4⟩
       clear hK K hHeld
       refine wpAnyH_done (by kernel_rfl) ?_ _
       generalize ((((w1.setCell ⟨w.heap.size + 1, 0, none⟩ (.int .i64 xs[js].x1)).setCell ⟨w.heap.size + 1, 1, none⟩ (.int .i64 xs[js].y1)).setCell ⟨w.heap.size + 1, 2, none⟩ (.int .i64 xs[js].x2)).setCell ⟨w.heap.size + 1, 3, none⟩ (.int .i64 xs[js].y2)).drew = w2 at J ⊢
       clear o12 c90 c91 c92 c93 e90 e91 e92 e93 F9 hS s1 s2 s3 s4 p0 k1 h1 o1
       replace J : JIn e o xs (.slice (some ⟨gs, os, none⟩) xs.length cl) Fl gp { st with used := us' } vu vo vb Fu Fo Fb [.int .i64 0, .int .i64 (js : Int), .int .i64 0, .int .i64 0] (#[.int .i64 (X).x1, .int .i64 (X).y1, .int .i64 (X).x2, .int .i64 (X).y2]).toList w w2 := by rw [← HXX.out]; exact J
       clear HXX
       have hol0 := hopl.out
       obtain ⟨_, _, Au, cu, Ao, co, Ab, cb, -, rfl, rfl, rfl⟩ := J.chk.shape
       have c2 := J.chk.row.c2
       have c3 := J.chk.row.c3
       have x0 := J.r4.c0
       have x1 := J.r4.c1
       have x2 := J.r4.c2
       have x3 := J.r4.c3
       have hn := J.chk.nd
       simp only [List.nodup_cons, List.nodup_append, List.mem_append] at hn
       have hno := hn.2.2.1.1
       have hnb := hn.2.2.1.2.1
       have hgo : gp ∉ Fo := fun hb => hn.1 (.inr (.inl hb))
       have hgb : gp ∉ Fb := fun hb => hn.1 (.inr (.inr hb))
       have hxo : w.heap.size + 1 ∉ Fo := fun hb => by have := hlt (w.heap.size + 1) (by simp [hb]); omega
       have HOP := Lib.hid J.chk.op
       clear hn
       have hJ := Lib.hid J
       have hXok : pBoxOk X := by unfold boxIn at hX; unfold pBoxOk I64; omega
       have zl : IntKind.i64.wrap (st.boxes.length : Int) = (st.boxes.length : Int) := IntWalk.i64_in _ (by omega)
       have HOL := Lib.hid hol0
       have hszg : gp < w2.heap.size := J.chk.row.lt
       have hszx : w.heap.size + 1 < w2.heap.size := J.r4.lt
       clear hol0 J
       go_wp2_with fail
       go_region_law (refine step_append_repX (T := int64) (e := 2) (xs := st.opn) (v := .slice Ao (st.opn).length co) (F := Fo) (Fy := []) (A := some ⟨w2.heap.size, 0, none⟩) (ec := [.int .i64 (st.boxes.length : Int)]) (ys := [(st.boxes.length : Int)]) (c := 1) (by rfl) (.tmp 44) (.tmp 50) (by rfl) Try.underlying41 infoI rfl (by decide) (by simp [Act.eval]) (by first | exact HOP.out.drew.alloc _ | exact (HOP.out.alloc _).drew) (by simp [Act.eval]) (repL_nums _ (by intro n hn; simp at hn; subst hn; exact ⟨by omega, by omega⟩)) (by first | exact cellsAt_in _ _ _ (by simp) | exact (cellsAt_in w2 2 _ rfl).drewC) (by rw [List.append_nil]; exact hno) (by have := HOL.out; simp only [List.length_singleton, maxLen]; omega) (by have := HOL.out; simp only [List.length_singleton]; omega) ?_; intro v3 w3 F3 r3 o3 q3 p3; obtain ⟨A3, n3, k3, rfl⟩ := slice_form r3; have hz3 := o3.size; simp only [World.size_alloc, World.size_drew] at hz3; have rg3 := (hJ.out.chk.row.alloc (.cells #[.int .i64 (st.boxes.length : Int)] 2)).drew.onlyC o3 hgo; have c23 := rg3.c2; have f23 := rg3.frozen)
       all_goals
        have hmem3 : ∀ b ∈ F3, b ∈ Fo ∨ (w2.alloc (.cells #[.int .i64 (st.boxes.length : Int)] 2)).drew.heap.size ≤ b := by
         have := p3.1
         rwa [List.append_nil] at this
        have K10 := ((hJ.out.chk.alloc (.cells #[.int .i64 (st.boxes.length : Int)] 2)).drew).pushO r3 o3 hmem3 (q3 0 ⟨by simpa using hno, by simp⟩ (Nat.zero_le _)).1
        have X10 := (((hJ.out.r4.alloc (.cells #[.int .i64 (st.boxes.length : Int)] 2)).drew.onlyC o3 hxo).far (p := ⟨gp, 2, none⟩) (by have := hlt gp (by simp); show _ ≠ gp; omega) (.slice A3 n3 k3))
        have on10 : Only (gp :: (Fu ++ (Fo ++ Fb))) w (w3.setCell ⟨gp, 2, none⟩ (.slice A3 n3 k3)) := (((okk hJ.out.on).alloc _).drew.trans (o3.mono (fun x hx => by simp [hx]))).set (by simp) _
        have hmem3' : ∀ b ∈ F3, b ∈ Fo ∨ w.heap.size ≤ b := fun b hb => by
         rcases hmem3 b hb with h | h
         · exact .inl h
         · simp only [World.size_drew, World.size_alloc] at h; exact .inr (by omega)
        clear hmem3 rg3 c23 f23 c2 c3 x0 x1 x2 x3 r3 o3 q3 p3
        have HM3 := Lib.hid hmem3'
        clear hmem3'
        generalize w3.setCell ⟨gp, 2, none⟩ (.slice A3 n3 k3) = w4 at K10 X10 on10 ⊢
        have c3 := K10.row.c3
        have x0 := X10.c0
        have x1 := X10.c1
        have x2 := X10.c2
        have x3 := X10.c3
        have hs4 := on10.size
        have hg4 := K10.row.lt
        have hx4 := X10.lt
        have H10 := Lib.hid K10
        have N10 := Lib.hid on10
        clear K10 on10
        go_wp2_with fail
        go_region_law (refine step_append_repX (T := pBox) (e := 48) (xs := st.boxes) (v := .slice Ab st.boxes.length cb) (F := Fb) (Fy := []) (A := some ⟨w4.heap.size, 0, none⟩) (ec := pBoxCells X) (ys := [X]) (c := 1) (by rfl) (.tmp 58) (.tmp 60) (by rfl) Try.underlying38 infoBox rfl (by decide) (by simp [Act.eval]) (by first | exact H10.out.bs.drew.alloc _ | exact (H10.out.bs.alloc _).drew) (by simp [Act.eval]) (repL_single.2 (pBox_rep.2 ⟨rfl, rfl, hXok.1, hXok.2.1, hXok.2.2.1, hXok.2.2.2⟩)) (by first | exact cellsAt_in _ _ _ (by simp) | exact (cellsAt_in w4 48 _ rfl).drewC) (by rw [List.append_nil]; exact hnb) (by simp only [List.length_singleton, maxLen]; omega) (by simp only [List.length_singleton]; omega) ?_; intro v5 w5 F5 r5 o5 q5 p5; obtain ⟨A5, n5, k5, rfl⟩ := slice_form r5; have hz5 := o5.size; simp only [World.size_alloc, World.size_drew] at hz5; have rg5 := (H10.out.row.alloc (.cells (pBoxCells X).toArray 48)).drew.onlyC o5 hgb; have c53 := rg5.c3; have f53 := rg5.frozen)
        all_goals
         have hmem5 : ∀ b ∈ F5, b ∈ Fb ∨ (w4.alloc (.cells (pBoxCells X).toArray 48)).drew.heap.size ≤ b := by
          have := p5.1
          rwa [List.append_nil] at this
         have K11 := ((H10.out.alloc (.cells (pBoxCells X).toArray 48)).drew).pushB r5 o5 hmem5 (q5 0 ⟨by simpa using hnb, by simp⟩ (Nat.zero_le _)).1
         have on11 : Only (gp :: (Fu ++ (Fo ++ Fb))) w (w5.setCell ⟨gp, 3, none⟩ (.slice A5 n5 k5)) := ((N10.out.alloc _).drew.trans (o5.mono (fun x hx => by simp [hx]))).set (by simp) _
         have hmem5' : ∀ b ∈ F5, b ∈ Fb ∨ w.heap.size ≤ b := fun b hb => by
          rcases hmem5 b hb with h | h
          · exact .inl h
          · simp only [World.size_drew, World.size_alloc] at h; exact .inr (by omega)
         have HM5 := Lib.hid hmem5'
         have H11 := Lib.hid K11
         have N11 := Lib.hid on11
         clear hmem5 hmem5' rg5 c53 f53 c3 x0 x1 x2 x3 r5 o5 q5 p5 K11 on11
         go_wp2_with fail
         go_ret
         refine ⟨rfl, N11.out, fun st' hst => ?_⟩
         cases hst
         refine ⟨_, _, _, _, H11.out, fun b hb => ?_⟩
         rcases List.mem_append.1 hb with hb | hb
         · rcases HM3.out b hb with h | h
           · exact .inl (List.mem_append.2 (.inl h))
           · exact .inr h
         · rcases HM5.out b hb with h | h
           · exact .inl (List.mem_append.2 (.inr h))
           · exact .inr h
   · have hr : stepF xs st ⟨0, a, b, sign⟩ = none := by simp [stepF, hbs]
     rw [hr]
     have hq : ∀ w, (binOp .neq 76 (.agg #[.int .i64 0, .int .i64 a, .int .i64 b, .int .i64 sign]) (.agg #[.int .i64 0, .int .i64 a, .int .i64 0, .int .i64 0])).run Try.prog w = .ok (.bool true) w := fun w => by
      have := node_neq ⟨0, a, b, sign⟩ ⟨0, a, 0, 0⟩ w
      simpa [hbs] using this
     clear hr hbs h hc J0
     go_enter Try.func54, Try.ntmps54
     go_wp2_with fail
     go_ret
     exact ⟨rfl, okk al2, fun _ h => by cases h⟩
 · have g0 : (kind == 0) = false := by simp [h0]
   rw [stepF_join xs st ⟨kind, a, b, sign⟩ h0]
   have CJ := fun w' q => impl_join_c (e := e) (o := o) (xs := xs) (vl := vl) (vu := vu) (vo := vo) (vb := vb) (Fl := Fl) (Fu := Fu) (Fo := Fo) (Fb := Fb) (gp := gp) (st := st) ⟨kind, a, b, sign⟩ h0 w' q hc
   dsimp only at CJ
   have hjo := fun (p : ChSt × PBox) (hp : joinF xs st ⟨kind, a, b, sign⟩ = some p) => joinF_ok hc hp
   cases hj : joinF xs st ⟨kind, a, b, sign⟩ with
   | none =>
     rw [hj] at CJ
     have HJ := Lib.hid CJ
     have hJ := Lib.hid J0
     clear CJ hj h hc J0 h0 hjo
     go_enter Try.func54, Try.ntmps54
     go_wp2_with fail
     refine (HJ.out _ hJ.out.chk).mono ?_
     rintro en w1 ⟨o1, bx, hen⟩
     have hen' : en = .returned (.tuple #[.agg #[.int .i64 (bx).x1, .int .i64 (bx).y1, .int .i64 (bx).x2, .int .i64 (bx).y2], .bool false]) := hen
     subst hen'
     clear hen
     go_wp2_with fail
     go_ret
     exact ⟨rfl, (okk (hJ.out.on.trans o1)).alloc _, fun _ h => by cases h⟩
   | some p =>
     obtain ⟨st1, X⟩ := p
     rw [hj] at CJ
     obtain ⟨hX, hbx1, hol1⟩ := hjo _ hj
     dsimp only at hX hbx1 hol1
     have HJ := Lib.hid CJ
     have hJ := Lib.hid J0
     obtain ⟨us1, op1, bs1, co1⟩ := st1
     dsimp only at hbx1 hol1
     subst hbx1
     show Calls Try.prog 54 _ w (NodePost e o xs vl Fl gp vu Fu Fo Fb w (some ⟨us1, op1 ++ [(st.boxes.length : Int)], st.boxes ++ [X], co1⟩))
     clear CJ hj h hc J0 h0 hjo
     go_enter Try.func54, Try.ntmps54
     go_wp2_with fail
     refine (HJ.out _ hJ.out.chk).mono ?_
     rintro en w1 ⟨o1, hen, vo1, h1⟩
     have hen' : en = .returned (.tuple #[.agg #[.int .i64 (X).x1, .int .i64 (X).y1, .int .i64 (X).x2, .int .i64 (X).y2], .bool true]) := hen
     subst hen'
     have J := hJ.out.joined o1 h1
     clear hen h1 o1
     have c90 := J.r4.c0
     have c91 := J.r4.c1
     have c92 := J.r4.c2
     have c93 := J.r4.c3
     have F9 : ∀ i, w1.frozen? ⟨w.heap.size + 1, i, none⟩ = false := J.r4.frozen
     have hs1 : w.heap.size + 1 < w1.heap.size := J.r4.lt
     go_upto_region 10 with fail
     replace J := (J.set4 rfl (.int .i64 X.x1) (.int .i64 X.y1) (.int .i64 X.x2) (.int .i64 X.y2)).alloc (.cells #[.int .i64 (X).x1, .int .i64 (X).y1, .int .i64 (X).x2, .int .i64 (X).y2] 48)
     generalize (((((w1.setCell ⟨w.heap.size + 1, 0, none⟩ (.int .i64 X.x1)).setCell ⟨w.heap.size + 1, 1, none⟩ (.int .i64 X.y1)).setCell ⟨w.heap.size + 1, 2, none⟩ (.int .i64 X.x2)).setCell ⟨w.heap.size + 1, 3, none⟩ (.int .i64 X.y2)).alloc (.cells #[.int .i64 (X).x1, .int .i64 (X).y1, .int .i64 (X).x2, .int .i64 (X).y2] 48)) = w2 at J ⊢
     clear c90 c91 c92 c93 F9 hs1
     have hol0 : op1.length ≤ 16 := by have := hopl.out; omega
     obtain ⟨_, _, Au, cu, Ao, co, Ab, cb, -, rfl, rfl, rfl⟩ := J.chk.shape
     have c2 := J.chk.row.c2
     have c3 := J.chk.row.c3
     have x0 := J.r4.c0
     have x1 := J.r4.c1
     have x2 := J.r4.c2
     have x3 := J.r4.c3
     have hn := J.chk.nd
     simp only [List.nodup_cons, List.nodup_append, List.mem_append] at hn
     have hno := hn.2.2.1.1
     have hnb := hn.2.2.1.2.1
     have hgo : gp ∉ Fo := fun hb => hn.1 (.inr (.inl hb))
     have hgb : gp ∉ Fb := fun hb => hn.1 (.inr (.inr hb))
     have hxo : w.heap.size + 1 ∉ Fo := fun hb => by have := hlt (w.heap.size + 1) (by simp [hb]); omega
     have HOP := Lib.hid J.chk.op
     clear hn
     have hJ := Lib.hid J
     have hXok : pBoxOk X := by unfold boxIn at hX; unfold pBoxOk I64; omega
     have zl : IntKind.i64.wrap (st.boxes.length : Int) = (st.boxes.length : Int) := IntWalk.i64_in _ (by omega)
     have HOL := Lib.hid hol0
     have hszg : gp < w2.heap.size := J.chk.row.lt
     have hszx : w.heap.size + 1 < w2.heap.size := J.r4.lt
     clear hol0 J
     go_region_law (refine step_append_repX (T := int64) (e := 2) (xs := op1) (v := .slice Ao (op1).length co) (F := Fo) (Fy := []) (A := some ⟨w2.heap.size, 0, none⟩) (ec := [.int .i64 (st.boxes.length : Int)]) (ys := [(st.boxes.length : Int)]) (c := 1) (by rfl) (.tmp 44) (.tmp 50) (by rfl) Try.underlying41 infoI rfl (by decide) (by simp [Act.eval]) (by first | exact HOP.out.drew.alloc _ | exact (HOP.out.alloc _).drew) (by simp [Act.eval]) (repL_nums _ (by intro n hn; simp at hn; subst hn; exact ⟨by omega, by omega⟩)) (by first | exact cellsAt_in _ _ _ (by simp) | exact (cellsAt_in w2 2 _ rfl).drewC) (by rw [List.append_nil]; exact hno) (by have := HOL.out; simp only [List.length_singleton, maxLen]; omega) (by have := HOL.out; simp only [List.length_singleton]; omega) ?_; intro v3 w3 F3 r3 o3 q3 p3; obtain ⟨A3, n3, k3, rfl⟩ := slice_form r3; have hz3 := o3.size; simp only [World.size_alloc, World.size_drew] at hz3; have rg3 := (hJ.out.chk.row.alloc (.cells #[.int .i64 (st.boxes.length : Int)] 2)).drew.onlyC o3 hgo; have c23 := rg3.c2; have f23 := rg3.frozen)
     all_goals
      have hmem3 : ∀ b ∈ F3, b ∈ Fo ∨ (w2.alloc (.cells #[.int .i64 (st.boxes.length : Int)] 2)).drew.heap.size ≤ b := by
       have := p3.1
       rwa [List.append_nil] at this
      have K10 := ((hJ.out.chk.alloc (.cells #[.int .i64 (st.boxes.length : Int)] 2)).drew).pushO r3 o3 hmem3 (q3 0 ⟨by simpa using hno, by simp⟩ (Nat.zero_le _)).1
      have X10 := (((hJ.out.r4.alloc (.cells #[.int .i64 (st.boxes.length : Int)] 2)).drew.onlyC o3 hxo).far (p := ⟨gp, 2, none⟩) (by have := hlt gp (by simp); show _ ≠ gp; omega) (.slice A3 n3 k3))
      have on10 : Only (gp :: (Fu ++ (Fo ++ Fb))) w (w3.setCell ⟨gp, 2, none⟩ (.slice A3 n3 k3)) := (((okk hJ.out.on).alloc _).drew.trans (o3.mono (fun x hx => by simp [hx]))).set (by simp) _
      have hmem3' : ∀ b ∈ F3, b ∈ Fo ∨ w.heap.size ≤ b := fun b hb => by
       rcases hmem3 b hb with h | h
       · exact .inl h
       · simp only [World.size_drew, World.size_alloc] at h; exact .inr (by omega)
      clear hmem3 rg3 c23 f23 c2 c3 x0 x1 x2 x3 r3 o3 q3 p3
      have HM3 := Lib.hid hmem3'
      clear hmem3'
      generalize w3.setCell ⟨gp, 2, none⟩ (.slice A3 n3 k3) = w4 at K10 X10 on10 ⊢
      have c3 := K10.row.c3
      have x0 := X10.c0
      have x1 := X10.c1
      have x2 := X10.c2
      have x3 := X10.c3
      have hs4 := on10.size
      have hg4 := K10.row.lt
      have hx4 := X10.lt
      have H10 := Lib.hid K10
      have N10 := Lib.hid on10
      clear K10 on10
      go_wp2_with fail
      go_region_law (refine step_append_repX (T := pBox) (e := 48) (xs := st.boxes) (v := .slice Ab st.boxes.length cb) (F := Fb) (Fy := []) (A := some ⟨w4.heap.size, 0, none⟩) (ec := pBoxCells X) (ys := [X]) (c := 1) (by rfl) (.tmp 58) (.tmp 60) (by rfl) Try.underlying38 infoBox rfl (by decide) (by simp [Act.eval]) (by first | exact H10.out.bs.drew.alloc _ | exact (H10.out.bs.alloc _).drew) (by simp [Act.eval]) (repL_single.2 (pBox_rep.2 ⟨rfl, rfl, hXok.1, hXok.2.1, hXok.2.2.1, hXok.2.2.2⟩)) (by first | exact cellsAt_in _ _ _ (by simp) | exact (cellsAt_in w4 48 _ rfl).drewC) (by rw [List.append_nil]; exact hnb) (by simp only [List.length_singleton, maxLen]; omega) (by simp only [List.length_singleton]; omega) ?_; intro v5 w5 F5 r5 o5 q5 p5; obtain ⟨A5, n5, k5, rfl⟩ := slice_form r5; have hz5 := o5.size; simp only [World.size_alloc, World.size_drew] at hz5; have rg5 := (H10.out.row.alloc (.cells (pBoxCells X).toArray 48)).drew.onlyC o5 hgb; have c53 := rg5.c3; have f53 := rg5.frozen)
      all_goals
       have hmem5 : ∀ b ∈ F5, b ∈ Fb ∨ (w4.alloc (.cells (pBoxCells X).toArray 48)).drew.heap.size ≤ b := by
        have := p5.1
        rwa [List.append_nil] at this
       have K11 := ((H10.out.alloc (.cells (pBoxCells X).toArray 48)).drew).pushB r5 o5 hmem5 (q5 0 ⟨by simpa using hnb, by simp⟩ (Nat.zero_le _)).1
       have on11 : Only (gp :: (Fu ++ (Fo ++ Fb))) w (w5.setCell ⟨gp, 3, none⟩ (.slice A5 n5 k5)) := ((N10.out.alloc _).drew.trans (o5.mono (fun x hx => by simp [hx]))).set (by simp) _
       have hmem5' : ∀ b ∈ F5, b ∈ Fb ∨ w.heap.size ≤ b := fun b hb => by
        rcases hmem5 b hb with h | h
        · exact .inl h
        · simp only [World.size_drew, World.size_alloc] at h; exact .inr (by omega)
       have HM5 := Lib.hid hmem5'
       have H11 := Lib.hid K11
       have N11 := Lib.hid on11
       clear hmem5 hmem5' rg5 c53 f53 c3 x0 x1 x2 x3 r5 o5 q5 p5 K11 on11
       go_wp2_with fail
       go_ret
       refine ⟨rfl, N11.out, fun st' hst => ?_⟩
       cases hst
       refine ⟨_, _, _, _, H11.out, fun b hb => ?_⟩
       rcases List.mem_append.1 hb with hb | hb
       · rcases HM3.out b hb with h | h
         · exact .inl (List.mem_append.2 (.inl h))
         · exact .inr h
       · rcases HM5.out b hb with h | h
         · exact .inl (List.mem_append.2 (.inr h))
         · exact .inr h
end Go.Proofs.Ytmopioaojdlnkaa
