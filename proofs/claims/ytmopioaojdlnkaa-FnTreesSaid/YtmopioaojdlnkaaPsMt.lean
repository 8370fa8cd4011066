/- What is told of the best tree and of the number of trees; the reference tells it. Conditions: none. -/
import Derived.Test.YtmopioaojdlnkaaTkt
import Derived.Test.YtmopioaojdlnkaaPsJt
import Derived.Test.YtmopioaojdlnkaaSymst
import Derived.Test.YtmopioaojdlnkaaPtCt
import Derived.Test.YtmopioaojdlnkaaPtDt
namespace Go.Proofs.Ytmopioaojdlnkaa
open Go Go.RowKit
def parseC (xs : List PSymbol) : Int := if symsOkB xs = true then (if manyT xs = 0 then 6 else 0) else 1
def parseN (xs : List PSymbol) : List PNode := if parseC xs = 0 then bestT xs else []
def parseL (xs : List PSymbol) : Int := if parseC xs = 0 then leastT xs else 0
def countN (xs : List PSymbol) : Int := if symsOkB xs = true then (manyT xs : Int) else 0
def countC (xs : List PSymbol) : Int := if symsOkB xs = true then 0 else 1
def GivesT (ns : List PNode) (c k : Int) (w : World) (en : Ending) (w' : World) : Prop :=
 ∃ v G, en = .returned (.tuple #[.agg #[v], .int .i64 c, .int .i64 k]) ∧ (pNodes 76).rep true w' ns [v] G ∧ Fresh w.heap.size G ∧ Below w.heap.size w w'
theorem grd_of {xs : List PSymbol} (h : symsOkB xs = true) : Grd xs (2 ^ xs.length) := by
 unfold symsOkB at h
 rw [Bool.and_eq_true, decide_eq_true_iff, List.all_eq_true] at h
 refine ⟨h.2, rfl, fun i hi => ?_⟩
 have := h.1 _ (List.getElem_mem hi)
 unfold symOkB at this
 rw [Bool.and_eq_true] at this
 rw [sbox_at hi]
 exact boxIn_ok this.2
section
variable {xs : List PSymbol} {N : Nat}
theorem all_ways {K : Nat → RC} (g : Grd xs N) (hk : RcOk xs K N) : (K (N - 1)).ways = (manyT xs : Int) := by
 unfold manyT
 by_cases h0 : xs.length = 0
 · rw [if_pos h0, g.size, h0]
   show (K 0).ways = _
   rw [hk.zero]; rfl
 · rw [if_neg h0]
   have hp := full_pos (n := xs.length) h0
   rw [← g.size] at hp ⊢
   exact (hk.is (N - 1) hp.2 hp.1).1
theorem all_ne (g : Grd xs N) (h : manyT xs ≠ 0) : N - 1 ≠ 0 ∧ N - 1 < N ∧ (cellAt xs (N - 1)).ways ≠ 0 := by
 unfold manyT at h
 by_cases h0 : xs.length = 0
 · rw [if_pos h0] at h; exact absurd rfl h
 · rw [if_neg h0] at h
   have hp := full_pos (n := xs.length) h0
   rw [← g.size] at hp h
   exact ⟨hp.1, hp.2, h⟩
theorem all_cost {K : Nat → RC} (g : Grd xs N) (hk : RcOk xs K N) (h : manyT xs ≠ 0) : (K (N - 1)).cost = leastT xs := by
 obtain ⟨h1, h2, h3⟩ := all_ne g h
 unfold leastT
 rw [← g.size]
 exact ((hk.is (N - 1) h2 h1).2 h3).1
end
theorem nodes_nil (w : World) (e : TypeId) : (pNodes e).rep true (w.alloc (.cells #[] e)) [] [.slice (some ⟨w.heap.size, 0, none⟩) 0 0] [w.heap.size] := slice_of_row (xs := []) (Row.new w _ #[]) ⟨rfl, rfl⟩ (by simp)
theorem cell_far1 {w : World} {b o g s : Nat} (h : b ≠ g) (y : Value) : (w.setCell ⟨g, s, none⟩ y).cell? ⟨b, o, none⟩ = w.cell? ⟨b, o, none⟩ := World.cell?_of_block (Below.heap_setCell w ⟨g, s, none⟩ y b h)
set_option maxRecDepth 100000 in
set_option maxHeartbeats 4000000 in
theorem spec_ParseSymbols_c {e : TypeId} {ob : Bool} {xs : List PSymbol} {vl : Value} {Fl : List Nat} (w : World) (h : (pSymbols e).rep ob w xs [vl] Fl) (hx : xs.length ≤ 1048576) (hsz : ∀ c ∈ xs, c.label.size ≤ 1048576) :
 Calls Try.prog 8 #[vl] w (GivesT (parseN xs) (parseL xs) (parseC xs) w) := by
 have RT := Row.new w 28 #[.slice none 0 0]
 have CV := Lib.hid (spec_l20Ok_c _ (h.alloc (.cells #[.slice none 0 0] 28)) hx hsz)
 have HA := Lib.hid (h.alloc (.cells #[.slice none 0 0] 28))
 have B0 : Below w.heap.size w (w.alloc (.cells #[.slice none 0 0] 28)) := (Below.refl _ _).alloc (Nat.le_refl _) _
 have hFl : ∀ b ∈ Fl, b < w.heap.size := fun b hb => (pSymbols e).lt h b hb
 obtain ⟨A, c, rfl⟩ := slice_len h
 clear h
 cases hok : symsOkB xs with
 | false =>
   rw [hok] at CV
   have hC : parseC xs = 1 := by unfold parseC; rw [hok]; rfl
   have HC : Hid (parseN xs = [] ∧ parseL xs = 0) := Lib.hid ⟨by unfold parseN; rw [hC]; rfl, by unfold parseL; rw [hC]; rfl⟩
   rw [hC]
   clear hok hC
   go_enter Try.func8, Try.ntmps8
   go_wp2_with fail
   refine CV.out.mono ?_
   rintro en w1 ⟨rfl, b1⟩
   replace RT := RT.later b1
   have t0 := RT.c0
   have tF := RT.frozen
   have R2 := RT.set 0 (.slice none 0 0)
   have d0 := R2.c0
   go_wp2_with fail
   refine bodyPost_ret (v := .tuple #[.agg #[.slice none 0 0], .int .i64 0, .int .i64 1]) (by simp [results, Try.results8, go_sem, d0]) rfl ⟨_, [], by rw [HC.out.2], by rw [HC.out.1]; exact slice_nil _ _ _ _, Fresh.nil _, ?_⟩
   exact (B0.trans (b1.mono B0.size)).setCell (Nat.le_refl _) _
 | true =>
   rw [hok] at CV
   have g := grd_of hok
   have hN := g.le
   have HO := Lib.hid hok
   obtain ⟨N, hNe⟩ : ∃ N, 2 ^ xs.length = N := ⟨_, rfl⟩
   rw [hNe] at g hN
   have hN1 : 1 ≤ N := by rw [← hNe]; exact Nat.one_le_two_pow
   have G := Lib.hid g
   clear hok g hNe
   go_enter Try.func8, Try.ntmps8
   go_wp2_with fail
   refine CV.out.mono ?_
   rintro en w1 ⟨rfl, b1⟩
   replace RT := RT.later b1
   have B1 := B0.trans (b1.mono B0.size)
   have hs0 : w.heap.size + 1 ≤ w1.heap.size := by have := b1.size; simpa using this
   have CF := Lib.hid (spec_l21Fill_c w1 (HA.out.below b1) G.out)
   go_wp2_with fail
   refine CF.out.mono ?_
   rintro en w2 ⟨gp, gc, K, rfl, hch, hk, b2, hgp, hgc⟩
   replace RT := RT.later b2
   have B2 := B1.trans (b2.mono B1.size)
   have hway := all_ways G.out hk
   have HCH := Lib.hid hch
   have HK := Lib.hid hk
   have p1 := hch.row.c1
   obtain ⟨-, -, -, -, m4, m5, -⟩ := hch.cell (s := N - 1) (by omega)
   rw [hway] at m4
   have kw : IntKind.i64.wrap ((N : Int) - 1) = ((N - 1 : Nat) : Int) := by rw [IntWalk.i64_in _ (by omega)]; omega
   have hs1 := B1.size
   have hs2 := b2.size
   have hlg := hch.row.lt
   have hlc := hch.cells.lt
   clear hway hch hk
   have i1 : (0 : Int) ≤ ((N - 1 : Nat) : Int) := by omega
   have i2 : ((N - 1 : Nat) : Int) < (N : Int) := by omega
   by_cases hm : manyT xs = 0
   · have hC : parseC xs = 6 := by unfold parseC; rw [HO.out, if_pos rfl, if_pos hm]
     have HC : Hid (parseN xs = [] ∧ parseL xs = 0 ∧ parseC xs = 6) := Lib.hid ⟨by unfold parseN; rw [hC]; rfl, by unfold parseL; rw [hC]; rfl, hC⟩
     rw [hm] at m4
     clear hC hm
     obtain ⟨M, hM⟩ : ∃ M, N - 1 = M := ⟨_, rfl⟩
     rw [hM] at kw m4 m5 i1 i2
     have t0 := RT.c0
     have tF := RT.frozen
     have R2 := RT.set 0 (.slice none 0 0)
     have d0 := R2.c0
     clear hM
     go_wp2_with fail
     refine bodyPost_ret (v := .tuple #[.agg #[.slice none 0 0], .int .i64 0, .int .i64 6]) (by simp [results, Try.results8, go_sem, d0]) rfl ⟨_, [], by rw [HC.out.2.1, HC.out.2.2], by rw [HC.out.1]; exact slice_nil _ _ _ _, Fresh.nil _, ?_⟩
     exact B2.setCell (Nat.le_refl _) _
   · have hC : parseC xs = 0 := by unfold parseC; rw [HO.out, if_pos rfl, if_neg hm]
     have HC : Hid (parseN xs = bestT xs ∧ parseL xs = leastT xs ∧ parseC xs = 0) := Lib.hid ⟨by unfold parseN; rw [hC]; rfl, by unfold parseL; rw [hC]; rfl, hC⟩
     obtain ⟨n1, n2, n3⟩ := all_ne G.out hm
     have hcost := all_cost G.out HK.out hm
     rw [hcost] at m5
     have y1 : ((manyT xs : Int) == 0) = false := by simp only [beq_eq_false_iff_ne]; omega
     have hbest : bestT xs = (treeAt xs (N - 1)).nodes 0 := by unfold bestT; rw [G.out.size]
     have hts := treeAt_sz G.out.few n1 (by rw [← G.out.size]; exact n2) n3
     have HB := Lib.hid hbest
     have EMP := nodes_nil w2 76
     have CT := spec_ctree_c (e := e) (ob := ob) (vl := .slice A xs.length c) (Fl := Fl) (gp := gp) (gc := gc) (B := w2.heap.size) G.out HK.out hlg hlc (fun b hb => by have := hFl b hb; omega) (N - 1) n1 n2 n3 [] (.slice (some ⟨w2.heap.size, 0, none⟩) 0 0) [w2.heap.size] _ (HCH.out.alloc (.cells #[] 76)) EMP ⟨by simp, by simp⟩ (by simp) (by simp; omega)
     have HCT := Lib.hid CT
     obtain ⟨M, hM⟩ : ∃ M, N - 1 = M := ⟨_, rfl⟩
     rw [hM] at kw m4 m5 i1 i2 HCT HB n2
     clear hC hm hcost hbest EMP CT hM n1 n3 hts
     go_wp2_with fail
     refine HCT.out.mono ?_
     rintro en w3 ⟨v3, F3, rfl, r3, o3, q3, z3⟩
     have H3 := HCH.out.only (B := w2.heap.size) ((Only.of_below (Below.refl w2.heap.size w2)).trans (only_new' (Only.refl _ _) o3)) (by simp) hlg hlc (fun b hb => by have := hFl b hb; omega)
     have p3 := H3.row.c1
     obtain ⟨-, -, -, -, -, m5', -⟩ := H3.cell (s := M) (by omega)
     have b3 : Below w2.heap.size w2 w3 := (only_new' (Only.refl _ w2) o3).below (Nat.le_refl _) (by simp)
     replace m5 : w3.cell? ⟨gc, M * 10 + 5, none⟩ = some (.int .i64 (leastT xs)) := (b3.cell (p := ⟨gc, _, none⟩) hlc).trans m5
     have R3 := Lib.hid r3
     have F3' := Lib.hid (q3 w2.heap.size ⟨by simp, by simp⟩ (by simp))
     replace RT := RT.later b3
     have B3 := B2.trans (b3.mono B2.size)
     clear o3 q3 z3 m5' m4 p1
     obtain ⟨A3, n3, c3, rfl⟩ : ∃ A n c, v3 = .slice A n c := by
      obtain ⟨A, c, h⟩ := slice_len r3
      exact ⟨_, _, _, h⟩
     clear r3
     have gne : gp ≠ w.heap.size := by omega
     have cne : gc ≠ w.heap.size := by omega
     have t0 := RT.c0
     have tF := RT.frozen
     go_upto_region 8 with fail
     have hS : (fun w' : World => w'.cell? ⟨gp, 1, none⟩ = some (.slice (some ⟨gc, 0, none⟩) N N) ∧ w'.cell? ⟨gc, M * 10 + 5, none⟩ = some (.int .i64 (leastT xs))) w3.drew := ⟨p3, m5⟩
     dsimp only at hS
     refine wp_region_held_drew (S := (fun w' : World => w'.cell? ⟨gp, 1, none⟩ = some (.slice (some ⟨gc, 0, none⟩) N N) ∧ w'.cell? ⟨gc, M * 10 + 5, none⟩ = some (.int .i64 (leastT xs)))) (by kernel_rfl) hS (fun _ => ?_)
     refine tJ 0 hS ?_
     refine tJ 1 hS ?_
     refine tJ 2 hS ?_
     refine tJ 3 hS ?_
     refine tJ 4 hS ?_
     refine tJ 5 hS ?_
     refine tJ 6 hS ?_
     refine tJ 7 hS ?_
     refine tJ 8 hS ?_
     refine tJ 9 hS ?_
     refine rJ 10 fun K hK => ?_
     go_simp
     refine hK.out _ _ ?_ (fun hHeld => ?_)
     · exact ⟨(cell_far1 gne _).trans p3, (cell_far1 cne _).trans m5⟩
     clear hK K hHeld
     replace hS : (fun w' : World => w'.cell? ⟨gp, 1, none⟩ = some (.slice (some ⟨gc, 0, none⟩) N N) ∧ w'.cell? ⟨gc, M * 10 + 5, none⟩ = some (.int .i64 (leastT xs))) ((w3.drew).setCell ⟨w.heap.size, 0, none⟩ (.slice A3 n3 c3)) := ⟨(cell_far1 gne _).trans p3, (cell_far1 cne _).trans m5⟩
     refine tJ 11 hS ?_
     refine tJ 12 hS ?_
     refine wpAnyH_done (by kernel_rfl) ?_ _
     have R4 := RT.set 0 (.slice A3 n3 c3)
     have d0 := R4.c0
     clear hS p3 m5 t0 tF
     go_wp2_with fail
     refine bodyPost_ret (v := .tuple #[.agg #[.slice A3 n3 c3], .int .i64 (leastT xs), .int .i64 0]) (by simp [results, Try.results8, go_sem, d0]) rfl ⟨_, F3, by rw [HC.out.2.1, HC.out.2.2], ?_, F3'.out.mono (by omega), (B3.setCell (Nat.le_refl _) _).drew⟩
     rw [HC.out.1, HB.out]
     exact (R3.out.setCell (fun hb => by have := F3'.out.2 _ hb; simp at this; omega) _).drew
theorem orL_cons (x : Int) (r : List Int) : orL (x :: r) = if x ≠ 0 then x else orL r := by
 unfold orL
 by_cases h : x = 0
 · rw [List.find?_cons_of_neg (by simp [h]), if_neg (by simp [h])]
 · rw [List.find?_cons_of_pos (by simp [h]), if_pos h]; rfl
theorem cmp_or (a b r : Int) : (if cmpI a b ≠ 0 then cmpI a b else r) < 0 ↔ a < b ∨ a = b ∧ r < 0 := by
 unfold cmpI
 by_cases h1 : a < b
 · rw [if_pos h1]; simp [h1]
 · rw [if_neg h1]
   by_cases h2 : b < a
   · rw [if_pos h2]; simp; omega
   · rw [if_neg h2]; simp; omega
theorem ordC_lt (xk xs xa xc yk ys ya yc : Int) : ordC xk xs xa xc yk ys ya yc < 0 ↔ xc < yc ∨ xc = yc ∧ (xk < yk ∨ xk = yk ∧ (xs < ys ∨ xs = ys ∧ xa < ya)) := by
 unfold ordC
 rw [orL_cons, orL_cons, orL_cons, orL_cons, cmp_or, cmp_or, cmp_or, cmp_or]
 have : ¬ orL [] < 0 := by unfold orL; decide
 constructor
 · rintro (h | ⟨h, h2 | ⟨h2, h3 | ⟨h3, h4 | ⟨_, h5⟩⟩⟩⟩)
   · exact .inl h
   · exact .inr ⟨h, .inl h2⟩
   · exact .inr ⟨h, .inr ⟨h2, .inl h3⟩⟩
   · exact .inr ⟨h, .inr ⟨h2, .inr ⟨h3, h4⟩⟩⟩
   · exact absurd h5 this
 · rintro (h | ⟨h, h2 | ⟨h2, h3 | ⟨h3, h4⟩⟩⟩)
   · exact .inl h
   · exact .inr ⟨h, .inl h2⟩
   · exact .inr ⟨h, .inr ⟨h2, .inl h3⟩⟩
   · exact .inr ⟨h, .inr ⟨h2, .inr ⟨h3, .inl h4⟩⟩⟩
section
variable {xs : List PSymbol} {K : Nat → RC} {s N : Nat} {o : Opt} {m : Cell}
theorem hand_eqI (hk : RcOk xs K s) (hs : s < 2 ^ xs.length) (h1 : s ≠ 2 ^ s.log2) (ho : IsOpt xs s o) :
 waysR (K o.a) (K o.b) (o.b : Int) = (waysO (cellAt xs) o : Int) ∧ fitsF o.kind (K o.a).box (if (o.b : Int) = 0 then (K o.a).box else (K o.b).box) (handS xs o) = fitO xs o ∧
  (waysO (cellAt xs) o ≠ 0 → (K o.a).cost + (if (o.b : Int) = 0 then 0 else (K o.b).cost) + ownF o.kind (K o.a).box (if (o.b : Int) = 0 then (K o.a).box else (K o.b).box) (handS xs o) = costO xs (cellAt xs) o) := by
 have n1 := not_single h1
 have hb := opt_bits xs ho n1
 have hlt := opt_lt xs ho n1
 obtain ⟨e1, e2, e3, e4⟩ := hand_eq hk hs h1 ho
 have kd := isOpt_kind ho
 have ba := hk.box o.a hlt.1 hb.1
 by_cases h0 : o.b = 0
 · have h5 : o.kind = 5 := by
    rcases Classical.em (o.kind = 5) with h | h
    · exact h
    · exact absurd h0 (hb.2.1 h)
   have hi : (o.b : Int) = 0 := by omega
   rw [if_pos hi, if_pos hi]
   have f5 : fitsF o.kind (K o.a).box (K o.a).box (handS xs o) = fitO xs o := by rw [← e2, h5]; exact fitsF_root _ _ _ _
   have o5 : ownF o.kind (K o.a).box (K o.a).box (handS xs o) = ownO xs o := by rw [← e3, h5]; exact ownF_root _ _ _ _
   refine ⟨e1, f5, fun hw => ?_⟩
   obtain ⟨c1, c2⟩ := e4 hw
   unfold costO
   rw [o5, c1, if_pos h0]
 · have hi : ¬ (o.b : Int) = 0 := by omega
   rw [if_neg hi, if_neg hi]
   refine ⟨e1, e2, fun hw => ?_⟩
   obtain ⟨c1, c2⟩ := e4 hw
   unfold costO
   rw [e3, c1, c2]
theorem stepI_dead {c : Nat → Cell} (h : liveO xs c o = false) : stepI xs c m o = m := by unfold stepI; rw [if_neg (by rw [h]; decide)]
theorem stepI_new {c : Nat → Cell} (h : liveO xs c o = true) (hn : m.ways = 0 ∨ costO xs c o < m.cost ∨ costO xs c o = m.cost ∧ lexO o ⟨m.kind, m.sign, m.a, m.b⟩) : stepI xs c m o = ⟨m.ways + waysO c o, costO xs c o, o.kind, o.sign, o.a, o.b⟩ := by unfold stepI; rw [if_pos h, if_pos hn]
theorem stepI_old {c : Nat → Cell} (h : liveO xs c o = true) (hn : ¬ (m.ways = 0 ∨ costO xs c o < m.cost ∨ costO xs c o = m.cost ∧ lexO o ⟨m.kind, m.sign, m.a, m.b⟩)) : stepI xs c m o = { m with ways := m.ways + waysO c o } := by unfold stepI; rw [if_pos h, if_neg hn]
theorem tryI_is (hk : RcOk xs K s) (hs : s < 2 ^ xs.length) (h1 : s ≠ 2 ^ s.log2) (ho : IsOpt xs s o) {k : RC} (hm : RcIs k m) :
 RcIs (tryI (K o.a) (K o.b) k o.kind o.sign o.a o.b (handS xs o)) (stepI xs (cellAt xs) m o) := by
 obtain ⟨e1, e2, e4⟩ := hand_eqI hk hs h1 ho
 unfold tryI
 by_cases hw : waysO (cellAt xs) o = 0
 · rw [if_pos (.inl (by rw [e1]; omega)), stepI_dead (by unfold liveO; simp [hw])]; exact hm
 · have hw' : waysR (K o.a) (K o.b) (o.b : Int) ≠ 0 := by rw [e1]; omega
   rw [e4 hw, e2]
   cases hf : fitO xs o with
   | false => rw [if_pos (.inr rfl), stepI_dead (by unfold liveO; simp [hf])]; exact hm
   | true =>
     rw [if_neg (by rintro (h | h); exact hw' h; cases h)]
     have hl : liveO xs (cellAt xs) o = true := by unfold liveO; simp [hf, hw]
     by_cases hn : m.ways = 0 ∨ costO xs (cellAt xs) o < m.cost ∨ costO xs (cellAt xs) o = m.cost ∧ lexO o ⟨m.kind, m.sign, m.a, m.b⟩
     · have hn' : k.ways = 0 ∨ ordC o.kind o.sign o.a (costO xs (cellAt xs) o) k.kind k.sign k.first k.cost < 0 := by
        rcases Classical.em (m.ways = 0) with h | h
        · exact .inl (by rw [hm.1, h]; rfl)
        · obtain ⟨k1, k2, k3, k4, k5⟩ := hm.2 h
          refine .inr ?_
          rw [ordC_lt, k1, k2, k3, k4]
          have hn := hn.resolve_left h
          unfold lexO at hn
          dsimp only at hn
          omega
       rw [if_pos hn', stepI_new hl hn, e1]
       exact ⟨by show _ + _ = ((m.ways + waysO (cellAt xs) o : Nat) : Int); rw [hm.1, Int.natCast_add], fun _ => ⟨rfl, rfl, rfl, rfl, rfl⟩⟩
     · have hm0 : m.ways ≠ 0 := fun h => hn (.inl h)
       obtain ⟨k1, k2, k3, k4, k5⟩ := hm.2 hm0
       have hn' : ¬ (k.ways = 0 ∨ ordC o.kind o.sign o.a (costO xs (cellAt xs) o) k.kind k.sign k.first k.cost < 0) := by
        rw [hm.1, ordC_lt, k1, k2, k3, k4]
        intro h
        apply hn
        unfold lexO
        dsimp only
        omega
       rw [if_neg hn', stepI_old hl hn, e1]
       exact ⟨by show _ + _ = ((m.ways + waysO (cellAt xs) o : Nat) : Int); rw [hm.1, Int.natCast_add], fun _ => hm.2 hm0⟩
theorem tryI_box (A B M : RC) (kd sg fi re : Int) (SB : PBox) : (tryI A B M kd sg fi re SB).box = M.box := by
 unfold tryI
 repeat' split
 all_goals rfl
theorem hand_in (g : Grd xs N) (hs : s < 2 ^ xs.length) (ho : IsOpt xs s o) : boxIn (handS xs o) := by
 unfold handS
 by_cases h : o.kind = 2 ∨ o.kind = 5
 · rw [if_pos h]; exact g.boxes _ (isOpt_sign hs ho h)
 · rw [if_neg h]; unfold boxIn; decide
end
def fixK (K : Nat → RC) (t : Nat) : RC := if t = 2 ^ t.log2 then { K t with sign := (t.log2 : Int) } else K t
theorem fixK_eq (K : Nat → RC) (t : Nat) : (fixK K t).box = (K t).box ∧ (fixK K t).ways = (K t).ways ∧ (fixK K t).cost = (K t).cost := by
 unfold fixK; split <;> exact ⟨rfl, rfl, rfl⟩
theorem fixK_many {K : Nat → RC} {t : Nat} (h : t ≠ 2 ^ t.log2) : fixK K t = K t := by unfold fixK; rw [if_neg h]
theorem tryI_cong {A A' B B' M : RC} {kd sg fi re : Int} {SB : PBox} (ha : A.box = A'.box ∧ A.ways = A'.ways ∧ A.cost = A'.cost) (hb : B.box = B'.box ∧ B.ways = B'.ways ∧ B.cost = B'.cost) : tryI A B M kd sg fi re SB = tryI A' B' M kd sg fi re SB := by
 unfold tryI waysR
 rw [ha.1, ha.2.1, ha.2.2, hb.1, hb.2.1, hb.2.2]
theorem tryIn_cong {A A' B B' M : RC} {re : Int} (ha : A.box = A'.box ∧ A.ways = A'.ways ∧ A.cost = A'.cost) (hb : B.box = B'.box ∧ B.ways = B'.ways ∧ B.cost = B'.cost) (h : TryIn A B M re) : TryIn A' B' M re := by
 obtain ⟨h1, h2, h3, h4, h5, h6⟩ := h
 unfold waysR at h4 h6
 rw [ha.2.1, hb.2.1] at h4 h6
 rw [ha.2.2, hb.2.2] at h6
 rw [ha.1] at h1
 rw [hb.1] at h2
 rw [ha.2.1] at h3
 exact ⟨h1, h2, h3, h4, h5, h6⟩
def FilPostI (e : TypeId) (ob : Bool) (xs : List PSymbol) (vl : Value) (Fl : List Nat) (gp gb gt gn N : Nat) (K : Nat → RC) (s : Nat) (bx : PBox) (m : Cell) (w : World) (en : Ending) (w' : World) : Prop :=
 en = .returned (.tuple #[]) ∧ Only [gt, gn] w w' ∧ ∃ k, Prs e ob xs vl Fl gp gb gt gn N (updF K s k) w' ∧ RcIs k m ∧ k.box = bx
theorem impl_ptry_c {e : TypeId} {ob : Bool} {xs : List PSymbol} {vl : Value} {Fl : List Nat} {gp gb gt gn N : Nat} {K : Nat → RC} {s : Nat} {bx : PBox} {m : Cell} {k : RC} (o : Opt) (c0 : Int) (w : World) (h : Prs e ob xs vl Fl gp gb gt gn N (updF K s k) w) (g : Grd xs N) (hs : s < N) (_h0 : s ≠ 0) (h1 : s ≠ 2 ^ s.log2) (ho : IsOpt xs s o) (hk : RcOk xs (fixK K) s) (hm : RcIs k m) (hbx : k.box = bx) (hmw : m.ways ≤ 10000000000000000) :
 Calls Try.prog 70 #[.pointer (some ⟨gp, 0, none⟩), .int .i64 (s : Int), .agg #[.int .i64 o.kind, .int .i64 (o.sign : Int), .int .i64 (o.a : Int), .int .i64 (o.b : Int), .int .i64 c0], .agg #[.int .i64 (handS xs o).x1, .int .i64 (handS xs o).y1, .int .i64 (handS xs o).x2, .int .i64 (handS xs o).y2]] w (FilPostI e ob xs vl Fl gp gb gt gn N K s bx (stepI xs (cellAt xs) m o) w) := by
 have hs' : s < 2 ^ xs.length := g.size ▸ hs
 have n1 := not_single h1
 have hlt := opt_lt xs ho n1
 have hb := opt_bits xs ho n1
 have e0 : updF K s k s = k := updF_same K s k
 have ea : updF K s k o.a = K o.a := updF_other K k (by omega)
 have eb : updF K s k o.b = K o.b := updF_other K k (by omega)
 have hin := tryIn_cong (fixK_eq K o.a) (fixK_eq K o.b) (try_in g hk hs h1 ho hm hmw)
 have hre := tryI_is hk hs' h1 ho hm
 rw [tryI_cong (fixK_eq K o.a) (fixK_eq K o.b)] at hre
 have hin' : TryIn (updF K s k o.a) (updF K s k o.b) (updF K s k s) (o.b : Int) := by rw [e0, ea, eb]; exact hin
 have fin : ∀ (en : Ending) (w' : World), (en = .returned (.tuple #[]) ∧ Only [gt, gn] w w' ∧ Prs e ob xs vl Fl gp gb gt gn N (updF (updF K s k) s (tryI (updF K s k o.a) (updF K s k o.b) (updF K s k s) o.kind (o.sign : Int) (o.a : Int) (o.b : Int) (handS xs o))) w') → FilPostI e ob xs vl Fl gp gb gt gn N K s bx (stepI xs (cellAt xs) m o) w en w' := by
  rintro en w' ⟨h1, h2, h3⟩
  rw [e0, ea, eb, updF_upd] at h3
  exact ⟨h1, h2, _, h3, hre, by rw [tryI_box]; exact hbx⟩
 by_cases hz : o.b = 0
 · exact (impl_tryOne_c s o.a o.b o.kind (o.sign : Int) c0 hz w h g.le hs (by omega) (by omega) hin' (handS xs o) (hand_in g hs' ho)).mono fin
 · exact (impl_tryTwo_c s o.a o.b o.kind (o.sign : Int) c0 hz w h g.le hs (by omega) (by omega) hin' (handS xs o) (hand_in g hs' ho)).mono fin
end Go.Proofs.Ytmopioaojdlnkaa
