/- The reference's reader of trees: join of any node, and a part. Conditions: none. -/
import Derived.Test.YtmopioaojdlnkaaRd2kTt
import Derived.Test.YtmopioaojdlnkaaRd2k2t
import Derived.Test.YtmopioaojdlnkaaRd2k5t
import Derived.Test.YtmopioaojdlnkaaRdPt
import Derived.Test.YtmopioaojdlnkaaTkt
namespace Go.Proofs.Ytmopioaojdlnkaa
open Go Go.RowKit
section
variable (e et : TypeId) (o ot : Bool) (xs : List PSymbol) (ns : List PNode) (vl vn : Value) (Fl Fn : List Nat) (gp gu gb gd : Nat)
def RPost (R : Int × RdSt) (w : World) (en : Ending) (w' : World) : Prop :=
 en = .returned (.int .i64 R.1) ∧ Only [gp, gu, gb, gd] w w' ∧ Rd e et o ot xs ns vl vn Fl Fn gp gu gb gd R.2 w'
def ReadC (f : Nat) : Prop := ∀ (k : Nat) (st : RdSt) (c : Int) (w : World), k < f → k < ns.length → Rd e et o ot xs ns vl vn Fl Fn gp gu gb gd st w → st.good = true → RdInv st c → c + 40000 * ((k : Int) + 1) ≤ 640000 →
 Calls Try.prog 78 #[.pointer (some ⟨gp, 0, none⟩), .int .i64 (k : Int)] w (RPost e et o ot xs ns vl vn Fl Fn gp gu gb gd (readS xs ns f k st) w)
end
theorem getD_at {α : Type} {l : List α} {k : Nat} {d : α} (h : k < l.length) : l.getD k d = l[k] := by rw [List.getD_eq_getElem?_getD, List.getElem?_eq_getElem h]; rfl
theorem symAt_at {xs : List PSymbol} {k : Nat} (h : k < xs.length) : symAt xs (k : Int) = xs[k] := by unfold symAt; rw [Int.toNat_natCast, getD_at h]
theorem spec_join_c {e et : TypeId} {o ot : Bool} {xs : List PSymbol} {ns : List PNode} {vl vn : Value} {Fl Fn : List Nat} {gp gu gb gd : Nat} {st : RdSt} (n : PNode) (k : Nat) (hk : 1 ≤ n.kind ∧ n.kind ≤ 5) (ha : 0 ≤ n.a ∧ n.a < (k : Int)) (hb : n.kind ≠ 5 → 0 ≤ n.b ∧ n.b < (k : Int)) (hs : signed n.kind = true → 0 ≤ n.sign ∧ n.sign < (xs.length : Int)) (hat : k < ns.length) (w : World) (h : Rd e et o ot xs ns vl vn Fl Fn gp gu gb gd st w) (hc : RdNum xs st) (hg : st.good = true) :
 Calls Try.prog 90 #[.pointer (some ⟨gp, 0, none⟩), .int .i64 (k : Int), .agg #[.int .i64 n.kind, .int .i64 n.a, .int .i64 n.b, .int .i64 n.sign]] w (RJoin e et o ot xs ns vl vn Fl Fn gp gu gb gd (joinSt xs n k st) w) := by
 obtain ⟨kd, za, zb, zs⟩ := n
 dsimp only at hk ha hb hs ⊢
 obtain ⟨a, rfl⟩ : ∃ a : Nat, za = (a : Int) := ⟨za.toNat, by omega⟩
 have hbl := h.bl
 have hdl := h.dpl
 have hal : a < st.boxes.length := by omega
 have had : a < st.depth.length := by omega
 have eA : ∀ kd zb zs, partA st.boxes ⟨kd, (a : Int), zb, zs⟩ = st.boxes[a] := fun _ _ _ => by unfold partA; rw [Int.toNat_natCast, getD_at hal]
 by_cases h5 : kd = 5
 · subst h5
   obtain ⟨js, rfl⟩ : ∃ j : Nat, zs = (j : Int) := ⟨zs.toNat, by have := hs rfl; omega⟩
   have hjs : js < xs.length := by have := hs rfl; omega
   have J := spec_join5_c k a js zb hjs hal had w h hc hg hat (by omega)
   have E : joinSt xs ⟨5, (a : Int), zb, (js : Int)⟩ k st = { st with boxes := st.boxes.set k (joinB (joinB (st.boxes[a]) (st.boxes[a])) (boxOf xs[js])), depth := st.depth.set k (st.depth[a] + 1), cost := st.cost + ownF 5 (st.boxes[a]) (st.boxes[a]) (boxOf xs[js]), good := fitsF 5 (st.boxes[a]) (st.boxes[a]) (boxOf xs[js]) } := by
    unfold joinSt partB signB depthNode
    simp [eA, symAt_at hjs, List.getElem?_eq_getElem had, signed]
   rw [E]
   exact J
 · obtain ⟨b, rfl⟩ : ∃ b : Nat, zb = (b : Int) := ⟨zb.toNat, by have := hb h5; omega⟩
   have hbk : b < k := by have := hb h5; omega
   have hbl' : b < st.boxes.length := by omega
   have hbd : b < st.depth.length := by omega
   have eB : ∀ kd zs, kd ≠ 5 → partB st.boxes ⟨kd, (a : Int), (b : Int), zs⟩ = st.boxes[b] := fun kd zs h => by unfold partB; rw [if_neg h, Int.toNat_natCast, getD_at hbl']
   by_cases h2 : kd = 2
   · subst h2
     obtain ⟨js, rfl⟩ : ∃ j : Nat, zs = (j : Int) := ⟨zs.toNat, by have := hs rfl; omega⟩
     have hjs : js < xs.length := by have := hs rfl; omega
     have J := spec_join2_c k a b js hjs hal had hbl' hbd hbk w h hc hg hat (by omega)
     have E : joinSt xs ⟨2, (a : Int), (b : Int), (js : Int)⟩ k st = { st with boxes := st.boxes.set k (joinB (joinB (st.boxes[a]) (st.boxes[b])) (boxOf xs[js])), depth := st.depth.set k (max st.depth[a] st.depth[b] + 1), cost := st.cost + ownF 2 (st.boxes[a]) (st.boxes[b]) (boxOf xs[js]), good := fitsF 2 (st.boxes[a]) (st.boxes[b]) (boxOf xs[js]) } := by
      unfold joinSt signB depthNode
      rw [eA, eB _ _ h5]
      simp [symAt_at hjs, List.getElem?_eq_getElem had, List.getElem?_eq_getElem hbd, signed]
     rw [E]
     exact J
   · have E : ∀ kd, kd ≠ 5 → kd ≠ 2 → kd ≠ 0 → joinSt xs ⟨kd, (a : Int), (b : Int), zs⟩ k st = { st with boxes := st.boxes.set k (joinB (joinB (st.boxes[a]) (st.boxes[b])) (st.boxes[a])), depth := st.depth.set k (max st.depth[a] st.depth[b] + 1), cost := st.cost + ownF kd (st.boxes[a]) (st.boxes[b]) (st.boxes[a]), good := fitsF kd (st.boxes[a]) (st.boxes[b]) (st.boxes[a]) } := by
      intro kd h5 h2 h0
      unfold joinSt signB depthNode
      rw [eA, eB _ _ h5]
      simp [List.getElem?_eq_getElem had, List.getElem?_eq_getElem hbd, signed, h2, h5, h0]
     have h3 : kd = 1 ∨ kd = 3 ∨ kd = 4 := by omega
     rcases h3 with rfl | rfl | rfl
     · rw [E 1 (by omega) (by omega) (by omega)]
       exact spec_joinT_c 1 (by omega) k a b zs hal had hbl' hbd hbk w h hc hg hat (by omega)
     · rw [E 3 (by omega) (by omega) (by omega)]
       exact spec_joinT_c 3 (by omega) k a b zs hal had hbl' hbd hbk w h hc hg hat (by omega)
     · rw [E 4 (by omega) (by omega) (by omega)]
       exact spec_joinT_c 4 (by omega) k a b zs hal had hbl' hbd hbk w h hc hg hat (by omega)
set_option maxRecDepth 100000 in
set_option maxHeartbeats 1000000 in
theorem spec_part_c {e et : TypeId} {o ot : Bool} {xs : List PSymbol} {ns : List PNode} {vl vn : Value} {Fl Fn : List Nat} {gp gu gb gd f : Nat} (IH : ReadC e et o ot xs ns vl vn Fl Fn gp gu gb gd f) {st : RdSt} {c : Int} (p want : Int) (w : World) (hpf : p < (f : Int)) (hpn : p < (ns.length : Int)) (h : Rd e et o ot xs ns vl vn Fl Fn gp gu gb gd st w) (hi : RdInv st c) (hc : c + 40000 * (p + 1) ≤ 640000) :
 Calls Try.prog 89 #[.pointer (some ⟨gp, 0, none⟩), .int .i64 p, .int .i64 want] w (RPost e et o ot xs ns vl vn Fl Fn gp gu gb gd (partS (readS xs ns f) p want st) w) := by
 have Fp := h.row.frozen
 by_cases hcond : st.good = true ∧ p = want ∧ 0 ≤ p
 · obtain ⟨hg, rfl, h0⟩ := hcond
   obtain ⟨k, rfl⟩ : ∃ k : Nat, p = (k : Int) := ⟨p.toNat, by omega⟩
   have E : partS (readS xs ns f) (k : Int) (k : Int) st = readS xs ns f k st := by unfold partS; rw [if_pos ⟨hg, rfl, h0⟩]; rfl
   rw [E]
   have C := Lib.hid (IH k st c w (by omega) (by omega) h hg hi hc)
   have p7 : w.cell? ⟨gp, 7, none⟩ = some (.bool true) := by rw [← hg]; exact h.row.cell' (i := 7) rfl
   have g1 : ((k : Int) != (k : Int)) = false := by simp
   have g2 : ¬ ((k : Int) < 0) := by omega
   clear IH h hi hc hg E
   go_enter Try.func89, Try.ntmps89
   go_wp2_with fail
   refine C.out.mono ?_
   rintro en w1 ⟨rfl, o1, r1⟩
   go_wp2_with fail
   go_ret
   exact ⟨rfl, o1, r1⟩
 · have E : partS (readS xs ns f) p want st = (-1, { st with good := false }) := by unfold partS; rw [if_neg hcond]
   rw [E]
   have fin : RPost e et o ot xs ns vl vn Fl Fn gp gu gb gd (-1, { st with good := false }) w (.returned (.int .i64 (-1))) (w.setCell ⟨gp, 7, none⟩ (.bool false)) := ⟨rfl, (Only.refl _ _).set (by simp) _, h.setGood false⟩
   have FIN := Lib.hid fin
   clear IH hi hc E fin
   cases hg : st.good with
   | false =>
     have p7 : w.cell? ⟨gp, 7, none⟩ = some (.bool false) := by rw [← hg]; exact h.row.cell' (i := 7) rfl
     clear h hg hcond
     go_enter Try.func89, Try.ntmps89
     go_wp2_with fail
     go_ret
     exact FIN.out
   | true =>
     have p7 : w.cell? ⟨gp, 7, none⟩ = some (.bool true) := by rw [← hg]; exact h.row.cell' (i := 7) rfl
     by_cases hw : p = want
     · subst hw
       have g1 : (p != p) = false := by simp
       have g2 : p < 0 := by
        by_cases h : p < 0
        · exact h
        · exact absurd ⟨hg, rfl, by omega⟩ hcond
       clear h hg hcond
       go_enter Try.func89, Try.ntmps89
       go_wp2_with fail
       go_ret
       exact FIN.out
     · have g1 : (p != want) = true := by simp [hw]
       clear h hg hcond
       go_enter Try.func89, Try.ntmps89
       go_wp2_with fail
       go_ret
       exact FIN.out
set_option maxRecDepth 100000 in
set_option maxHeartbeats 8000000 in
theorem spec_readx_c {e et : TypeId} {o ot : Bool} {xs : List PSymbol} {ns : List PNode} {vl vn : Value} {Fl Fn : List Nat} {gp gu gb gd f : Nat} {st : RdSt} {c : Int} (IH : ReadC e et o ot xs ns vl vn Fl Fn gp gu gb gd f) (_hsy : ∀ s ∈ xs, boxIn (boxOf s)) (_hx : xs.length ≤ 8) (hn : ns.length ≤ 15) (k : Nat) (w : World) (kd a b sg : Int) (hnd : nodeAt ns k = ⟨kd, a, b, sg⟩) (h0 : kd ≠ 0) (hkd : ¬ (1 ≤ kd ∧ kd ≤ 5)) (_hkf : k < f + 1) (hk : k < ns.length) (h : Rd e et o ot xs ns vl vn Fl Fn gp gu gb gd st w) (_hg : st.good = true) (_hi : RdInv st c) (_hc : c + 40000 * ((k : Int) + 1) ≤ 640000) :
 Calls Try.prog 78 #[.pointer (some ⟨gp, 0, none⟩), .int .i64 (k : Int)] w (RPost e et o ot xs ns vl vn Fl Fn gp gu gb gd (readS xs ns (f + 1) k st) w) := by
 have hgp := h.row.lt
 have hgu := h.us.lt
 have hgb := h.bs.lt
 have hgd := h.ds.lt
 have hFl : ∀ b ∈ Fl, b < w.heap.size := fun b hb => (pSymbols e).lt h.syms b hb
 have hFn : ∀ b ∈ Fn, b < w.heap.size := fun b hb => (pNodes et).lt h.nods b hb
 have hfr : w.heap.size ∉ [gp, gu, gb, gd] := by simp; omega
 have hfr2 : w.heap.size ∉ [gp, gu] := by simp; omega
 obtain ⟨B, d, rfl, _, _, hr⟩ := pNodes_open h.nods
 obtain ⟨gn, og, rfl, hgn, hgnF, q0, q1, q2, q3, _⟩ := hr k hk
 rw [← nodeAt_get hk, hnd] at q0 q1 q2 q3
 dsimp only at q0 q1 q2 q3
 clear hr
 have p1 := h.row.c1
 have k0 : (0 : Int) ≤ (k : Int) := by omega
 have k1 : (k : Int) < (ns.length : Int) := by omega
 have ek := IntWalk.i64_in ((k : Int) - 1) (by omega)
 have RD := h.alloc (.cells #[.int .i64 kd, .int .i64 a, .int .i64 b, .int .i64 sg] 76)
 have R5 := Row.new w 76 #[.int .i64 kd, .int .i64 a, .int .i64 b, .int .i64 sg]
 have on : Only [gp, gu, gb, gd] w (w.alloc (.cells #[.int .i64 kd, .int .i64 a, .int .i64 b, .int .i64 sg] 76)) := (Only.refl _ _).alloc _
 have E : readS xs ns (f + 1) k st = (-1, { st with good := false }) := by
  rw [readS, hnd]
  rw [if_neg h0, if_neg hkd]
 rw [E]
 have hb : inR kd 1 5 = false := by
  unfold inR
  cases e1 : decide (1 ≤ kd) <;> cases e2 : decide (kd ≤ 5) <;> simp at * <;> omega
 have CI := Lib.hid (spec_inR_c kd 1 5)
 rw [hb] at CI
 have g0 : (kd == 0) = false := by simp [h0]
 clear h _hi _hc _hg E hnd IH hb h0 hkd _hsy
 go_enter Try.func78, Try.ntmps78
 go_upto_region 2 with fail
 generalize w.alloc (.cells #[.int .i64 kd, .int .i64 a, .int .i64 b, .int .i64 sg] 76) = w0 at RD R5 on ⊢
 clear q0 q1 q2 q3 p1
 have t0 := R5.c0
 have t1 := R5.c1
 have t2 := R5.c2
 have t3 := R5.c3
 have p7 := RD.row.cell' (i := 7) rfl
 have Fp := RD.row.frozen
 have HRD := Lib.hid (RD.setGood false)
 have HON := Lib.hid (on.set (p := ⟨gp, 7, none⟩) (by simp) (.bool false))
 clear RD R5 on
 go_wp2_with fail
 refine (CI.out _).mono ?_
 rintro en w1 ⟨rfl, rfl⟩
 go_wp2_with fail
 go_ret
 exact ⟨rfl, HON.out, HRD.out⟩
theorem only4 {gp gu gb gd : Nat} {w w' : World} (h : Only [gp, gu] w w') : Only [gp, gu, gb, gd] w w' := h.mono (fun x hx => by
 simp only [List.mem_cons, List.not_mem_nil, or_false] at hx ⊢
 rcases hx with h | h <;> simp [h])
theorem read_parts {e et : TypeId} {o ot : Bool} {xs : List PSymbol} {ns : List PNode} {vl vn : Value} {Fl Fn : List Nat} {gp gu gb gd f : Nat} {st : RdSt} {c : Int} (hsy : ∀ s ∈ xs, boxIn (boxOf s)) (hx : xs.length ≤ 8) (hn : ns.length ≤ 15) (k : Nat) (n : PNode) (hnd : nodeAt ns k = n) (h0 : n.kind ≠ 0) (hkd : 1 ≤ n.kind ∧ n.kind ≤ 5) (hk : k < ns.length) (hl : RdLen xs.length ns.length st) (hi : RdInv st c) (hc : c + 40000 * ((k : Int) + 1) ≤ 640000) :
 ∃ (p q : Int × RdSt) (s : RdSt), firstS (readS xs ns f) n k st = p ∧ partS (readS xs ns f) p.1 n.a p.2 = q ∧ signSt xs n q.2 = s ∧ readS xs ns (f + 1) k st = (if s.good = true then (q.1, joinSt xs n k s) else (-1, s)) ∧ ReadOk xs.length ns.length st c ((k : Int) - 1) p ∧ ReadOk xs.length ns.length p.2 (c + 40000 * ((k : Int) - 1 - p.1)) p.1 q ∧
  (s.good = true → q.2.good = true ∧ ∀ w', Rd e et o ot xs ns vl vn Fl Fn gp gu gb gd s w' → Calls Try.prog 90 #[.pointer (some ⟨gp, 0, none⟩), .int .i64 (k : Int), .agg #[.int .i64 n.kind, .int .i64 n.a, .int .i64 n.b, .int .i64 n.sign]] w' (RJoin e et o ot xs ns vl vn Fl Fn gp gu gb gd (joinSt xs n k s) w')) := by
 have PO : ReadOk xs.length ns.length st c ((k : Int) - 1) (firstS (readS xs ns f) n k st) := firstS_ok hl hi (fun hk' _ => by
  have := readS_ok xs ns xs.length ns.length hsy f ((k : Int) - 1).toNat st c hl hi
  rwa [Int.toNat_of_nonneg hk'] at this)
 have hE : readS xs ns (f + 1) k st = (if (signSt xs n (partS (readS xs ns f) (firstS (readS xs ns f) n k st).1 n.a (firstS (readS xs ns f) n k st).2).2).good = true
  then ((partS (readS xs ns f) (firstS (readS xs ns f) n k st).1 n.a (firstS (readS xs ns f) n k st).2).1, joinSt xs n k (signSt xs n (partS (readS xs ns f) (firstS (readS xs ns f) n k st).1 n.a (firstS (readS xs ns f) n k st).2).2))
  else (-1, signSt xs n (partS (readS xs ns f) (firstS (readS xs ns f) n k st).1 n.a (firstS (readS xs ns f) n k st).2).2)) := by
  rw [readS, hnd, if_neg h0, if_pos hkd]
 refine ⟨_, _, _, rfl, rfl, rfl, hE, PO, ?_, ?_⟩
 · exact partS_ok PO.1 PO.2.2.1 PO.2.2.2 (fun hk' _ => by
    have := readS_ok xs ns xs.length ns.length hsy f (firstS (readS xs ns f) n k st).1.toNat _ _ PO.2.2.1 PO.2.2.2
    rwa [Int.toNat_of_nonneg hk'] at this)
 · have QO : ReadOk xs.length ns.length (firstS (readS xs ns f) n k st).2 (c + 40000 * ((k : Int) - 1 - (firstS (readS xs ns f) n k st).1)) (firstS (readS xs ns f) n k st).1 (partS (readS xs ns f) (firstS (readS xs ns f) n k st).1 n.a (firstS (readS xs ns f) n k st).2) := partS_ok PO.1 PO.2.2.1 PO.2.2.2 (fun hk' _ => by
    have := readS_ok xs ns xs.length ns.length hsy f (firstS (readS xs ns f) n k st).1.toNat _ _ PO.2.2.1 PO.2.2.2
    rwa [Int.toNat_of_nonneg hk'] at this)
   clear hE
   generalize hp : firstS (readS xs ns f) n k st = p at PO QO ⊢
   generalize hq : partS (readS xs ns f) p.1 n.a p.2 = q at QO ⊢
   intro hg
   obtain ⟨hg2, hsr⟩ := signSt_good hg
   obtain ⟨s1, s2, s3, s4⟩ := signSt_shape xs n q.2
   obtain ⟨q1, q2, QL, QI⟩ := QO
   obtain ⟨p1, p2, _, _⟩ := PO
   have L := QL.like s1 s2 s4
   have I := QI.like s1 s2 s3
   have hg1 := hg2
   rw [← hq] at hg1
   obtain ⟨hgp, ha1, ha2⟩ := partS_good hg1
   refine ⟨hg2, fun w' r => ?_⟩
   have hb : n.kind ≠ 5 → 0 ≤ n.b ∧ n.b < (k : Int) := by
    intro h5
    rw [← hp] at hgp
    unfold firstS at hgp
    rw [if_neg h5] at hgp
    have := partS_good hgp
    omega
   exact spec_join_c n k hkd ⟨by omega, by omega⟩ hb (fun hs => by have := hsr hs; rw [QL.1] at this; exact this) hk w' r ⟨hx, hsy, I.bx, I.dp, by rw [L.2.2]; exact hn, I.cost.1, by have := I.cost.2; omega⟩ hg
set_option maxRecDepth 100000 in
set_option maxHeartbeats 8000000 in
theorem spec_read0_c {e et : TypeId} {o ot : Bool} {xs : List PSymbol} {ns : List PNode} {vl vn : Value} {Fl Fn : List Nat} {gp gu gb gd f : Nat} {st : RdSt} {c : Int} (IH : ReadC e et o ot xs ns vl vn Fl Fn gp gu gb gd f) (_hsy : ∀ s ∈ xs, boxIn (boxOf s)) (hx : xs.length ≤ 8) (hn : ns.length ≤ 15) (k : Nat) (w : World) (a b sg : Int) (hnd : nodeAt ns k = ⟨0, a, b, sg⟩) (_hkf : k < f + 1) (hk : k < ns.length) (h : Rd e et o ot xs ns vl vn Fl Fn gp gu gb gd st w) (_hg : st.good = true) (_hi : RdInv st c) (_hc : c + 40000 * ((k : Int) + 1) ≤ 640000) :
 Calls Try.prog 78 #[.pointer (some ⟨gp, 0, none⟩), .int .i64 (k : Int)] w (RPost e et o ot xs ns vl vn Fl Fn gp gu gb gd (readS xs ns (f + 1) k st) w) := by
 have hgp := h.row.lt
 have hgu := h.us.lt
 have hgb := h.bs.lt
 have hgd := h.ds.lt
 have hFl : ∀ b ∈ Fl, b < w.heap.size := fun b hb => (pSymbols e).lt h.syms b hb
 have hFn : ∀ b ∈ Fn, b < w.heap.size := fun b hb => (pNodes et).lt h.nods b hb
 have hfr : w.heap.size ∉ [gp, gu, gb, gd] := by simp; omega
 have hfr2 : w.heap.size ∉ [gp, gu] := by simp; omega
 obtain ⟨B, d, rfl, _, _, hr⟩ := pNodes_open h.nods
 obtain ⟨gn, og, rfl, hgn, hgnF, q0, q1, q2, q3, _⟩ := hr k hk
 rw [← nodeAt_get hk, hnd] at q0 q1 q2 q3
 dsimp only at q0 q1 q2 q3
 clear hr
 have p1 := h.row.c1
 have k0 : (0 : Int) ≤ (k : Int) := by omega
 have k1 : (k : Int) < (ns.length : Int) := by omega
 have ek := IntWalk.i64_in ((k : Int) - 1) (by omega)
 have RD := h.alloc (.cells #[.int .i64 0, .int .i64 a, .int .i64 b, .int .i64 sg] 76)
 have R5 := Row.new w 76 #[.int .i64 0, .int .i64 a, .int .i64 b, .int .i64 sg]
 have on : Only [gp, gu, gb, gd] w (w.alloc (.cells #[.int .i64 0, .int .i64 a, .int .i64 b, .int .i64 sg] 76)) := (Only.refl _ _).alloc _
 obtain ⟨s, hs⟩ : ∃ s, takeF st a = s := ⟨_, rfl⟩
 have hin : s.good = true → 0 ≤ a ∧ a < (xs.length : Int) := fun hh => by rw [← hs] at hh; have := takeF_in hh; rwa [h.ul] at this
 have CT0 := Lib.hid (fun w' r => spec_take_c (st := st) (e := e) (et := et) (o := o) (ot := ot) (xs := xs) (ns := ns) (Fl := Fl) (Fn := Fn) (gp := gp) (gu := gu) (gb := gb) (gd := gd) (vl := vl) (vn := .slice (some ⟨gn, og, none⟩) ns.length d) a w' r hx)
 rw [hs] at CT0
 have EG : s.good = true → b = 0 → sg = 0 → readS xs ns (f + 1) k st = ((k : Int) - 1, { s with boxes := s.boxes.set k (boxOf (symAt xs a)), depth := s.depth.set k 1 }) := fun x y z => by
  rw [readS, hnd]; dsimp only; rw [if_pos rfl, hs, if_pos ⟨x, y, z⟩]
 have EB : ¬ (s.good = true ∧ b = 0 ∧ sg = 0) → readS xs ns (f + 1) k st = (-1, { s with good := false }) := fun x => by
  rw [readS, hnd]; dsimp only; rw [if_pos rfl, hs, if_neg x]
 have HEG := Lib.hid EG
 have HEB := Lib.hid EB
 have HIN := Lib.hid hin
 clear h _hi _hc _hg EG EB hnd IH hs hin _hsy
 by_cases hG : s.good = true ∧ b = 0 ∧ sg = 0
 · obtain ⟨hG1, rfl, rfl⟩ := hG
   obtain ⟨i1, i2⟩ := HIN.out hG1
   obtain ⟨js, rfl⟩ : ∃ js : Nat, a = (js : Int) := ⟨a.toNat, by omega⟩
   have hjs : js < xs.length := by omega
   go_enter Try.func78, Try.ntmps78
   go_upto_region 2 with fail
   generalize w.alloc (.cells #[.int .i64 0, .int .i64 (js : Int), .int .i64 0, .int .i64 0] 76) = w0 at RD R5 on ⊢
   clear q0 q1 q2 q3 p1
   have t0 := R5.c0
   have t1 := R5.c1
   have t2 := R5.c2
   have t3 := R5.c3
   have CT := CT0.out _ RD
   clear RD
   go_wp2_with fail
   refine CT.mono ?_
   rintro en w1 ⟨⟨v, rfl⟩, o1, RD⟩
   clear t0 t1 t2 t3
   replace R5 := R5.onlyC o1 hfr2
   replace on := on.trans (only4 o1)
   have t2 := R5.c2
   have t3 := R5.c3
   have p7 : w1.cell? ⟨gp, 7, none⟩ = some (.bool true) := by rw [← hG1]; exact RD.row.cell' (i := 7) rfl
   have Fp := RD.row.frozen
   go_upto_region 5 with fail
   replace RD := RD.setGood true
   replace R5 := R5.far (p := ⟨gp, 7, none⟩) (by show _ ≠ gp; omega) (.bool true)
   replace on := on.set (p := ⟨gp, 7, none⟩) (by simp) (.bool true)
   generalize w1.setCell ⟨gp, 7, none⟩ (.bool true) = w2 at RD on R5 ⊢
   clear t2 t3 p7 Fp
   have p7 := RD.row.cell' (i := 7) rfl
   go_upto_region 7 with fail
   clear p7
   obtain ⟨_, cl2, hvl, _, _, hsr⟩ := pSymbols_open RD.syms
   obtain ⟨gs, os, rfl, hgs, hgin, _, s1, s2, s3, s4, _⟩ := hsr js hjs
   subst hvl
   clear hsr
   have p0 := RD.row.c0
   have p3 := RD.row.c3
   have t1 := R5.c1
   have hkb : k < s.boxes.length := by have := RD.bl; dsimp only at this; omega
   obtain ⟨z0, z1, z2, z3⟩ := RD.boxCell hkb
   have Fb := RD.bs.frozen
   have js0 : (0 : Int) ≤ (js : Int) := by omega
   have js1 : (js : Int) < (xs.length : Int) := by omega
   go_still_tail 15, (by kernel_rfl)
   go_upto_region 8 with fail
   have RDb : Rd e et o ot xs ns _ _ Fl Fn gp gu gb gd { s with good := true, boxes := s.boxes.set k (boxOf xs[js]) } ((((w2.setCell ⟨gb, k * 4, none⟩ (.int .i64 xs[js].x1)).setCell ⟨gb, k * 4 + 1, none⟩ (.int .i64 xs[js].y1)).setCell ⟨gb, k * 4 + 2, none⟩ (.int .i64 xs[js].x2)).setCell ⟨gb, k * 4 + 3, none⟩ (.int .i64 xs[js].y2)).drew := (RD.setBox k hk (boxOf xs[js])).drew
   replace on := ((((on.set (p := ⟨gb, k * 4, none⟩) (by simp) (.int .i64 xs[js].x1)).set (p := ⟨gb, k * 4 + 1, none⟩) (by simp) (.int .i64 xs[js].y1)).set (p := ⟨gb, k * 4 + 2, none⟩) (by simp) (.int .i64 xs[js].x2)).set (p := ⟨gb, k * 4 + 3, none⟩) (by simp) (.int .i64 xs[js].y2)).drew
   clear RD R5 t1 p0 p3 z0 z1 z2 z3 Fb s1 s2 s3 s4
   generalize ((((w2.setCell ⟨gb, k * 4, none⟩ (.int .i64 xs[js].x1)).setCell ⟨gb, k * 4 + 1, none⟩ (.int .i64 xs[js].y1)).setCell ⟨gb, k * 4 + 2, none⟩ (.int .i64 xs[js].x2)).setCell ⟨gb, k * 4 + 3, none⟩ (.int .i64 xs[js].y2)).drew = w3 at RDb on ⊢
   have p5 := RDb.row.c5
   have hkd : k < s.depth.length := by have := RDb.dpl; dsimp only at this; omega
   have y1 := RDb.depCell (k := k) hkd
   have Fd := RDb.ds.frozen
   have HR := Lib.hid (RDb.setDep k 1)
   have HO := Lib.hid (on.set (p := ⟨gd, k, none⟩) (by simp) (.int .i64 1))
   clear RDb on
   go_wp2_with fail
   go_ret
   rw [HEG.out hG1 (by simp) (by simp), symAt_at hjs, ← hG1] 
   refine ⟨rfl, HO.out, ?_⟩
   have := HR.out
   try dsimp only at this
   rw [← hG1] at this
   exact this
 · have E := Lib.hid (HEB.out hG)
   cases hgs : s.good with
   | false =>
     go_enter Try.func78, Try.ntmps78
     go_upto_region 2 with fail
     generalize w.alloc (.cells #[.int .i64 0, .int .i64 a, .int .i64 b, .int .i64 sg] 76) = w0 at RD R5 on ⊢
     clear q0 q1 q2 q3 p1
     have t0 := R5.c0
     have t1 := R5.c1
     have t2 := R5.c2
     have t3 := R5.c3
     have CT := CT0.out _ RD
     clear RD
     go_wp2_with fail
     refine CT.mono ?_
     rintro en w1 ⟨⟨v, rfl⟩, o1, RD⟩
     clear t0 t1 t2 t3
     replace on := on.trans (only4 o1)
     have p7 : w1.cell? ⟨gp, 7, none⟩ = some (.bool false) := by rw [← hgs]; exact RD.row.cell' (i := 7) rfl
     have Fp := RD.row.frozen
     have HR := Lib.hid (RD.setGood false)
     have HO := Lib.hid (on.set (p := ⟨gp, 7, none⟩) (by simp) (.bool false))
     clear RD on R5
     go_wp2_with fail
     go_ret
     rw [E.out]
     exact ⟨rfl, HO.out, HR.out⟩
   | true =>
     by_cases hb : b = 0
     · have hsg : (sg == 0) = false := by
        have : sg ≠ 0 := fun z => hG ⟨hgs, hb, z⟩
        simp [this]
       subst hb
       go_enter Try.func78, Try.ntmps78
       go_upto_region 2 with fail
       generalize w.alloc (.cells #[.int .i64 0, .int .i64 a, .int .i64 0, .int .i64 sg] 76) = w0 at RD R5 on ⊢
       clear q0 q1 q2 q3 p1
       have t0 := R5.c0
       have t1 := R5.c1
       have t2 := R5.c2
       have t3 := R5.c3
       have CT := CT0.out _ RD
       clear RD
       go_wp2_with fail
       refine CT.mono ?_
       rintro en w1 ⟨⟨v, rfl⟩, o1, RD⟩
       clear t0 t1 t2 t3
       replace R5 := R5.onlyC o1 hfr2
       replace on := on.trans (only4 o1)
       have t2 := R5.c2
       have t3 := R5.c3
       have p7 : w1.cell? ⟨gp, 7, none⟩ = some (.bool true) := by rw [← hgs]; exact RD.row.cell' (i := 7) rfl
       have Fp := RD.row.frozen
       have HR := Lib.hid (RD.setGood false)
       have HO := Lib.hid (on.set (p := ⟨gp, 7, none⟩) (by simp) (.bool false))
       clear RD on R5
       go_wp2_with fail
       go_ret
       rw [E.out]
       exact ⟨rfl, HO.out, HR.out⟩
     · have hbb : (b == 0) = false := by simp [hb]
       go_enter Try.func78, Try.ntmps78
       go_upto_region 2 with fail
       generalize w.alloc (.cells #[.int .i64 0, .int .i64 a, .int .i64 b, .int .i64 sg] 76) = w0 at RD R5 on ⊢
       clear q0 q1 q2 q3 p1
       have t0 := R5.c0
       have t1 := R5.c1
       have t2 := R5.c2
       have t3 := R5.c3
       have CT := CT0.out _ RD
       clear RD
       go_wp2_with fail
       refine CT.mono ?_
       rintro en w1 ⟨⟨v, rfl⟩, o1, RD⟩
       clear t0 t1 t2 t3
       replace R5 := R5.onlyC o1 hfr2
       replace on := on.trans (only4 o1)
       have t2 := R5.c2
       have t3 := R5.c3
       have p7 : w1.cell? ⟨gp, 7, none⟩ = some (.bool true) := by rw [← hgs]; exact RD.row.cell' (i := 7) rfl
       have Fp := RD.row.frozen
       have HR := Lib.hid (RD.setGood false)
       have HO := Lib.hid (on.set (p := ⟨gp, 7, none⟩) (by simp) (.bool false))
       clear RD on R5
       go_wp2_with fail
       go_ret
       rw [E.out]
       exact ⟨rfl, HO.out, HR.out⟩
set_option maxRecDepth 100000 in
set_option maxHeartbeats 8000000 in
theorem spec_read5_c {e et : TypeId} {o ot : Bool} {xs : List PSymbol} {ns : List PNode} {vl vn : Value} {Fl Fn : List Nat} {gp gu gb gd f : Nat} {st : RdSt} {c : Int} (IH : ReadC e et o ot xs ns vl vn Fl Fn gp gu gb gd f) (hsy : ∀ s ∈ xs, boxIn (boxOf s)) (hx : xs.length ≤ 8) (hn : ns.length ≤ 15) (k : Nat) (w : World) (a b sg : Int) (hnd : nodeAt ns k = ⟨5, a, b, sg⟩) (hkf : k < f + 1) (hk : k < ns.length) (h : Rd e et o ot xs ns vl vn Fl Fn gp gu gb gd st w) (hg : st.good = true) (hi : RdInv st c) (hc : c + 40000 * ((k : Int) + 1) ≤ 640000) :
 Calls Try.prog 78 #[.pointer (some ⟨gp, 0, none⟩), .int .i64 (k : Int)] w (RPost e et o ot xs ns vl vn Fl Fn gp gu gb gd (readS xs ns (f + 1) k st) w) := by
 have hgp := h.row.lt
 have hgu := h.us.lt
 have hgb := h.bs.lt
 have hgd := h.ds.lt
 have hFl : ∀ b ∈ Fl, b < w.heap.size := fun b hb => (pSymbols e).lt h.syms b hb
 have hFn : ∀ b ∈ Fn, b < w.heap.size := fun b hb => (pNodes et).lt h.nods b hb
 have hfr : w.heap.size ∉ [gp, gu, gb, gd] := by simp; omega
 have hfr2 : w.heap.size ∉ [gp, gu] := by simp; omega
 obtain ⟨B, d, rfl, _, _, hr⟩ := pNodes_open h.nods
 obtain ⟨gn, og, rfl, hgn, hgnF, q0, q1, q2, q3, _⟩ := hr k hk
 rw [← nodeAt_get hk, hnd] at q0 q1 q2 q3
 dsimp only at q0 q1 q2 q3
 clear hr
 have p1 := h.row.c1
 have k0 : (0 : Int) ≤ (k : Int) := by omega
 have k1 : (k : Int) < (ns.length : Int) := by omega
 have ek := IntWalk.i64_in ((k : Int) - 1) (by omega)
 have RD := h.alloc (.cells #[.int .i64 5, .int .i64 a, .int .i64 b, .int .i64 sg] 76)
 have R5 := Row.new w 76 #[.int .i64 5, .int .i64 a, .int .i64 b, .int .i64 sg]
 have on : Only [gp, gu, gb, gd] w (w.alloc (.cells #[.int .i64 5, .int .i64 a, .int .i64 b, .int .i64 sg] 76)) := (Only.refl _ _).alloc _
 obtain ⟨p, q, s, hp, hq, hs3, hE, PO, QO, HJ⟩ := read_parts (e := e) (et := et) (o := o) (ot := ot) (Fl := Fl) (Fn := Fn) (gp := gp) (gu := gu) (gb := gb) (gd := gd) (vl := vl) (vn := (.slice (some ⟨gn, og, none⟩) ns.length d)) (f := f) hsy hx hn k ⟨5, a, b, sg⟩ hnd (show (5 : Int) ≠ 0 by decide) (show 1 ≤ (5 : Int) ∧ (5 : Int) ≤ 5 by decide) hk ⟨h.ul, h.bl, h.dpl⟩ hi hc
 dsimp only at hp hq hs3 HJ
 have HE1 := Lib.hid (show s.good = true → readS xs ns (f + 1) k st = (q.1, joinSt xs ⟨5, a, b, sg⟩ k s) from fun x => by rw [hE, if_pos x])
 have HE2 := Lib.hid (show s.good = false → readS xs ns (f + 1) k st = (-1, s) from fun x => by rw [hE, if_neg (by rw [x]; simp)])
 have HJ' := Lib.hid HJ
 have CI := Lib.hid (show ∀ w : World, Calls Try.prog 58 #[.int .i64 5, .int .i64 1, .int .i64 5] w fun e w' => e = .returned (.bool true) ∧ w = w' from fun w => by
  have := spec_inR_c 5 1 5 w
  rwa [show inR 5 1 5 = true from by rfl] at this)
 obtain ⟨pl, pu, PL, PI⟩ := PO
 obtain ⟨ql, qu, QL, QI⟩ := QO
 have hp1 : p.1 = (k : Int) - 1 := by rw [← hp]; rfl
 have hp2 : p.2 = { st with good := (b == 0) } := by
  rw [← hp]
  show ({ st with good := st.good && decide (b = 0) } : RdSt) = _
  rw [hg, Bool.true_and]
  congr 1
 have C2 := Lib.hid (fun w' (r : Rd e et o ot xs ns vl (.slice (some ⟨gn, og, none⟩) ns.length d) Fl Fn gp gu gb gd p.2 w') => spec_part_c IH p.1 a w' (by omega) (by omega) r PI (by omega))
 rw [hq] at C2
 obtain ⟨t, ht⟩ : ∃ t, takeF q.2 sg = t := ⟨_, rfl⟩
 have CT := Lib.hid (fun w' (r : Rd e et o ot xs ns vl (.slice (some ⟨gn, og, none⟩) ns.length d) Fl Fn gp gu gb gd q.2 w') => spec_take_c sg w' r hx)
 rw [ht] at CT
 have hs : s = { t with good := t.good && decide ((symAt xs sg).label = labelF 5) } := by
  rw [← hs3, ← ht]; rfl
 have HIN := Lib.hid (show t.good = true → 0 ≤ sg ∧ sg < (xs.length : Int) from fun x => by rw [← ht] at x; have := takeF_in x; rwa [QL.1] at this)
 have CL := Lib.hid (show ∀ w : World, Calls Try.prog 40 #[.int .i64 5] w fun e w' => e = .returned (.string ⟨#[114]⟩) ∧ w' = w from spec_l21Label_c 5)
 have HS := Lib.hid hs
 have HP2 := Lib.hid hp2
 have ep : (k : Int) - 1 = (k : Int) - 1 := rfl
 clear h hi hc hE hnd IH hsy hs hs3 hq hp HJ PL PI QL QI ep hp2 ht 
 go_enter Try.func78, Try.ntmps78
 go_upto_region 2 with fail
 generalize w.alloc (.cells #[.int .i64 5, .int .i64 a, .int .i64 b, .int .i64 sg] 76) = w0 at RD R5 on ⊢
 clear q0 q1 q2 q3 p1
 have t0 := R5.c0
 have t1 := R5.c1
 have t2 := R5.c2
 have t3 := R5.c3
 have p7 : w0.cell? ⟨gp, 7, none⟩ = some (.bool true) := by rw [← hg]; exact RD.row.cell' (i := 7) rfl
 have Fp := RD.row.frozen
 go_wp2_with fail
 refine (CI.out _).mono ?_
 rintro en wi ⟨rfl, rfl⟩
 go_wp2_with fail
 clear t0 t1 t2 t3 p7 Fp
 replace RD := RD.setGood (b == 0)
 rw [← HP2.out] at RD
 replace R5 := R5.far (p := ⟨gp, 7, none⟩) (by show _ ≠ gp; omega) (.bool (b == 0))
 replace on := on.set (p := ⟨gp, 7, none⟩) (by simp) (.bool (b == 0))
 generalize w0.setCell ⟨gp, 7, none⟩ (.bool (b == 0)) = w1 at RD on R5 ⊢
 have C2' := C2.out _ RD
 rw [hp1] at C2'
 refine C2'.mono ?_
 clear RD
 rintro en w2 ⟨rfl, o2, RD⟩
 replace R5 := R5.onlyC o2 hfr
 replace on := on.trans o2
 have t0 := R5.c0
 have t1 := R5.c1
 have t2 := R5.c2
 have t3 := R5.c3
 go_wp2_with fail
 clear t0 t1 t2 t3
 refine (CT.out _ RD).mono ?_
 clear RD
 rintro en w3 ⟨⟨v, rfl⟩, o3, RD⟩
 replace R5 := R5.onlyC o3 hfr2
 replace on := on.trans (only4 o3)
 have t0 := R5.c0
 have t3 := R5.c3
 have Fp := RD.row.frozen
 cases htg : t.good with
 | false =>
   have p7 : w3.cell? ⟨gp, 7, none⟩ = some (.bool false) := by rw [← htg]; exact RD.row.cell' (i := 7) rfl
   go_upto_region 20 with fail
   have hS : (fun w' : World => w'.cell? ⟨gp, 7, none⟩ = some (.bool false)) w3.drew := p7
   dsimp only at hS
   refine wp_region_held_drew (S := (fun w' : World => w'.cell? ⟨gp, 7, none⟩ = some (.bool false))) (by kernel_rfl) hS (fun _ => ?_)
   refine tJ 0 hS ?_
   refine tJ 1 hS ?_
   refine tJ 2 hS ?_
   refine tJ 3 hS ?_
   refine tJ 4 hS ?_
   refine tJ 5 hS ?_
   refine tJ0 6 hS ?_
   refine tJ0 7 hS ?_
   refine tJ0 8 hS ?_
   refine tJ0 9 hS ?_
   refine tJ0 10 hS ?_
   refine tJ0 11 hS ?_
   refine tJ0 12 hS ?_
   refine tJ0 13 hS ?_
   refine tJ0 14 hS ?_
   refine tJ0 15 hS ?_
   refine tJ0 16 hS ?_
   refine tJ0 17 hS ?_
   refine tJ0 18 hS ?_
   refine tJ 19 hS ?_
   refine tJ 20 hS ?_
   refine tJ 21 hS ?_
   refine rJ 22 fun K hK => ?_
   go_simp
   refine hK.out _ _ ((RD.setGood false).drew.row.cell' (i := 7) rfl) (fun hHeld => ?_)
   clear hK K hHeld hS
   refine wpAnyH_done (by kernel_rfl) ?_ _
   go_upto_region 22 with fail
   clear t0 t3 p7 Fp
   replace RD := (RD.setGood false).drew
   replace on := (on.set (p := ⟨gp, 7, none⟩) (by simp) (.bool false)).drew
   generalize (w3.setCell ⟨gp, 7, none⟩ (.bool false)).drew = w4 at RD on ⊢
   have p7 := RD.row.cell' (i := 7) rfl
   have HR := Lib.hid RD
   have HO := Lib.hid on
   clear RD on
   go_wp2_with fail
   go_ret
   have hsb : s.good = false := by rw [HS.out]; rw [htg]; rfl
   rw [HE2.out hsb]
   refine ⟨rfl, HO.out, ?_⟩
   have := HR.out
   have e : s = { t with good := false } := by rw [HS.out]; rw [htg]; rfl
   rw [e]
   exact this
 | true =>
   obtain ⟨i1, i2⟩ := HIN.out htg
   obtain ⟨js, rfl⟩ : ∃ js : Nat, sg = (js : Int) := ⟨sg.toNat, by omega⟩
   have hjs : js < xs.length := by omega
   have p7 : w3.cell? ⟨gp, 7, none⟩ = some (.bool true) := by rw [← htg]; exact RD.row.cell' (i := 7) rfl
   obtain ⟨_, cl2, hvl, _, _, hsr⟩ := pSymbols_open RD.syms
   obtain ⟨gs, os, rfl, hgs, hgin, s0, _, _, _, _, _⟩ := hsr js hjs
   subst hvl
   clear hsr
   have p0 := RD.row.c0
   have esy := Lib.hid (symAt_at hjs)
   obtain ⟨lb, hlb⟩ : ∃ l, xs[js].label = l := ⟨_, rfl⟩
   rw [hlb] at s0
   have HLB := Lib.hid hlb
   clear hlb
   by_cases hl : lb = ⟨#[114]⟩
   · subst hl
     go_upto_region 20 with fail
     go_still_tail 22, (by kernel_rfl)
     still_call (CL.out _)
     repeat still_step
     refine wpStill_nil ?_
     go_upto_region 22 with fail
     clear t0 t3 p7 Fp s0 p0
     replace RD := (RD.setGood true).drew
     replace R5 := (R5.far (p := ⟨gp, 7, none⟩) (by show _ ≠ gp; omega) (.bool true)).drew
     replace on := (on.set (p := ⟨gp, 7, none⟩) (by simp) (.bool true)).drew
     generalize (w3.setCell ⟨gp, 7, none⟩ (.bool true)).drew = w4 at RD on R5 ⊢
     have p7 := RD.row.cell' (i := 7) rfl
     have t0 := R5.c0
     have t1 := R5.c1
     have t2 := R5.c2
     have t3 := R5.c3
     have hsg : s.good = true := by rw [HS.out]; show (t.good && decide ((symAt xs (js : Int)).label = _)) = true; rw [htg, esy.out, HLB.out]; rfl
     have e : s = { t with good := true } := by rw [HS.out]; rw [htg, esy.out, HLB.out]; rfl
     rw [← e] at RD
     have CJ := (HJ'.out hsg).2 _ RD
     clear RD
     have HSG := Lib.hid hsg
     clear e hsg
     go_wp2_with fail
     refine CJ.mono ?_
     rintro en w5 ⟨⟨v, rfl⟩, o5, RD⟩
     replace on := on.trans o5
     have HR := Lib.hid RD
     have HO := Lib.hid on
     clear RD on
     go_wp2_with fail
     go_ret
     rw [HE1.out HSG.out]
     exact ⟨rfl, HO.out, HR.out⟩
   · have gl : (lb.toList == [114]) = false := by
      have := str_eq lb root1
      rw [decide_eq_false (show ¬ lb = root1 from hl)] at this
      rw [← this, ByteArray.toList_eq root1]; rfl
     have HL := Lib.hid hl
     clear hl
     go_upto_region 20 with fail
     go_still_tail 22, (by kernel_rfl)
     still_call (CL.out _)
     repeat still_step
     refine wpStill_nil ?_
     go_upto_region 22 with fail
     clear t0 t3 p7 Fp s0 p0
     replace RD := (RD.setGood false).drew
     replace on := (on.set (p := ⟨gp, 7, none⟩) (by simp) (.bool false)).drew
     generalize (w3.setCell ⟨gp, 7, none⟩ (.bool false)).drew = w4 at RD on ⊢
     have p7 := RD.row.cell' (i := 7) rfl
     have HR := Lib.hid RD
     have HO := Lib.hid on
     clear RD on
     go_wp2_with fail
     go_ret
     have hsb : s.good = false := by rw [HS.out]; show (t.good && decide ((symAt xs (js : Int)).label = _)) = false; rw [htg, esy.out, HLB.out, decide_eq_false (show ¬ lb = labelF 5 from HL.out)]; rfl
     rw [HE2.out hsb]
     refine ⟨rfl, HO.out, ?_⟩
     have := HR.out
     have e : s = { t with good := false } := by rw [HS.out]; rw [htg, esy.out, HLB.out, decide_eq_false (show ¬ lb = labelF 5 from HL.out)]; rfl
     rw [e]
     exact this
end Go.Proofs.Ytmopioaojdlnkaa
