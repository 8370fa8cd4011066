/- The reference's reader of trees: join of any node, and a part. Conditions: none. -/
import Derived.Test.YtkickllohilciaaRd2k1
import Derived.Test.YtkickllohilciaaRd2k2
import Derived.Test.YtkickllohilciaaRd2k3
import Derived.Test.YtkickllohilciaaRd2k4
import Derived.Test.YtkickllohilciaaRd2k5
import Derived.Test.YtkickllohilciaaRdP
namespace Go.Proofs.Ytkickllohilciaa
open Go Go.RowKit

section
variable (e et : TypeId) (o ot : Bool) (xs : List PSymbol) (ns : List PNode) (vl vn : Value) (Fl Fn : List Nat) (gp gu gb gd : Nat)
/-- What read and part leave. -/
def RPost (R : Int × RdSt) (w : World) (en : Ending) (w' : World) : Prop :=
  en = .returned (.int .i64 R.1) ∧ Only [gp, gu, gb, gd] w w' ∧ Rd e et o ot xs ns vl vn Fl Fn gp gu gb gd R.2 w'
/-- read does as readS with some fuel. -/
def ReadC (f : Nat) : Prop := ∀ (k : Nat) (st : RdSt) (c : Int) (w : World), k < f → k < ns.length → Rd e et o ot xs ns vl vn Fl Fn gp gu gb gd st w → st.good = true → RdInv st c → c + 40000 * ((k : Int) + 1) ≤ 640000 →
  Calls Try.prog 56 #[.pointer (some ⟨gp, 0, none⟩), .int .i64 (k : Int)] w (RPost e et o ot xs ns vl vn Fl Fn gp gu gb gd (readS xs ns f k st) w)
end
theorem getD_at {α : Type} {l : List α} {k : Nat} {d : α} (h : k < l.length) : l.getD k d = l[k] := by rw [List.getD_eq_getElem?_getD, List.getElem?_eq_getElem h]; rfl
theorem symAt_at {xs : List PSymbol} {k : Nat} (h : k < xs.length) : symAt xs (k : Int) = xs[k] := by unfold symAt; rw [Int.toNat_natCast, getD_at h]
theorem spec_join_c {e et : TypeId} {o ot : Bool} {xs : List PSymbol} {ns : List PNode} {vl vn : Value} {Fl Fn : List Nat} {gp gu gb gd : Nat} {st : RdSt} (n : PNode) (k : Nat) (hk : 1 ≤ n.kind ∧ n.kind ≤ 5) (ha : 0 ≤ n.a ∧ n.a < (k : Int)) (hb : n.kind ≠ 5 → 0 ≤ n.b ∧ n.b < (k : Int)) (hs : signed n.kind = true → 0 ≤ n.sign ∧ n.sign < (xs.length : Int)) (hat : k < ns.length) (w : World) (h : Rd e et o ot xs ns vl vn Fl Fn gp gu gb gd st w) (hc : RdNum xs st) (hg : st.good = true) :
    Calls Try.prog 69 #[.pointer (some ⟨gp, 0, none⟩), .int .i64 (k : Int), .agg #[.int .i64 n.kind, .int .i64 n.a, .int .i64 n.b, .int .i64 n.sign]] w (RJoin e et o ot xs ns vl vn Fl Fn gp gu gb gd (joinSt xs n k st) w) := by
  obtain ⟨kd, za, zb, zs⟩ := n
  dsimp only at hk ha hb hs ⊢
  obtain ⟨a, rfl⟩ : ∃ a : Nat, za = (a : Int) := ⟨za.toNat, by omega⟩
  have hbl := h.bl
  have hdl := h.dpl
  have hal : a < st.boxes.length := by omega
  have had : a < st.depth.length := by omega
  have eA : ∀ kd zb zs, partA st.boxes ⟨kd, (a : Int), zb, zs⟩ = st.boxes[a] := fun _ _ _ => by unfold partA; rw [Int.toNat_natCast, getD_at hal]
  by_cases h5 : kd = 5
  · subst h5
    obtain ⟨js, rfl⟩ : ∃ j : Nat, zs = (j : Int) := ⟨zs.toNat, by have := hs rfl; omega⟩
    have hjs : js < xs.length := by have := hs rfl; omega
    have J := spec_join5_c k a js zb hjs hal had w h hc hg hat (by omega)
    have E : joinSt xs ⟨5, (a : Int), zb, (js : Int)⟩ k st = { st with boxes := st.boxes.set k (joinB (joinB (st.boxes[a]) (st.boxes[a])) (boxOf xs[js])), depth := st.depth.set k (st.depth[a] + 1), cost := st.cost + ownF 5 (st.boxes[a]) (st.boxes[a]) (boxOf xs[js]), good := fitsF 5 (st.boxes[a]) (st.boxes[a]) (boxOf xs[js]) } := by
      unfold joinSt partB signB depthNode
      simp [eA, symAt_at hjs, List.getElem?_eq_getElem had, signed]
    rw [E]
    exact J
  · obtain ⟨b, rfl⟩ : ∃ b : Nat, zb = (b : Int) := ⟨zb.toNat, by have := hb h5; omega⟩
    have hbk : b < k := by have := hb h5; omega
    have hbl' : b < st.boxes.length := by omega
    have hbd : b < st.depth.length := by omega
    have eB : ∀ kd zs, kd ≠ 5 → partB st.boxes ⟨kd, (a : Int), (b : Int), zs⟩ = st.boxes[b] := fun kd zs h => by unfold partB; rw [if_neg h, Int.toNat_natCast, getD_at hbl']
    by_cases h2 : kd = 2
    · subst h2
      obtain ⟨js, rfl⟩ : ∃ j : Nat, zs = (j : Int) := ⟨zs.toNat, by have := hs rfl; omega⟩
      have hjs : js < xs.length := by have := hs rfl; omega
      have J := spec_join2_c k a b js hjs hal had hbl' hbd hbk w h hc hg hat (by omega)
      have E : joinSt xs ⟨2, (a : Int), (b : Int), (js : Int)⟩ k st = { st with boxes := st.boxes.set k (joinB (joinB (st.boxes[a]) (st.boxes[b])) (boxOf xs[js])), depth := st.depth.set k (max st.depth[a] st.depth[b] + 1), cost := st.cost + ownF 2 (st.boxes[a]) (st.boxes[b]) (boxOf xs[js]), good := fitsF 2 (st.boxes[a]) (st.boxes[b]) (boxOf xs[js]) } := by
        unfold joinSt signB depthNode
        rw [eA, eB _ _ h5]
        simp [symAt_at hjs, List.getElem?_eq_getElem had, List.getElem?_eq_getElem hbd, signed]
      rw [E]
      exact J
    · have E : ∀ kd, kd ≠ 5 → kd ≠ 2 → kd ≠ 0 → joinSt xs ⟨kd, (a : Int), (b : Int), zs⟩ k st = { st with boxes := st.boxes.set k (joinB (joinB (st.boxes[a]) (st.boxes[b])) (st.boxes[a])), depth := st.depth.set k (max st.depth[a] st.depth[b] + 1), cost := st.cost + ownF kd (st.boxes[a]) (st.boxes[b]) (st.boxes[a]), good := fitsF kd (st.boxes[a]) (st.boxes[b]) (st.boxes[a]) } := by
        intro kd h5 h2 h0
        unfold joinSt signB depthNode
        rw [eA, eB _ _ h5]
        simp [List.getElem?_eq_getElem had, List.getElem?_eq_getElem hbd, signed, h2, h5, h0]
      have h3 : kd = 1 ∨ kd = 3 ∨ kd = 4 := by omega
      rcases h3 with rfl | rfl | rfl
      · rw [E 1 (by omega) (by omega) (by omega)]
        exact spec_join1_c k a b zs hal had hbl' hbd hbk w h hc hg hat (by omega)
      · rw [E 3 (by omega) (by omega) (by omega)]
        exact spec_join3_c k a b zs hal had hbl' hbd hbk w h hc hg hat (by omega)
      · rw [E 4 (by omega) (by omega) (by omega)]
        exact spec_join4_c k a b zs hal had hbl' hbd hbk w h hc hg hat (by omega)
set_option maxRecDepth 100000 in
set_option maxHeartbeats 1000000 in
theorem spec_part_c {e et : TypeId} {o ot : Bool} {xs : List PSymbol} {ns : List PNode} {vl vn : Value} {Fl Fn : List Nat} {gp gu gb gd f : Nat} (IH : ReadC e et o ot xs ns vl vn Fl Fn gp gu gb gd f) {st : RdSt} {c : Int} (p want : Int) (w : World) (hpf : p < (f : Int)) (hpn : p < (ns.length : Int)) (h : Rd e et o ot xs ns vl vn Fl Fn gp gu gb gd st w) (hi : RdInv st c) (hc : c + 40000 * (p + 1) ≤ 640000) :
    Calls Try.prog 68 #[.pointer (some ⟨gp, 0, none⟩), .int .i64 p, .int .i64 want] w (RPost e et o ot xs ns vl vn Fl Fn gp gu gb gd (partS (readS xs ns f) p want st) w) := by
  have Fp := h.row.frozen
  by_cases hcond : st.good = true ∧ p = want ∧ 0 ≤ p
  · obtain ⟨hg, rfl, h0⟩ := hcond
    obtain ⟨k, rfl⟩ : ∃ k : Nat, p = (k : Int) := ⟨p.toNat, by omega⟩
    have E : partS (readS xs ns f) (k : Int) (k : Int) st = readS xs ns f k st := by unfold partS; rw [if_pos ⟨hg, rfl, h0⟩]; rfl
    rw [E]
    have C := Lib.hid (IH k st c w (by omega) (by omega) h hg hi hc)
    have p7 : w.cell? ⟨gp, 7, none⟩ = some (.bool true) := by rw [← hg]; exact h.row.cell' (i := 7) rfl
    have g1 : ((k : Int) != (k : Int)) = false := by simp
    have g2 : ¬ ((k : Int) < 0) := by omega
    clear IH h hi hc hg E
    go_enter Try.func68, Try.ntmps68
    go_wp2_with fail
    refine C.out.mono ?_
    rintro en w1 ⟨rfl, o1, r1⟩
    go_wp2_with fail
    go_ret
    exact ⟨rfl, o1, r1⟩
  · have E : partS (readS xs ns f) p want st = (-1, { st with good := false }) := by unfold partS; rw [if_neg hcond]
    rw [E]
    have fin : RPost e et o ot xs ns vl vn Fl Fn gp gu gb gd (-1, { st with good := false }) w (.returned (.int .i64 (-1))) (w.setCell ⟨gp, 7, none⟩ (.bool false)) := ⟨rfl, (Only.refl _ _).set (by simp) _, h.setGood false⟩
    have FIN := Lib.hid fin
    clear IH hi hc E fin
    cases hg : st.good with
    | false =>
      have p7 : w.cell? ⟨gp, 7, none⟩ = some (.bool false) := by rw [← hg]; exact h.row.cell' (i := 7) rfl
      clear h hg hcond
      go_enter Try.func68, Try.ntmps68
      go_wp2_with fail
      go_ret
      exact FIN.out
    | true =>
      have p7 : w.cell? ⟨gp, 7, none⟩ = some (.bool true) := by rw [← hg]; exact h.row.cell' (i := 7) rfl
      by_cases hw : p = want
      · subst hw
        have g1 : (p != p) = false := by simp
        have g2 : p < 0 := by
          by_cases h : p < 0
          · exact h
          · exact absurd ⟨hg, rfl, by omega⟩ hcond
        clear h hg hcond
        go_enter Try.func68, Try.ntmps68
        go_wp2_with fail
        go_ret
        exact FIN.out
      · have g1 : (p != want) = true := by simp [hw]
        clear h hg hcond
        go_enter Try.func68, Try.ntmps68
        go_wp2_with fail
        go_ret
        exact FIN.out
end Go.Proofs.Ytkickllohilciaa
