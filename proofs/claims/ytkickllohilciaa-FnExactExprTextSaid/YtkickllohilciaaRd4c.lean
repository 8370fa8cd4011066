/- The reference's reader of trees: what a node with parts leads to. Conditions: none. -/
import Derived.Test.YtkickllohilciaaRd3
namespace Go.Proofs.Ytkickllohilciaa
open Go Go.RowKit

theorem only4 {gp gu gb gd : Nat} {w w' : World} (h : Only [gp, gu] w w') : Only [gp, gu, gb, gd] w w' := h.mono (fun x hx => by
  simp only [List.mem_cons, List.not_mem_nil, or_false] at hx ⊢
  rcases hx with h | h <;> simp [h])
theorem read_parts {e et : TypeId} {o ot : Bool} {xs : List PSymbol} {ns : List PNode} {vl vn : Value} {Fl Fn : List Nat} {gp gu gb gd f : Nat} {st : RdSt} {c : Int} (hsy : ∀ s ∈ xs, boxIn (boxOf s)) (hx : xs.length ≤ 8) (hn : ns.length ≤ 15) (k : Nat) (n : PNode) (hnd : nodeAt ns k = n) (h0 : n.kind ≠ 0) (hkd : 1 ≤ n.kind ∧ n.kind ≤ 5) (hk : k < ns.length) (hl : RdLen xs.length ns.length st) (hi : RdInv st c) (hc : c + 40000 * ((k : Int) + 1) ≤ 640000) :
    ∃ (p q : Int × RdSt) (s : RdSt), firstS (readS xs ns f) n k st = p ∧ partS (readS xs ns f) p.1 n.a p.2 = q ∧ signSt xs n q.2 = s ∧ readS xs ns (f + 1) k st = (if s.good = true then (q.1, joinSt xs n k s) else (-1, s)) ∧ ReadOk xs.length ns.length st c ((k : Int) - 1) p ∧ ReadOk xs.length ns.length p.2 (c + 40000 * ((k : Int) - 1 - p.1)) p.1 q ∧
      (s.good = true → q.2.good = true ∧ ∀ w', Rd e et o ot xs ns vl vn Fl Fn gp gu gb gd s w' → Calls Try.prog 69 #[.pointer (some ⟨gp, 0, none⟩), .int .i64 (k : Int), .agg #[.int .i64 n.kind, .int .i64 n.a, .int .i64 n.b, .int .i64 n.sign]] w' (RJoin e et o ot xs ns vl vn Fl Fn gp gu gb gd (joinSt xs n k s) w')) := by
  have PO : ReadOk xs.length ns.length st c ((k : Int) - 1) (firstS (readS xs ns f) n k st) := firstS_ok hl hi (fun hk' _ => by
    have := readS_ok xs ns xs.length ns.length hsy f ((k : Int) - 1).toNat st c hl hi
    rwa [Int.toNat_of_nonneg hk'] at this)
  have hE : readS xs ns (f + 1) k st = (if (signSt xs n (partS (readS xs ns f) (firstS (readS xs ns f) n k st).1 n.a (firstS (readS xs ns f) n k st).2).2).good = true
        then ((partS (readS xs ns f) (firstS (readS xs ns f) n k st).1 n.a (firstS (readS xs ns f) n k st).2).1, joinSt xs n k (signSt xs n (partS (readS xs ns f) (firstS (readS xs ns f) n k st).1 n.a (firstS (readS xs ns f) n k st).2).2))
        else (-1, signSt xs n (partS (readS xs ns f) (firstS (readS xs ns f) n k st).1 n.a (firstS (readS xs ns f) n k st).2).2)) := by
    rw [readS, hnd, if_neg h0, if_pos hkd]
  refine ⟨_, _, _, rfl, rfl, rfl, hE, PO, ?_, ?_⟩
  · exact partS_ok PO.1 PO.2.2.1 PO.2.2.2 (fun hk' _ => by
      have := readS_ok xs ns xs.length ns.length hsy f (firstS (readS xs ns f) n k st).1.toNat _ _ PO.2.2.1 PO.2.2.2
      rwa [Int.toNat_of_nonneg hk'] at this)
  · have QO : ReadOk xs.length ns.length (firstS (readS xs ns f) n k st).2 (c + 40000 * ((k : Int) - 1 - (firstS (readS xs ns f) n k st).1)) (firstS (readS xs ns f) n k st).1 (partS (readS xs ns f) (firstS (readS xs ns f) n k st).1 n.a (firstS (readS xs ns f) n k st).2) := partS_ok PO.1 PO.2.2.1 PO.2.2.2 (fun hk' _ => by
      have := readS_ok xs ns xs.length ns.length hsy f (firstS (readS xs ns f) n k st).1.toNat _ _ PO.2.2.1 PO.2.2.2
      rwa [Int.toNat_of_nonneg hk'] at this)
    clear hE
    generalize hp : firstS (readS xs ns f) n k st = p at PO QO ⊢
    generalize hq : partS (readS xs ns f) p.1 n.a p.2 = q at QO ⊢
    intro hg
    obtain ⟨hg2, hsr⟩ := signSt_good hg
    obtain ⟨s1, s2, s3, s4⟩ := signSt_shape xs n q.2
    obtain ⟨q1, q2, QL, QI⟩ := QO
    obtain ⟨p1, p2, _, _⟩ := PO
    have L := QL.like s1 s2 s4
    have I := QI.like s1 s2 s3
    have hg1 := hg2
    rw [← hq] at hg1
    obtain ⟨hgp, ha1, ha2⟩ := partS_good hg1
    refine ⟨hg2, fun w' r => ?_⟩
    have hb : n.kind ≠ 5 → 0 ≤ n.b ∧ n.b < (k : Int) := by
      intro h5
      rw [← hp] at hgp
      unfold firstS at hgp
      rw [if_neg h5] at hgp
      have := partS_good hgp
      omega
    exact spec_join_c n k hkd ⟨by omega, by omega⟩ hb (fun hs => by have := hsr hs; rw [QL.1] at this; exact this) hk w' r ⟨hx, hsy, I.bx, I.dp, by rw [L.2.2]; exact hn, I.cost.1, by have := I.cost.2; omega⟩ hg
end Go.Proofs.Ytkickllohilciaa
