/- The reference's reader of trees, in plain Lean: what its reading computes. No program is named here. Conditions: none. -/
import Derived.Test.YtmopioaojdlnkaaChk5t
namespace Go.Proofs.Ytmopioaojdlnkaa
open Go Go.RowKit
def joinSt (xs : List PSymbol) (n : PNode) (k : Nat) (st : RdSt) : RdSt :=
 { st with boxes := st.boxes.set k (joinB (joinB (partA st.boxes n) (partB st.boxes n)) (signB xs st.boxes n)), depth := st.depth.set k (depthNode st.depth n), cost := st.cost + ownF n.kind (partA st.boxes n) (partB st.boxes n) (signB xs st.boxes n), good := fitsF n.kind (partA st.boxes n) (partB st.boxes n) (signB xs st.boxes n) }
def signSt (xs : List PSymbol) (n : PNode) (st : RdSt) : RdSt :=
 if signed n.kind = true then { takeF st n.sign with good := (takeF st n.sign).good && decide ((symAt xs n.sign).label = labelF n.kind) } else { st with good := st.good && decide (n.sign = 0) }
def partS (rd : Nat → RdSt → Int × RdSt) (p want : Int) (st : RdSt) : Int × RdSt := if st.good = true ∧ p = want ∧ 0 ≤ p then rd p.toNat st else (-1, { st with good := false })
def firstS (rd : Nat → RdSt → Int × RdSt) (n : PNode) (k : Nat) (st : RdSt) : Int × RdSt := if n.kind = 5 then ((k : Int) - 1, { st with good := st.good && decide (n.b = 0) }) else partS rd ((k : Int) - 1) n.b st
def readS (xs : List PSymbol) (ns : List PNode) : Nat → Nat → RdSt → Int × RdSt
 | 0, _, st => (-1, { st with good := false })
 | f + 1, k, st =>
   if (nodeAt ns k).kind = 0 then
    (if (takeF st (nodeAt ns k).a).good = true ∧ (nodeAt ns k).b = 0 ∧ (nodeAt ns k).sign = 0 then ((k : Int) - 1, { takeF st (nodeAt ns k).a with boxes := (takeF st (nodeAt ns k).a).boxes.set k (boxOf (symAt xs (nodeAt ns k).a)), depth := (takeF st (nodeAt ns k).a).depth.set k 1 }) else (-1, { takeF st (nodeAt ns k).a with good := false }))
   else if 1 ≤ (nodeAt ns k).kind ∧ (nodeAt ns k).kind ≤ 5 then
    (if (signSt xs (nodeAt ns k) (partS (readS xs ns f) (firstS (readS xs ns f) (nodeAt ns k) k st).1 (nodeAt ns k).a (firstS (readS xs ns f) (nodeAt ns k) k st).2).2).good = true
      then ((partS (readS xs ns f) (firstS (readS xs ns f) (nodeAt ns k) k st).1 (nodeAt ns k).a (firstS (readS xs ns f) (nodeAt ns k) k st).2).1, joinSt xs (nodeAt ns k) k (signSt xs (nodeAt ns k) (partS (readS xs ns f) (firstS (readS xs ns f) (nodeAt ns k) k st).1 (nodeAt ns k).a (firstS (readS xs ns f) (nodeAt ns k) k st).2).2))
      else (-1, signSt xs (nodeAt ns k) (partS (readS xs ns f) (firstS (readS xs ns f) (nodeAt ns k) k st).1 (nodeAt ns k).a (firstS (readS xs ns f) (nodeAt ns k) k st).2).2))
   else (-1, { st with good := false })
theorem takeF_shape (st : RdSt) (k : Int) : (takeF st k).boxes = st.boxes ∧ (takeF st k).depth = st.depth ∧ (takeF st k).cost = st.cost ∧ (takeF st k).used.length = st.used.length := by
 unfold takeF
 cases e : useK st.used k with
 | none => exact ⟨rfl, rfl, rfl, rfl⟩
 | some us => exact ⟨rfl, rfl, rfl, useK_len e⟩
theorem signSt_shape (xs : List PSymbol) (n : PNode) (st : RdSt) : (signSt xs n st).boxes = st.boxes ∧ (signSt xs n st).depth = st.depth ∧ (signSt xs n st).cost = st.cost ∧ (signSt xs n st).used.length = st.used.length := by
 unfold signSt
 split
 · exact takeF_shape st _
 · exact ⟨rfl, rfl, rfl, rfl⟩
def RdLen (m l : Nat) (st : RdSt) : Prop := st.used.length = m ∧ st.boxes.length = l ∧ st.depth.length = l
structure RdInv (st : RdSt) (c : Int) : Prop where
 bx : ∀ b ∈ st.boxes, boxIn b
 dp : ∀ k (h : k < st.depth.length), 0 ≤ st.depth[k] ∧ st.depth[k] ≤ k + 1
 cost : 0 ≤ st.cost ∧ st.cost ≤ c
theorem RdInv.mono {st : RdSt} {c d : Int} (h : RdInv st c) (hcd : c ≤ d) : RdInv st d := ⟨h.bx, h.dp, h.cost.1, Int.le_trans h.cost.2 hcd⟩
theorem RdInv.like {st s : RdSt} {c : Int} (h : RdInv st c) (h1 : s.boxes = st.boxes) (h2 : s.depth = st.depth) (h3 : s.cost = st.cost) : RdInv s c := by
 obtain ⟨a, b, c, d, e⟩ := st
 obtain ⟨a', b', c', d', e'⟩ := s
 dsimp only at h1 h2 h3
 subst h1; subst h2; subst h3
 exact ⟨h.bx, h.dp, h.cost⟩
theorem RdLen.like {m l : Nat} {st s : RdSt} (h : RdLen m l st) (h1 : s.boxes = st.boxes) (h2 : s.depth = st.depth) (h3 : s.used.length = st.used.length) : RdLen m l s := ⟨h3.trans h.1, by rw [h1]; exact h.2.1, by rw [h2]; exact h.2.2⟩
theorem zeroIn : boxIn ⟨0, 0, 0, 0⟩ := by unfold boxIn; simp
theorem getD_in {bs : List PBox} (h : ∀ b ∈ bs, boxIn b) (k : Nat) : boxIn (bs.getD k ⟨0, 0, 0, 0⟩) := by
 rw [List.getD_eq_getElem?_getD]
 cases e : bs[k]? with
 | none => exact zeroIn
 | some b => exact h b (List.mem_of_getElem? e)
theorem symIn {xs : List PSymbol} (h : ∀ s ∈ xs, boxIn (boxOf s)) (k : Int) : boxIn (boxOf (symAt xs k)) := by
 unfold symAt
 rw [List.getD_eq_getElem?_getD]
 cases e : xs[k.toNat]? with
 | none => exact zeroIn
 | some b => exact h b (List.mem_of_getElem? e)
theorem partA_in {bs : List PBox} (h : ∀ b ∈ bs, boxIn b) (n : PNode) : boxIn (partA bs n) := getD_in h _
theorem partB_in {bs : List PBox} (h : ∀ b ∈ bs, boxIn b) (n : PNode) : boxIn (partB bs n) := by
 unfold partB; split <;> first | exact partA_in h n | exact getD_in h _
theorem signB_in {xs : List PSymbol} (hs : ∀ s ∈ xs, boxIn (boxOf s)) {bs : List PBox} (h : ∀ b ∈ bs, boxIn b) (n : PNode) : boxIn (signB xs bs n) := by
 unfold signB; split <;> first | exact partA_in h n | exact symIn hs _
theorem RdInv.join {xs : List PSymbol} {st : RdSt} {c : Int} {n : PNode} {k : Nat} (hs : ∀ s ∈ xs, boxIn (boxOf s)) (h : RdInv st c) (h0 : n.kind ≠ 0) (ha : 0 ≤ n.a ∧ n.a < (k : Int)) (hb : n.kind ≠ 5 → 0 ≤ n.b ∧ n.b < (k : Int)) : RdInv (joinSt xs n k st) (c + 40000) := by
 have iA := partA_in h.bx n
 have iB := partB_in h.bx n
 have iS := signB_in hs h.bx n
 have ho := ownF_le n.kind iA iB iS
 have hc := h.cost
 have dg : ∀ z : Int, 0 ≤ z → z < (k : Int) → 0 ≤ st.depth.getD z.toNat 0 ∧ st.depth.getD z.toNat 0 ≤ k := by
  intro z hz hk
  rw [List.getD_eq_getElem?_getD]
  cases e : st.depth[z.toNat]? with
  | none => exact ⟨Int.le_refl _, by simp⟩
  | some d =>
    obtain ⟨hl, rfl⟩ := List.getElem?_eq_some_iff.1 e
    have := h.dp _ hl
    exact ⟨this.1, by simp only [Option.getD_some]; omega⟩
 refine ⟨?_, ?_, ?_⟩
 · intro b hb'
   rcases List.mem_or_eq_of_mem_set hb' with h1 | h1
   · exact h.bx b h1
   · rw [h1]; exact boxIn_join (boxIn_join iA iB) iS
 · intro j hj
   have hj' : j < st.depth.length := by simpa [joinSt] using hj
   show 0 ≤ (st.depth.set k (depthNode st.depth n))[j]'(by simpa using hj') ∧ (st.depth.set k (depthNode st.depth n))[j]'(by simpa using hj') ≤ j + 1
   by_cases e : k = j
   · subst e
     rw [List.getElem_set_self]
     have h1 := dg n.a ha.1 ha.2
     unfold depthNode
     rw [if_neg h0]
     split
     · omega
     · rename_i h5
       have h2 := dg n.b (hb h5).1 (hb h5).2
       omega
   · rw [List.getElem_set_ne e]
     exact h.dp j hj'
 · show 0 ≤ st.cost + ownF n.kind (partA st.boxes n) (partB st.boxes n) (signB xs st.boxes n) ∧ st.cost + ownF n.kind (partA st.boxes n) (partB st.boxes n) (signB xs st.boxes n) ≤ c + 40000
   omega
theorem partS_good {rd : Nat → RdSt → Int × RdSt} {p want : Int} {st : RdSt} (h : (partS rd p want st).2.good = true) : st.good = true ∧ p = want ∧ 0 ≤ p := by
 unfold partS at h
 split at h
 · assumption
 · cases h
theorem takeF_bad {st : RdSt} (hg : st.good = false) (k : Int) : (takeF st k).good = false := by
 unfold takeF
 split
 · exact hg
 · rfl
theorem takeF_in {st : RdSt} {k : Int} (h : (takeF st k).good = true) : 0 ≤ k ∧ k < (st.used.length : Int) := by
 unfold takeF useK at h
 by_cases e : 0 ≤ k ∧ k < (st.used.length : Int) ∧ st.used.getD k.toNat true = false
 · exact ⟨e.1, e.2.1⟩
 · rw [if_neg e] at h; cases h
theorem signSt_bad {xs : List PSymbol} {st : RdSt} (hg : st.good = false) (n : PNode) : (signSt xs n st).good = false := by
 unfold signSt
 split
 · dsimp only; rw [takeF_bad hg]; rfl
 · dsimp only; rw [hg]; rfl
theorem signSt_good {xs : List PSymbol} {st : RdSt} {n : PNode} (h : (signSt xs n st).good = true) : st.good = true ∧ (signed n.kind = true → 0 ≤ n.sign ∧ n.sign < (st.used.length : Int)) := by
 cases hg : st.good with
 | false => rw [signSt_bad hg] at h; cases h
 | true =>
   refine ⟨rfl, fun hs => ?_⟩
   unfold signSt at h
   rw [if_pos hs] at h
   dsimp only at h
   rw [Bool.and_eq_true] at h
   have h1 := h.1
   unfold takeF useK at h1
   by_cases e : 0 ≤ n.sign ∧ n.sign < (st.used.length : Int) ∧ st.used.getD n.sign.toNat true = false
   · exact ⟨e.1, e.2.1⟩
   · rw [if_neg e] at h1; cases h1
def ReadOk (m l : Nat) (_ : RdSt) (c : Int) (k : Int) (R : Int × RdSt) : Prop := -1 ≤ R.1 ∧ R.1 ≤ k ∧ RdLen m l R.2 ∧ RdInv R.2 (c + 40000 * (k - R.1))
theorem ReadOk.bad {m l : Nat} {st s : RdSt} {c k : Int} (hk : -1 ≤ k) (hl : RdLen m l st) (h : RdInv st c) (h1 : s.boxes = st.boxes) (h2 : s.depth = st.depth) (h3 : s.cost = st.cost) (h4 : s.used.length = st.used.length) : ReadOk m l st c k (-1, s) :=
 ⟨Int.le_refl _, hk, hl.like h1 h2 h4, (h.like h1 h2 h3).mono (by show c ≤ c + 40000 * (k - (-1)); omega)⟩
theorem partS_ok {m l : Nat} {rd : Nat → RdSt → Int × RdSt} {p want c : Int} {st : RdSt} (hp : -1 ≤ p) (hl : RdLen m l st) (h : RdInv st c) (hrd : 0 ≤ p → st.good = true → ReadOk m l st c p (rd p.toNat st)) : ReadOk m l st c p (partS rd p want st) := by
 unfold partS
 split
 · rename_i hc; exact hrd hc.2.2 hc.1
 · exact .bad hp hl h rfl rfl rfl rfl
theorem firstS_ok {m l : Nat} {rd : Nat → RdSt → Int × RdSt} {n : PNode} {k : Nat} {c : Int} {st : RdSt} (hl : RdLen m l st) (h : RdInv st c) (hrd : 0 ≤ (k : Int) - 1 → st.good = true → ReadOk m l st c ((k : Int) - 1) (rd ((k : Int) - 1).toNat st)) : ReadOk m l st c ((k : Int) - 1) (firstS rd n k st) := by
 unfold firstS
 split
 · exact ⟨by show -1 ≤ (k : Int) - 1; omega, Int.le_refl _, hl.like rfl rfl rfl, (h.like (s := { st with good := st.good && decide (n.b = 0) }) rfl rfl rfl).mono (by show c ≤ c + 40000 * ((k : Int) - 1 - ((k : Int) - 1)); omega)⟩
 · exact partS_ok (by omega) hl h hrd
theorem readS_ok (xs : List PSymbol) (ns : List PNode) (m l : Nat) (hs : ∀ s ∈ xs, boxIn (boxOf s)) : ∀ (f k : Nat) (st : RdSt) (c : Int), RdLen m l st → RdInv st c → ReadOk m l st c k (readS xs ns f k st)
 | 0, k, st, c, hl, h => .bad (by omega) hl h rfl rfl rfl rfl
 | f + 1, k, st, c, hl, h => by
   unfold readS
   generalize nodeAt ns k = n
   split
   · obtain ⟨t1, t2, t3, t4⟩ := takeF_shape st n.a
     split
     · refine ⟨by show -1 ≤ (k : Int) - 1; omega, by show (k : Int) - 1 ≤ k; omega, ⟨t4.trans hl.1, ?_, ?_⟩, ?_, ?_, ?_⟩
       · show ((takeF st n.a).boxes.set k _).length = l; rw [List.length_set, t1]; exact hl.2.1
       · show ((takeF st n.a).depth.set k _).length = l; rw [List.length_set, t2]; exact hl.2.2
       · intro b hb
         rcases List.mem_or_eq_of_mem_set hb with h1 | h1
         · rw [t1] at h1; exact h.bx b h1
         · rw [h1]; exact symIn hs _
       · intro j hj
         have hj' : j < (takeF st n.a).depth.length := by simpa using hj
         show 0 ≤ ((takeF st n.a).depth.set k 1)[j]'(by simpa using hj') ∧ ((takeF st n.a).depth.set k 1)[j]'(by simpa using hj') ≤ j + 1
         by_cases e : k = j
         · subst e; rw [List.getElem_set_self]; omega
         · rw [List.getElem_set_ne e]
           have := h.dp j (by rw [← t2]; exact hj')
           simpa [t2] using this
       · show 0 ≤ (takeF st n.a).cost ∧ (takeF st n.a).cost ≤ c + 40000 * ((k : Int) - ((k : Int) - 1))
         rw [t3]; have := h.cost; omega
     · exact .bad (by omega) hl h t1 t2 t3 t4
   · rename_i h0
     split
     · have P : ReadOk m l st c ((k : Int) - 1) (firstS (readS xs ns f) n k st) := firstS_ok hl h (fun hk _ => by
        have := readS_ok xs ns m l hs f ((k : Int) - 1).toNat st c hl h
        rwa [Int.toNat_of_nonneg hk] at this)
       generalize hp : firstS (readS xs ns f) n k st = p at P
       obtain ⟨p1, p2, p3, p4⟩ := P
       have Q : ReadOk m l p.2 (c + 40000 * ((k : Int) - 1 - p.1)) p.1 (partS (readS xs ns f) p.1 n.a p.2) := partS_ok p1 p3 p4 (fun hk _ => by
        have := readS_ok xs ns m l hs f p.1.toNat p.2 _ p3 p4
        rwa [Int.toNat_of_nonneg hk] at this)
       generalize hq : partS (readS xs ns f) p.1 n.a p.2 = q at Q
       obtain ⟨q1, q2, q3, q4⟩ := Q
       obtain ⟨s1, s2, s3, s4⟩ := signSt_shape xs n q.2
       have L := q3.like s1 s2 s4
       have I := q4.like s1 s2 s3
       split
       · rename_i hg
         obtain ⟨hg2, _⟩ := signSt_good hg
         rw [← hq] at hg2
         obtain ⟨hg1, ha1, ha2⟩ := partS_good hg2
         have hb : n.kind ≠ 5 → 0 ≤ n.b ∧ n.b < (k : Int) := by
          intro h5
          rw [← hp] at hg1
          unfold firstS at hg1
          rw [if_neg h5] at hg1
          have := partS_good hg1
          omega
         have J := I.join (n := n) (k := k) hs h0 (by omega) hb
         refine ⟨q1, by show q.1 ≤ k; omega, ⟨L.1, ?_, ?_⟩, J.mono ?_⟩
         · show (List.set _ _ _).length = l; rw [List.length_set]; exact L.2.1
         · show (List.set _ _ _).length = l; rw [List.length_set]; exact L.2.2
         · show c + 40000 * ((k : Int) - 1 - p.1) + 40000 * (p.1 - q.1) + 40000 ≤ c + 40000 * ((k : Int) - q.1); omega
       · exact ⟨by show -1 ≤ (-1 : Int); omega, by show (-1 : Int) ≤ k; omega, L, I.mono (by show c + 40000 * ((k : Int) - 1 - p.1) + 40000 * (p.1 - q.1) ≤ c + 40000 * ((k : Int) - (-1)); omega)⟩
     · exact .bad (by omega) hl h rfl rfl rfl rfl
structure Seg (xs : List PSymbol) (ns : List PNode) (lo hi : Nat) (st s : RdSt) : Prop where
 cost : s.cost = st.cost + (costF xs ns hi - costF xs ns lo)
 bx : ∀ j, lo ≤ j → j < hi → s.boxes[j]? = some (boxAt xs ns j)
 dp : ∀ j, lo ≤ j → j < hi → s.depth[j]? = some (depthAt ns j)
 bo : ∀ j, j < lo ∨ hi ≤ j → s.boxes[j]? = st.boxes[j]?
 dq : ∀ j, j < lo ∨ hi ≤ j → s.depth[j]? = st.depth[j]?
theorem Seg.join {xs : List PSymbol} {ns : List PNode} {lo m hi : Nat} {st s r : RdSt} (h1 : Seg xs ns m hi st s) (h2 : Seg xs ns lo m s r) (hl : lo ≤ m) (hm : m ≤ hi) : Seg xs ns lo hi st r := by
 refine ⟨by rw [h2.cost, h1.cost]; omega, ?_, ?_, ?_, ?_⟩
 · intro j a b
   by_cases e : j < m
   · exact h2.bx j a e
   · rw [h2.bo j (by omega)]; exact h1.bx j (by omega) b
 · intro j a b
   by_cases e : j < m
   · exact h2.dp j a e
   · rw [h2.dq j (by omega)]; exact h1.dp j (by omega) b
 · intro j a
   rw [h2.bo j (by omega), h1.bo j (by omega)]
 · intro j a
   rw [h2.dq j (by omega), h1.dq j (by omega)]
theorem Seg.like {xs : List PSymbol} {ns : List PNode} {lo hi : Nat} {st s r : RdSt} (h : Seg xs ns lo hi st s) (h1 : r.boxes = s.boxes) (h2 : r.depth = s.depth) (h3 : r.cost = s.cost) : Seg xs ns lo hi st r := by
 obtain ⟨a, b, c, d, e⟩ := s
 obtain ⟨a', b', c', d', e'⟩ := r
 dsimp only at h1 h2 h3
 subst h1; subst h2; subst h3
 exact ⟨h.cost, h.bx, h.dp, h.bo, h.dq⟩
theorem Seg.none {xs : List PSymbol} {ns : List PNode} {lo : Nat} {st s : RdSt} (h1 : s.boxes = st.boxes) (h2 : s.depth = st.depth) (h3 : s.cost = st.cost) : Seg xs ns lo lo st s :=
 ⟨by rw [h3]; omega, fun j a b => by omega, fun j a b => by omega, fun j _ => by rw [h1], fun j _ => by rw [h2]⟩
def Says (xs : List PSymbol) (ns : List PNode) (hi : Nat) (st : RdSt) (R : Int × RdSt) : Option (List Bool × Nat) → Prop
 | some (vs, lo) => lo ≤ hi ∧ R.1 = (lo : Int) - 1 ∧ R.2.good = true ∧ R.2.used = vs ∧ Seg xs ns lo hi st R.2
 | none => R.2.good = false
theorem getD_some {α : Type} {l : List α} {k : Nat} {x d : α} (h : l[k]? = some x) : l.getD k d = x := by rw [List.getD_eq_getElem?_getD, h]; rfl
theorem Seg.step {xs : List PSymbol} {ns : List PNode} {lo k : Nat} {st s r : RdSt} (h : Seg xs ns lo k st s) (hlo : lo ≤ k) (hb : k < s.boxes.length) (hd : k < s.depth.length) (e1 : r.boxes = s.boxes.set k (boxAt xs ns k)) (e2 : r.depth = s.depth.set k (depthAt ns k)) (e3 : r.cost = s.cost + ownNode xs (boxesF xs ns k) (nodeAt ns k)) : Seg xs ns lo (k + 1) st r := by
 refine ⟨by rw [e3, h.cost, costF_succ]; omega, ?_, ?_, ?_, ?_⟩
 · intro j a b
   rw [e1]
   by_cases e : j = k
   · subst e; rw [List.getElem?_set_self hb]
   · rw [List.getElem?_set_ne (fun x => e x.symm)]; exact h.bx j a (by omega)
 · intro j a b
   rw [e2]
   by_cases e : j = k
   · subst e; rw [List.getElem?_set_self hd]
   · rw [List.getElem?_set_ne (fun x => e x.symm)]; exact h.dp j a (by omega)
 · intro j a
   rw [e1, List.getElem?_set_ne (by omega)]; exact h.bo j (by omega)
 · intro j a
   rw [e2, List.getElem?_set_ne (by omega)]; exact h.dq j (by omega)
theorem readU_le {xs : List PSymbol} {ns : List PNode} {f k : Nat} {us vs : List Bool} {lo : Nat} (hk : k < f) (h : readU xs ns f k us = some (vs, lo)) : lo ≤ k := by
 rw [readU_eq xs ns f k us hk] at h
 cases e : loAt ns k with
 | none => rw [e] at h; cases h
 | some l =>
   rw [e] at h
   dsimp only at h
   split at h
   · cases e2 : useAll us (symsF ns l (k + 1)) with
     | none => rw [e2] at h; cases h
     | some y =>
       rw [e2] at h
       simp only [Option.map_some, Option.some.injEq, Prod.mk.injEq] at h
       have := loAt_lt ns e
       omega
   · cases h
theorem sign_says (xs : List PSymbol) (n : PNode) {st : RdSt} (hg : st.good = true) : match signUse xs st.used n with
 | some ws => signSt xs n st = { st with used := ws }
 | none => (signSt xs n st).good = false := by
 unfold signUse signSt takeF
 by_cases hs : signed n.kind = true
 · rw [if_pos hs, if_pos hs]
   cases hu : useK st.used n.sign with
   | none => rfl
   | some us =>
     rw [Option.bind_some]
     by_cases hl : (symAt xs n.sign).label = labelF n.kind
     · rw [if_pos hl]; simp [hg, hl]
     · rw [if_neg hl]; simp [hl]
 · rw [if_neg hs, if_neg hs]
   by_cases hz : n.sign = 0
   · rw [if_pos hz]; obtain ⟨a, b, c, d, e⟩ := st; dsimp only at hg; subst hg; simp [hz]
   · rw [if_neg hz]; simp [hz]
theorem readS_U (xs : List PSymbol) (ns : List PNode) (m : Nat) (hs : ∀ s ∈ xs, boxIn (boxOf s)) : ∀ (f k : Nat) (st : RdSt) (c : Int), k < f → k < ns.length → RdLen m ns.length st → RdInv st c → st.good = true → Says xs ns (k + 1) st (readS xs ns f k st) (readU xs ns f k st.used)
 | 0, k, st, c, hf, _, _, _, _ => by omega
 | f + 1, k, st, c, hf, hk, hl, hi, hg => by
   have hbA : boxAt xs ns k = boxNode xs (boxesF xs ns k) (nodeAt ns k) := rfl
   have hdA : depthAt ns k = depthNode (depthsF ns k) (nodeAt ns k) := rfl
   have gB : ∀ {s : RdSt} {lo : Nat} {z : Int}, Seg xs ns lo k st s → (lo : Int) ≤ z → z < (k : Int) → s.boxes.getD z.toNat ⟨0, 0, 0, 0⟩ = (boxesF xs ns k).getD z.toNat ⟨0, 0, 0, 0⟩ := fun {s lo z} h a b => by
    rw [getD_some (h.bx z.toNat (by omega) (by omega)), getD_some (boxesF_get xs ns (m := k) (by omega))]
   have gD : ∀ {s : RdSt} {lo : Nat} {z : Int}, Seg xs ns lo k st s → (lo : Int) ≤ z → z < (k : Int) → s.depth.getD z.toNat 0 = (depthsF ns k).getD z.toNat 0 := fun {s lo z} h a b => by
    rw [getD_some (h.dp z.toNat (by omega) (by omega)), getD_some (depthsF_get ns (m := k) (by omega))]
   have ST := fun (s r : RdSt) (lo : Nat) (h : Seg xs ns lo k st s) (a : lo ≤ k) (b : k < s.boxes.length) (c : k < s.depth.length) => Seg.step (r := r) h a b c
   rw [hbA, hdA] at ST
   unfold readS readU
   dsimp only
   generalize nodeAt ns k = n at ST ⊢
   by_cases h0 : n.kind = 0
   · rw [if_pos h0, if_pos h0]
     cases hu : useK st.used n.a with
     | none =>
       have e : takeF st n.a = { st with good := false } := by unfold takeF; rw [hu]
       rw [e]
       simp [Says]
     | some vs =>
       have e : takeF st n.a = { st with used := vs } := by unfold takeF; rw [hu]
       rw [e, Option.bind_some]
       dsimp only
       by_cases hb : n.b = 0 ∧ n.sign = 0
       · rw [if_pos hb, if_pos ⟨hg, hb⟩]
         refine ⟨by omega, rfl, hg, rfl, ST st _ k (.none rfl rfl rfl) (Nat.le_refl _) (by rw [hl.2.1]; exact hk) (by rw [hl.2.2]; exact hk) ?_ ?_ ?_⟩
         · show st.boxes.set k _ = _; simp [boxNode, h0]
         · show st.depth.set k _ = _; simp [depthNode, h0]
         · show st.cost = _; simp [ownNode, h0]
       · rw [if_neg hb, if_neg (fun hh => hb hh.2)]
         rfl
   · rw [if_neg h0, if_neg h0]
     by_cases hk5 : 1 ≤ n.kind ∧ n.kind ≤ 5
     · rw [if_pos hk5, if_pos hk5]
       have P : Says xs ns k st (firstS (readS xs ns f) n k st) (if n.kind = 5 then (if n.b = 0 then some (st.used, k) else none) else if 0 ≤ n.b ∧ n.b + 1 = (k : Int) then readU xs ns f (k - 1) st.used else none) := by
        unfold firstS
        by_cases h5 : n.kind = 5
        · rw [if_pos h5, if_pos h5]
          by_cases hb : n.b = 0
          · rw [if_pos hb]
            exact ⟨Nat.le_refl _, rfl, by simp [hg, hb], rfl, .none rfl rfl rfl⟩
          · rw [if_neg hb]
            show (st.good && decide (n.b = 0)) = false
            simp [hb]
        · rw [if_neg h5, if_neg h5]
          unfold partS
          by_cases hb : 0 ≤ n.b ∧ n.b + 1 = (k : Int)
          · rw [if_pos hb, if_pos ⟨hg, by omega, by omega⟩]
            have := readS_U xs ns m hs f (k - 1) st c (by omega) (by omega) hl hi hg
            rw [show ((k : Int) - 1).toNat = k - 1 by omega]
            rwa [show k - 1 + 1 = k by omega] at this
          · rw [if_neg hb, if_neg (by omega)]
            rfl
       have PO : ReadOk m ns.length st c ((k : Int) - 1) (firstS (readS xs ns f) n k st) := firstS_ok hl hi (fun hk _ => by
        have := readS_ok xs ns m ns.length hs f ((k : Int) - 1).toNat st c hl hi
        rwa [Int.toNat_of_nonneg hk] at this)
       generalize (if n.kind = 5 then (if n.b = 0 then some (st.used, k) else none) else if 0 ≤ n.b ∧ n.b + 1 = (k : Int) then readU xs ns f (k - 1) st.used else none) = u1 at P ⊢
       generalize hp : firstS (readS xs ns f) n k st = p at P PO ⊢
       cases u1 with
       | none =>
         have P' : p.2.good = false := P
         have q : (partS (readS xs ns f) p.1 n.a p.2).2.good = false := by
          unfold partS
          rw [if_neg (by rw [P']; simp)]
         have s := signSt_bad (xs := xs) q n
         rw [if_neg (by rw [s]; simp)]
         exact s
       | some up =>
         obtain ⟨vs, mm⟩ := up
         obtain ⟨pm, p1, pg, pu, pS⟩ := P
         rw [Option.bind_some]
         dsimp only
         have hnb : n.kind ≠ 5 → 0 ≤ n.b ∧ n.b + 1 = (k : Int) := by
          intro h5
          rw [← hp] at pg
          unfold firstS at pg
          rw [if_neg h5] at pg
          have := partS_good pg
          omega
         obtain ⟨_, _, PL, PI⟩ := PO
         have Q : Says xs ns k st (partS (readS xs ns f) p.1 n.a p.2) (if 0 ≤ n.a ∧ n.a + 1 = (mm : Int) then readU xs ns f (mm - 1) vs else none) ∧ ∀ zs lo, (if 0 ≤ n.a ∧ n.a + 1 = (mm : Int) then readU xs ns f (mm - 1) vs else none) = some (zs, lo) → (lo : Int) ≤ n.a ∧ n.a + 1 = (mm : Int) := by
          unfold partS
          by_cases ha : 0 ≤ n.a ∧ n.a + 1 = (mm : Int)
          · rw [if_pos ha, if_pos ⟨pg, by omega, by omega⟩]
            have := readS_U xs ns m hs f (mm - 1) p.2 _ (by omega) (by omega) PL PI pg
            rw [show mm - 1 + 1 = mm by omega, pu] at this
            rw [show p.1.toNat = mm - 1 by omega]
            have hle := fun zs lo => readU_le (xs := xs) (ns := ns) (f := f) (k := mm - 1) (us := vs) (vs := zs) (lo := lo) (by omega)
            generalize readS xs ns f (mm - 1) p.2 = R at this ⊢
            generalize readU xs ns f (mm - 1) vs = u at this hle ⊢
            refine ⟨?_, fun zs lo e => ?_⟩
            · cases u with
              | none => exact this
              | some y =>
                obtain ⟨zs, lo⟩ := y
                obtain ⟨t0, t1, t2, t3, t4⟩ := this
                exact ⟨by omega, t1, t2, t3, pS.join t4 t0 pm⟩
            · have := hle zs lo e
              omega
          · rw [if_neg ha, if_neg (by omega)]
            exact ⟨rfl, fun _ _ e => by cases e⟩
         generalize (if 0 ≤ n.a ∧ n.a + 1 = (mm : Int) then readU xs ns f (mm - 1) vs else none) = u2 at Q ⊢
         have QL : RdLen m ns.length (partS (readS xs ns f) p.1 n.a p.2).2 := (partS_ok (by omega) PL PI (fun hk _ => by
          have := readS_ok xs ns m ns.length hs f p.1.toNat p.2 _ PL PI
          rwa [Int.toNat_of_nonneg hk] at this)).2.2.1
         generalize partS (readS xs ns f) p.1 n.a p.2 = q at Q QL ⊢
         obtain ⟨Q, QA⟩ := Q
         cases u2 with
         | none =>
           have Q' : q.2.good = false := Q
           have s := signSt_bad (xs := xs) Q' n
           rw [if_neg (by rw [s]; simp)]
           exact s
         | some uq =>
           obtain ⟨zs, lo⟩ := uq
           obtain ⟨ql, q1, qg, qu, qS⟩ := Q
           obtain ⟨a1, a2⟩ := QA zs lo rfl
           rw [Option.bind_some]
           dsimp only
           have SG := sign_says xs n qg
           rw [qu] at SG
           cases hu : signUse xs zs n with
           | none =>
             rw [hu] at SG
             have s : (signSt xs n q.2).good = false := SG
             rw [if_neg (by rw [s]; simp)]
             exact s
           | some ws =>
             rw [hu] at SG
             have s : signSt xs n q.2 = { q.2 with used := ws } := SG
             rw [s, if_pos (show ({ q.2 with used := ws } : RdSt).good = true from qg), Option.bind_some]
             have eA : partA q.2.boxes n = partA (boxesF xs ns k) n := gB qS a1 (by omega)
             have eB : partB q.2.boxes n = partB (boxesF xs ns k) n := by
              unfold partB
              split
              · exact eA
              · rename_i h5; have := hnb h5; exact gB qS (by omega) (by omega)
             have eS : signB xs q.2.boxes n = signB xs (boxesF xs ns k) n := by
              unfold signB; rw [eA]
             have eD : depthNode q.2.depth n = depthNode (depthsF ns k) n := by
              unfold depthNode
              rw [if_neg h0, if_neg h0, gD qS a1 (by omega)]
              split
              · rfl
              · rename_i h5; have := hnb h5; rw [gD qS (by omega) (by omega)]
             have hjoin : joinSt xs n k { q.2 with used := ws } = ⟨ws, q.2.boxes.set k (boxNode xs (boxesF xs ns k) n), q.2.depth.set k (depthNode (depthsF ns k) n), q.2.cost + ownNode xs (boxesF xs ns k) n, fitsF n.kind (partA (boxesF xs ns k) n) (partB (boxesF xs ns k) n) (signB xs (boxesF xs ns k) n)⟩ := by
              unfold joinSt boxNode ownNode
              dsimp only
              rw [eA, eB, eS, eD, if_neg h0, if_neg h0]
             rw [hjoin]
             by_cases hf : fitsF n.kind (partA (boxesF xs ns k) n) (partB (boxesF xs ns k) n) (signB xs (boxesF xs ns k) n) = true
             · rw [if_pos hf]
               exact ⟨by omega, q1, hf, rfl, ST q.2 _ lo qS ql (by rw [QL.2.1]; exact hk) (by rw [QL.2.2]; exact hk) rfl rfl rfl⟩
             · rw [if_neg hf]
               show fitsF n.kind (partA (boxesF xs ns k) n) (partB (boxesF xs ns k) n) (signB xs (boxesF xs ns k) n) = false
               simpa using hf
     · rw [if_neg hk5, if_neg hk5]
       rfl
end Go.Proofs.Ytmopioaojdlnkaa
