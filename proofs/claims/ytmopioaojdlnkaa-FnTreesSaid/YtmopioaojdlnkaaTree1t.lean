/- Trees of symbols, in plain Lean: what the program's check finds is what the reference's reading finds. No program is named here. Conditions: none. -/
import Derived.Test.YtmopioaojdlnkaaTyBoxt
namespace Go.Proofs.Ytmopioaojdlnkaa
open Go Go.RowKit
def boxOf (s : PSymbol) : PBox := ⟨s.x1, s.y1, s.x2, s.y2⟩
def joinB (a b : PBox) : PBox := ⟨min a.x1 b.x1, min a.y1 b.y1, max a.x2 b.x2, max a.y2 b.y2⟩
theorem joinB_self (a : PBox) : joinB a a = a := by cases a; simp [joinB]
def relF (a b : PBox) : Int :=
 if (a.x1 ≤ b.x1 ∧ a.y1 ≤ b.y1 ∧ b.x2 ≤ a.x2 ∧ b.y2 ≤ a.y2) ∧ a ≠ b then 6
 else if a.x1 + a.x2 ≤ 2 * b.x1 then (if 2 * b.y2 ≤ a.y1 + a.y2 then 4 else if a.y1 + a.y2 ≤ 2 * b.y1 then 5 else 1)
 else if b.y2 ≤ a.y1 then 2
 else if a.y2 ≤ b.y1 then 3
 else 0
def absI (n : Int) : Int := if n < 0 then -n else n
def fitsF (kind : Int) (a b s : PBox) : Bool :=
 if kind = 1 then decide (relF a b = 1)
 else if kind = 2 then decide (relF s a = 2) && decide (relF s b = 3)
 else if kind = 3 then decide (relF a b = 4)
 else if kind = 4 then decide (relF a b = 5)
 else if kind = 5 then decide (relF s a = 6)
 else false
def ownF (kind : Int) (a b s : PBox) : Int :=
 if kind = 1 then absI (a.y1 + a.y2 - b.y1 - b.y2) + max (b.x1 - a.x2) 0
 else if kind = 2 then absI (a.x1 + a.x2 - s.x1 - s.x2) + absI (b.x1 + b.x2 - s.x1 - s.x2)
 else if kind = 3 then absI (b.x1 - a.x2) + absI (b.y2 - a.y1) + 20
 else if kind = 4 then absI (b.x1 - a.x2) + absI (b.y1 - a.y2) + 20
 else 0
def minus1 : ByteArray := ⟨#[45]⟩
def root1 : ByteArray := ⟨#[114]⟩
def signed (kind : Int) : Bool := decide (kind = 2 ∨ kind = 5)
def labelF (kind : Int) : ByteArray := if kind = 2 then minus1 else if kind = 5 then root1 else .empty
section
variable (xs : List PSymbol) (ns : List PNode)
def symAt (k : Int) : PSymbol := xs.getD k.toNat ⟨.empty, 0, 0, 0, 0⟩
def nodeAt (k : Nat) : PNode := ns.getD k ⟨0, 0, 0, 0⟩
def symOf (n : PNode) : List Int := if n.kind = 0 then [n.a] else if signed n.kind then [n.sign] else []
def plainOk (n : PNode) : Bool :=
 if n.kind = 0 then decide (n.b = 0) && decide (n.sign = 0)
 else if n.kind = 5 then decide (n.b = 0) && decide ((symAt xs n.sign).label = root1)
 else if n.kind = 2 then decide ((symAt xs n.sign).label = minus1)
 else decide (n.kind = 1 ∨ n.kind = 3 ∨ n.kind = 4) && decide (n.sign = 0)
def loNode (los : List (Option Nat)) (k : Nat) (n : PNode) : Option Nat :=
 if n.kind = 0 then some k
 else if n.kind = 5 then (if 0 ≤ n.a ∧ n.a + 1 = (k : Int) then los.getD (k - 1) none else none)
 else if 0 ≤ n.b ∧ n.b + 1 = (k : Int) then
  match los.getD (k - 1) none with
  | some l => if 0 ≤ n.a ∧ n.a + 1 = (l : Int) then los.getD (l - 1) none else none
  | none => none
 else none
def losF : Nat → List (Option Nat)
 | 0 => []
 | k + 1 => losF k ++ [loNode (losF k) k (nodeAt ns k)]
def partA (bs : List PBox) (n : PNode) : PBox := bs.getD n.a.toNat ⟨0, 0, 0, 0⟩
def partB (bs : List PBox) (n : PNode) : PBox := if n.kind = 5 then partA bs n else bs.getD n.b.toNat ⟨0, 0, 0, 0⟩
def signB (bs : List PBox) (n : PNode) : PBox := if signed n.kind then boxOf (symAt xs n.sign) else partA bs n
def boxNode (bs : List PBox) (n : PNode) : PBox :=
 if n.kind = 0 then boxOf (symAt xs n.a) else joinB (joinB (partA bs n) (partB bs n)) (signB xs bs n)
def boxesF : Nat → List PBox
 | 0 => []
 | k + 1 => boxesF k ++ [boxNode xs (boxesF k) (nodeAt ns k)]
def ownNode (bs : List PBox) (n : PNode) : Int := if n.kind = 0 then 0 else ownF n.kind (partA bs n) (partB bs n) (signB xs bs n)
def costF : Nat → Int
 | 0 => 0
 | k + 1 => costF k + ownNode xs (boxesF xs ns k) (nodeAt ns k)
def depthNode (ds : List Int) (n : PNode) : Int :=
 if n.kind = 0 then 1 else if n.kind = 5 then ds.getD n.a.toNat 0 + 1 else max (ds.getD n.a.toNat 0) (ds.getD n.b.toNat 0) + 1
def depthsF : Nat → List Int
 | 0 => []
 | k + 1 => depthsF k ++ [depthNode (depthsF k) (nodeAt ns k)]
def fitsNode (bs : List PBox) (n : PNode) : Bool := decide (n.kind = 0) || fitsF n.kind (partA bs n) (partB bs n) (signB xs bs n)
def goodAt (k : Nat) : Bool := (loNode (losF ns k) k (nodeAt ns k)).isSome && (plainOk xs (nodeAt ns k) && fitsNode xs (boxesF xs ns k) (nodeAt ns k))
def symsF (lo hi : Nat) : List Int := (List.range' lo (hi - lo)).flatMap fun k => symOf (nodeAt ns k)
theorem losF_len : ∀ k, (losF ns k).length = k
 | 0 => rfl
 | k + 1 => by simp [losF, losF_len k]
theorem boxesF_len : ∀ k, (boxesF xs ns k).length = k
 | 0 => rfl
 | k + 1 => by simp [boxesF, boxesF_len k]
theorem depthsF_len : ∀ k, (depthsF ns k).length = k
 | 0 => rfl
 | k + 1 => by simp [depthsF, depthsF_len k]
def loAt (k : Nat) : Option Nat := (losF ns (k + 1)).getD k none
theorem losF_get : ∀ {m k : Nat}, k < m → (losF ns m).getD k none = loAt ns k
 | 0, k, h => by omega
 | m + 1, k, h => by
   by_cases e : k = m
   · subst e; rfl
   · have h1 := losF_get (m := m) (k := k) (by omega)
     rw [← h1, losF, List.getD_eq_getElem?_getD, List.getD_eq_getElem?_getD, List.getElem?_append_left (by rw [losF_len]; omega)]
theorem loAt_eq (k : Nat) : loAt ns k = loNode (losF ns k) k (nodeAt ns k) := by
 unfold loAt
 rw [show losF ns (k + 1) = losF ns k ++ [loNode (losF ns k) k (nodeAt ns k)] from rfl, List.getD_eq_getElem?_getD, List.getElem?_append_right (by rw [losF_len]; omega), losF_len]
 simp
def boxAt (k : Nat) : PBox := boxNode xs (boxesF xs ns k) (nodeAt ns k)
theorem boxesF_get : ∀ {m k : Nat}, k < m → (boxesF xs ns m)[k]? = some (boxAt xs ns k)
 | 0, k, h => by omega
 | m + 1, k, h => by
   by_cases e : k = m
   · subst e
     rw [boxesF, List.getElem?_append_right (by rw [boxesF_len]; omega), boxesF_len]
     simp [boxAt]
   · have h1 := boxesF_get (m := m) (k := k) (by omega)
     rw [← h1, boxesF, List.getElem?_append_left (by rw [boxesF_len]; omega)]
def depthAt (k : Nat) : Int := depthNode (depthsF ns k) (nodeAt ns k)
theorem depthsF_get : ∀ {m k : Nat}, k < m → (depthsF ns m)[k]? = some (depthAt ns k)
 | 0, k, h => by omega
 | m + 1, k, h => by
   by_cases e : k = m
   · subst e
     rw [depthsF, List.getElem?_append_right (by rw [depthsF_len]; omega), depthsF_len]
     simp [depthAt]
   · have h1 := depthsF_get (m := m) (k := k) (by omega)
     rw [← h1, depthsF, List.getElem?_append_left (by rw [depthsF_len]; omega)]
def useK (us : List Bool) (k : Int) : Option (List Bool) := if 0 ≤ k ∧ k < (us.length : Int) ∧ us.getD k.toNat true = false then some (us.set k.toNat true) else none
def useAll (us : List Bool) (l : List Int) : Option (List Bool) := l.foldlM useK us
theorem useK_len {us vs : List Bool} {k : Int} (h : useK us k = some vs) : vs.length = us.length := by
 unfold useK at h
 split at h
 · injection h with h; rw [← h]; simp
 · cases h
theorem useAll_len : ∀ {l : List Int} {us vs : List Bool}, useAll us l = some vs → vs.length = us.length
 | [], us, vs, h => by simp [useAll] at h; rw [h]
 | k :: l, us, vs, h => by
   unfold useAll at h
   rw [List.foldlM_cons] at h
   cases e : useK us k with
   | none => rw [e] at h; cases h
   | some ws =>
     rw [e] at h
     have := useAll_len (l := l) h
     rw [this, useK_len e]
theorem useAll_cons (us : List Bool) (k : Int) (l : List Int) : useAll us (k :: l) = (useK us k).bind fun vs => useAll vs l := by
 unfold useAll; rw [List.foldlM_cons]; rfl
theorem useAll_append (us : List Bool) (l r : List Int) : useAll us (l ++ r) = (useAll us l).bind fun vs => useAll vs r := by
 unfold useAll; rw [List.foldlM_append]; rfl
theorem useK_swap (us : List Bool) (a b : Int) : ((useK us a).bind fun vs => useK vs b) = (useK us b).bind fun vs => useK vs a := by
 by_cases hab : a = b
 · rw [hab]
 · unfold useK
   by_cases ha : 0 ≤ a ∧ a < (us.length : Int) ∧ us.getD a.toNat true = false
   · by_cases hb : 0 ≤ b ∧ b < (us.length : Int) ∧ us.getD b.toNat true = false
     · rw [if_pos ha, if_pos hb]
       have hne : a.toNat ≠ b.toNat := by omega
       have h1 : (us.set a.toNat true).getD b.toNat true = us.getD b.toNat true := by simp [List.getD_eq_getElem?_getD, hne]
       have h2 : (us.set b.toNat true).getD a.toNat true = us.getD a.toNat true := by simp [List.getD_eq_getElem?_getD, Ne.symm hne]
       simp only [Option.bind_some, List.length_set, h1, h2]
       rw [if_pos hb, if_pos ha, List.set_comm _ _ hne]
     · rw [if_pos ha, if_neg hb]
       simp only [Option.bind_some, Option.bind_none, List.length_set]
       rw [if_neg]
       intro h
       apply hb
       refine ⟨h.1, h.2.1, ?_⟩
       have hne : a.toNat ≠ b.toNat := by omega
       have h1 : (us.set a.toNat true).getD b.toNat true = us.getD b.toNat true := by simp [List.getD_eq_getElem?_getD, hne]
       rw [← h1]; exact h.2.2
   · rw [if_neg ha]
     by_cases hb : 0 ≤ b ∧ b < (us.length : Int) ∧ us.getD b.toNat true = false
     · rw [if_pos hb]
       simp only [Option.bind_some, Option.bind_none, List.length_set]
       rw [if_neg]
       intro h
       apply ha
       refine ⟨h.1, h.2.1, ?_⟩
       have hne : b.toNat ≠ a.toNat := by omega
       have h1 : (us.set b.toNat true).getD a.toNat true = us.getD a.toNat true := by simp [List.getD_eq_getElem?_getD, hne]
       rw [← h1]; exact h.2.2
     · rw [if_neg hb]
       rfl
theorem useAll_perm {l r : List Int} (h : l.Perm r) : ∀ us, useAll us l = useAll us r := by
 induction h with
 | nil => intro us; rfl
 | cons x _ ih =>
   intro us
   rw [useAll_cons, useAll_cons]
   cases useK us x with
   | none => rfl
   | some vs => exact ih vs
 | swap x y l =>
   intro us
   simp only [useAll_cons]
   have := useK_swap us y x
   cases hy : useK us y with
   | none =>
     rw [hy] at this
     cases hx : useK us x with
     | none => rfl
     | some v2 =>
       rw [hx] at this
       simp only [Option.bind_some, Option.bind_none] at this ⊢
       rw [← this]; rfl
   | some v1 =>
     rw [hy] at this
     cases hx : useK us x with
     | none =>
       rw [hx] at this
       simp only [Option.bind_some, Option.bind_none] at this ⊢
       rw [this]; rfl
     | some v2 =>
       rw [hx] at this
       simp only [Option.bind_some] at this ⊢
       rw [this]
 | trans _ _ ih1 ih2 => intro us; rw [ih1, ih2]
structure ChSt where
 used : List Bool
 opn : List Int
 boxes : List PBox
 cost : Int
def popK (o : List Int) (r : Int) : Option (List Int) := match o.getLast? with
 | some x => if x = r then some o.dropLast else none
 | none => none
def popB (o : List Int) (n : PNode) : Option (List Int) := if n.kind = 5 then (if n.b = 0 then some o else none) else popK o n.b
def signUse (us : List Bool) (n : PNode) : Option (List Bool) :=
 if signed n.kind then (useK us n.sign).bind fun u => if (symAt xs n.sign).label = labelF n.kind then some u else none
 else if n.sign = 0 then some us else none
def stepF (st : ChSt) (n : PNode) : Option ChSt :=
 if n.kind = 0 then
  if n.b = 0 ∧ n.sign = 0 then (useK st.used n.a).map fun u => ⟨u, st.opn ++ [(st.boxes.length : Int)], st.boxes ++ [boxNode xs st.boxes n], st.cost⟩ else none
 else
  (popB st.opn n).bind fun o1 => (popK o1 n.a).bind fun o2 => (signUse xs st.used n).bind fun u =>
    if fitsF n.kind (partA st.boxes n) (partB st.boxes n) (signB xs st.boxes n) then some ⟨u, o2 ++ [(st.boxes.length : Int)], st.boxes ++ [boxNode xs st.boxes n], st.cost + ownF n.kind (partA st.boxes n) (partB st.boxes n) (signB xs st.boxes n)⟩ else none
def runF : Nat → Option ChSt
 | 0 => some ⟨List.replicate xs.length false, [], [], 0⟩
 | k + 1 => (runF k).bind fun st => stepF xs st (nodeAt ns k)
inductive Stk : Nat → List Int → Prop
 | nil : Stk 0 []
 | push {l k : Nat} {o : List Int} (h : loAt ns k = some l) (ho : Stk l o) : Stk (k + 1) (o ++ [(k : Int)])
theorem popK_stk {k : Nat} {o : List Int} (h : Stk ns k o) (r : Int) :
 (∃ j l o', k = j + 1 ∧ loAt ns j = some l ∧ Stk ns l o' ∧ popK o r = if r = (j : Int) then some o' else none) ∨ (k = 0 ∧ popK o r = none) := by
 cases h with
 | nil => exact .inr ⟨rfl, rfl⟩
 | push h ho =>
   rename_i l j o'
   refine .inl ⟨j, l, o', rfl, h, ho, ?_⟩
   simp [popK, eq_comm]
theorem signed_iff (n : Int) : signed n = true ↔ n = 2 ∨ n = 5 := by simp [signed]
theorem useAll_one (us : List Bool) (k : Int) : useAll us [k] = useK us k := by
 rw [useAll_cons]
 cases useK us k <;> rfl
theorem fitsF_kind {kind : Int} {a b s : PBox} (h : fitsF kind a b s = true) : kind = 1 ∨ kind = 2 ∨ kind = 3 ∨ kind = 4 ∨ kind = 5 := by
 unfold fitsF at h
 repeat' split at h
 all_goals first | omega | (simp at h)
theorem sign_part {α : Type} (us : List Bool) (n : PNode) (h0 : n.kind ≠ 0) (hb : n.kind = 5 → n.b = 0) (fits : Bool) (hf : fits = true → n.kind = 1 ∨ n.kind = 2 ∨ n.kind = 3 ∨ n.kind = 4 ∨ n.kind = 5) (g : List Bool → α) :
 ((signUse xs us n).bind fun u => if fits then some (g u) else none) = if (plainOk xs n && fits) = true then (useAll us (symOf n)).map g else none := by
 by_cases h5 : n.kind = 5
 · have e1 : plainOk xs n = decide ((symAt xs n.sign).label = root1) := by simp [plainOk, h5, hb h5]
   have e2 : symOf n = [n.sign] := by simp [symOf, h5, signed]
   have e3 : signUse xs us n = (useK us n.sign).bind fun u => if (symAt xs n.sign).label = root1 then some u else none := by simp [signUse, h5, signed, labelF]
   rw [e1, e2, e3, useAll_one]
   cases useK us n.sign with
   | none => simp
   | some u => by_cases hl : (symAt xs n.sign).label = root1 <;> cases fits <;> simp [hl]
 · by_cases h2 : n.kind = 2
   · have e1 : plainOk xs n = decide ((symAt xs n.sign).label = minus1) := by simp [plainOk, h2]
     have e2 : symOf n = [n.sign] := by simp [symOf, h2, signed]
     have e3 : signUse xs us n = (useK us n.sign).bind fun u => if (symAt xs n.sign).label = minus1 then some u else none := by simp [signUse, h2, signed, labelF]
     rw [e1, e2, e3, useAll_one]
     cases useK us n.sign with
     | none => simp
     | some u => by_cases hl : (symAt xs n.sign).label = minus1 <;> cases fits <;> simp [hl]
   · have hs : signed n.kind = false := by simp [signed, h5, h2]
     have e1 : plainOk xs n = (decide (n.kind = 1 ∨ n.kind = 3 ∨ n.kind = 4) && decide (n.sign = 0)) := by simp [plainOk, h0, h5, h2]
     have e2 : symOf n = [] := by simp [symOf, h0, hs]
     have e3 : signUse xs us n = if n.sign = 0 then some us else none := by simp [signUse, hs]
     rw [e1, e2, e3]
     cases fits with
     | false => by_cases hz : n.sign = 0 <;> simp [hz]
     | true =>
       have hk : n.kind = 1 ∨ n.kind = 3 ∨ n.kind = 4 := by have := hf rfl; omega
       by_cases hz : n.sign = 0 <;> simp [hz, hk, useAll]
theorem fitsNode_ne {bs : List PBox} {n : PNode} (h0 : n.kind ≠ 0) : fitsNode xs bs n = fitsF n.kind (partA bs n) (partB bs n) (signB xs bs n) := by
 simp [fitsNode, h0]
theorem costF_succ (k : Nat) : costF xs ns (k + 1) = costF xs ns k + ownNode xs (boxesF xs ns k) (nodeAt ns k) := rfl
theorem boxesF_succ (k : Nat) : boxesF xs ns (k + 1) = boxesF xs ns k ++ [boxNode xs (boxesF xs ns k) (nodeAt ns k)] := rfl
theorem loAt_lt : ∀ {k l : Nat}, loAt ns k = some l → l ≤ k := by
 intro k
 induction k using Nat.strongRecOn with
 | _ k ih =>
   intro l h
   rw [loAt_eq] at h
   unfold loNode at h
   split at h
   · injection h with h; omega
   · split at h
     · split at h
       · rename_i h1
         rw [losF_get ns (by omega)] at h
         have := ih (k - 1) (by omega) h
         omega
       · cases h
     · split at h
       · rename_i h1
         rw [losF_get ns (by omega)] at h
         cases e : loAt ns (k - 1) with
         | none => rw [e] at h; cases h
         | some m =>
           rw [e] at h
           dsimp only at h
           have hm := ih (k - 1) (by omega) e
           split at h
           · rename_i h2
             rw [losF_get ns (by omega)] at h
             have := ih (m - 1) (by omega) h
             omega
           · cases h
       · cases h
theorem stepF_eq {k : Nat} {o : List Int} (us : List Bool) (h : Stk ns k o) :
 (∃ l o', loAt ns k = some l ∧ Stk ns l o' ∧ stepF xs ⟨us, o, boxesF xs ns k, costF xs ns k⟩ (nodeAt ns k) =
   if (plainOk xs (nodeAt ns k) && fitsNode xs (boxesF xs ns k) (nodeAt ns k)) = true then (useAll us (symOf (nodeAt ns k))).map fun u => ⟨u, o' ++ [(k : Int)], boxesF xs ns (k + 1), costF xs ns (k + 1)⟩ else none) ∨
 (loAt ns k = none ∧ stepF xs ⟨us, o, boxesF xs ns k, costF xs ns k⟩ (nodeAt ns k) = none) := by
 rw [loAt_eq, costF_succ, boxesF_succ]
 unfold stepF loNode
 dsimp only
 rw [boxesF_len]
 generalize nodeAt ns k = n
 by_cases h0 : n.kind = 0
 · refine .inl ⟨k, o, by rw [if_pos h0], h, ?_⟩
   rw [if_pos h0]
   have e1 : symOf n = [n.a] := by simp [symOf, h0]
   have e2 : plainOk xs n = (decide (n.b = 0) && decide (n.sign = 0)) := by simp [plainOk, h0]
   have e3 : fitsNode xs (boxesF xs ns k) n = true := by simp [fitsNode, h0]
   have e4 : ownNode xs (boxesF xs ns k) n = 0 := by simp [ownNode, h0]
   rw [e1, useAll_one, e2, e3, e4, Int.add_zero]
   by_cases hb : n.b = 0 ∧ n.sign = 0
   · simp [hb.1, hb.2]
   · rw [if_neg hb, if_neg (by simpa using hb)]
 · rw [if_neg h0, if_neg h0]
   have e4 : ownNode xs (boxesF xs ns k) n = ownF n.kind (partA (boxesF xs ns k) n) (partB (boxesF xs ns k) n) (signB xs (boxesF xs ns k) n) := by simp [ownNode, h0]
   rw [e4, fitsNode_ne xs h0]
   have SP := fun (hb : n.kind = 5 → n.b = 0) (o2 : List Int) => sign_part xs us n h0 hb (fitsF n.kind (partA (boxesF xs ns k) n) (partB (boxesF xs ns k) n) (signB xs (boxesF xs ns k) n)) fitsF_kind (fun u => (⟨u, o2 ++ [(k : Int)], boxesF xs ns k ++ [boxNode xs (boxesF xs ns k) n], costF xs ns k + ownF n.kind (partA (boxesF xs ns k) n) (partB (boxesF xs ns k) n) (signB xs (boxesF xs ns k) n)⟩ : ChSt))
   unfold popB
   by_cases h5 : n.kind = 5
   · rw [if_pos h5, if_pos h5]
     by_cases hb : n.b = 0
     · rw [if_pos hb, Option.bind_some]
       rcases popK_stk ns h n.a with ⟨j, l, o', rfl, hl, ho, hp⟩ | ⟨rfl, hp⟩
       · rw [hp]
         by_cases ha : n.a = (j : Int)
         · rw [if_pos ha, Option.bind_some]
           refine .inl ⟨l, o', ?_, ho, SP (fun _ => hb) o'⟩
           rw [if_pos (by omega), losF_get ns (by omega)]
           exact hl
         · rw [if_neg ha]
           exact .inr ⟨by rw [if_neg (by omega)], rfl⟩
       · rw [hp]
         exact .inr ⟨by rw [if_neg (by omega)], rfl⟩
     · rw [if_neg hb, Option.bind_none]
       have e5 : plainOk xs n = false := by simp [plainOk, h5, hb]
       by_cases hl : 0 ≤ n.a ∧ n.a + 1 = (k : Int)
       · rw [if_pos hl, losF_get ns (by omega)]
         cases h with
         | nil => exfalso; simp at hl; omega
         | push hlo ho =>
           rename_i l j o'
           refine .inl ⟨l, o', hlo, ho, ?_⟩
           rw [e5]; rfl
       · rw [if_neg hl]
         exact .inr ⟨rfl, rfl⟩
   · rw [if_neg h5, if_neg h5]
     rcases popK_stk ns h n.b with ⟨j, l, o', rfl, hl, ho, hp⟩ | ⟨rfl, hp⟩
     · rw [hp]
       by_cases hb : n.b = (j : Int)
       · rw [if_pos hb, Option.bind_some, if_pos (by omega), losF_get ns (by omega), show j + 1 - 1 = j from rfl, hl]
         dsimp only
         rcases popK_stk ns ho n.a with ⟨i, l2, o2, rfl, hl2, ho2, hp2⟩ | ⟨rfl, hp2⟩
         · rw [hp2]
           by_cases ha : n.a = (i : Int)
           · rw [if_pos ha, Option.bind_some]
             refine .inl ⟨l2, o2, ?_, ho2, SP (fun e => absurd e h5) o2⟩
             have := loAt_lt ns hl
             rw [if_pos (by omega), losF_get ns (by omega)]
             exact hl2
           · rw [if_neg ha]
             exact .inr ⟨by rw [if_neg (by omega)], rfl⟩
         · rw [hp2]
           exact .inr ⟨by rw [if_neg (by omega)], rfl⟩
       · rw [if_neg hb]
         exact .inr ⟨by rw [if_neg (by omega)], rfl⟩
     · rw [hp]
       exact .inr ⟨by rw [if_neg (by omega)], rfl⟩
theorem symsF_succ {lo hi : Nat} (h : lo ≤ hi) : symsF ns lo (hi + 1) = symsF ns lo hi ++ symOf (nodeAt ns hi) := by
 unfold symsF
 rw [show hi + 1 - lo = (hi - lo) + 1 by omega, List.range'_concat, List.flatMap_append]
 simp [show lo + (hi - lo) = hi by omega]
theorem symsF_self (lo : Nat) : symsF ns lo lo = [] := by simp [symsF]
theorem symsF_split {a b c : Nat} (h1 : a ≤ b) (h2 : b ≤ c) : symsF ns a c = symsF ns a b ++ symsF ns b c := by
 induction c with
 | zero =>
   obtain rfl : a = 0 := by omega
   obtain rfl : b = 0 := by omega
   simp [symsF]
 | succ c ih =>
   by_cases e : b = c + 1
   · subst e; rw [symsF_self, List.append_nil]
   · rw [symsF_succ ns (by omega), symsF_succ ns (by omega), ih (by omega), List.append_assoc]
def segGood (lo k : Nat) : Bool := (List.range' lo (k + 1 - lo)).all fun j => goodAt xs ns j
theorem segGood_iff {lo k : Nat} : segGood xs ns lo k = true ↔ ∀ j, lo ≤ j → j ≤ k → goodAt xs ns j = true := by
 unfold segGood
 rw [List.all_eq_true]
 constructor
 · intro h j h1 h2; exact h j (List.mem_range'.2 ⟨j - lo, by omega, by omega⟩)
 · intro h j hj
   simp only [List.mem_range', Nat.one_mul] at hj
   obtain ⟨i, hi, rfl⟩ := hj
   exact h _ (by omega) (by omega)
theorem goodAt_eq (k : Nat) : goodAt xs ns k = ((loAt ns k).isSome && (plainOk xs (nodeAt ns k) && fitsNode xs (boxesF xs ns k) (nodeAt ns k))) := by
 rw [loAt_eq]; rfl
def allGood (k : Nat) : Bool := (List.range k).all fun j => goodAt xs ns j
theorem allGood_succ (k : Nat) : allGood xs ns (k + 1) = (allGood xs ns k && goodAt xs ns k) := by simp [allGood, List.range_succ]
theorem runF_eq : ∀ k, if allGood xs ns k = true then ∃ o, Stk ns k o ∧ runF xs ns k = (useAll (List.replicate xs.length false) (symsF ns 0 k)).map fun u => ⟨u, o, boxesF xs ns k, costF xs ns k⟩ else runF xs ns k = none
 | 0 => by
   rw [if_pos (by simp [allGood])]
   exact ⟨[], .nil, by simp [runF, symsF, useAll, boxesF, costF]⟩
 | k + 1 => by
   have ih := runF_eq k
   rw [allGood_succ]
   cases hg : allGood xs ns k with
   | false =>
     rw [hg] at ih
     simp only [Bool.false_and]
     simp only [Bool.false_eq_true, if_false] at ih ⊢
     rw [runF, ih]; rfl
   | true =>
     rw [hg] at ih
     simp only [if_true] at ih
     obtain ⟨o, ho, hr⟩ := ih
     rw [Bool.true_and, runF, hr, symsF_succ ns (Nat.zero_le _), useAll_append, goodAt_eq]
     cases hu : useAll (List.replicate xs.length false) (symsF ns 0 k) with
     | none =>
       simp only [Option.map_none, Option.bind_none]
       split
       · rename_i h
         rw [Bool.and_eq_true] at h
         obtain ⟨l, hl⟩ := Option.isSome_iff_exists.1 h.1
         rcases stepF_eq xs ns [] ho with ⟨l', o', hl', ho', _⟩ | ⟨h2, _⟩
         · exact ⟨_, .push hl' ho', trivial⟩
         · rw [h2] at hl; cases hl
       · trivial
     | some us =>
       simp only [Option.map_some, Option.bind_some]
       rcases stepF_eq xs ns us ho with ⟨l, o', hl, ho', he⟩ | ⟨h2, he⟩
       · rw [he, hl]
         simp only [Option.isSome_some, Bool.true_and]
         split
         · exact ⟨_, .push hl ho', rfl⟩
         · rfl
       · rw [he, h2]
         simp
def treeB : Bool :=
 (decide (1 ≤ ns.length) && decide (ns.length ≤ 15)) && (allGood xs ns ns.length && (decide (loAt ns (ns.length - 1) = some 0) &&
   match useAll (List.replicate xs.length false) (symsF ns 0 ns.length) with
   | some us => us.all id
   | none => false))
def checkB : Bool := decide (ns.length ≤ 15) && match runF xs ns ns.length with
 | some st => decide (st.opn.length = 1) && st.used.all id
 | none => false
theorem stk_one {k : Nat} {o : List Int} (h : Stk ns k o) : o.length = 1 ↔ 1 ≤ k ∧ loAt ns (k - 1) = some 0 := by
 cases h with
 | nil => simp
 | push hl ho =>
   rename_i l j o'
   rw [List.length_append, List.length_singleton, Nat.add_sub_cancel, hl]
   cases ho with
   | nil => simp
   | push h2 h3 => simp
theorem check_tree : checkB xs ns = treeB xs ns := by
 unfold checkB treeB
 have h := runF_eq xs ns ns.length
 cases hg : allGood xs ns ns.length with
 | false =>
   rw [hg] at h
   simp only [Bool.false_eq_true, if_false] at h
   rw [h]
   simp
 | true =>
   rw [hg] at h
   simp only [if_true] at h
   obtain ⟨o, ho, hr⟩ := h
   rw [hr]
   cases useAll (List.replicate xs.length false) (symsF ns 0 ns.length) with
   | none => simp
   | some us =>
     simp only [Option.map_some, Bool.true_and]
     have h1 := stk_one ns ho
     have e : decide (o.length = 1) = (decide (1 ≤ ns.length) && decide (loAt ns (ns.length - 1) = some 0)) := by rw [Bool.eq_iff_iff]; simpa using h1
     rw [e]
     cases decide (1 ≤ ns.length) <;> cases decide (ns.length ≤ 15) <;> simp
theorem check_run (h : treeB xs ns = true) : ∃ us o, runF xs ns ns.length = some ⟨us, o, boxesF xs ns ns.length, costF xs ns ns.length⟩ := by
 have h' := h
 unfold treeB at h'
 simp only [Bool.and_eq_true] at h'
 have hr := runF_eq xs ns ns.length
 rw [if_pos h'.2.1] at hr
 obtain ⟨o, _, hr⟩ := hr
 cases e : useAll (List.replicate xs.length false) (symsF ns 0 ns.length) with
 | none => rw [e] at h'; simp at h'
 | some us => rw [e] at hr; exact ⟨us, o, hr⟩
def readU : Nat → Nat → List Bool → Option (List Bool × Nat)
 | 0, _, _ => none
 | f + 1, k, us =>
   let n := nodeAt ns k
   if n.kind = 0 then (useK us n.a).bind fun vs => if n.b = 0 ∧ n.sign = 0 then some (vs, k) else none
   else if 1 ≤ n.kind ∧ n.kind ≤ 5 then
    (if n.kind = 5 then (if n.b = 0 then some (us, k) else none) else if 0 ≤ n.b ∧ n.b + 1 = (k : Int) then readU f (k - 1) us else none).bind fun p =>
    (if 0 ≤ n.a ∧ n.a + 1 = (p.2 : Int) then readU f (p.2 - 1) p.1 else none).bind fun q =>
    (signUse xs q.1 n).bind fun zs => if fitsF n.kind (partA (boxesF xs ns k) n) (partB (boxesF xs ns k) n) (signB xs (boxesF xs ns k) n) then some (zs, q.2) else none
   else none
theorem plainOk_kind {n : PNode} (h : plainOk xs n = true) : n.kind = 0 ∨ 1 ≤ n.kind ∧ n.kind ≤ 5 := by
 unfold plainOk at h
 repeat' split at h
 all_goals first | omega | (simp at h; omega)
theorem segGood_succ {lo k : Nat} (h : lo ≤ k) : segGood xs ns lo (k + 1) = (segGood xs ns lo k && goodAt xs ns (k + 1)) := by
 rw [Bool.eq_iff_iff, Bool.and_eq_true, segGood_iff, segGood_iff]
 constructor
 · intro hh; exact ⟨fun j h1 h2 => hh j h1 (by omega), hh _ (by omega) (Nat.le_refl _)⟩
 · rintro ⟨h1, h2⟩ j hj1 hj2
   by_cases e : j = k + 1
   · subst e; exact h2
   · exact h1 j hj1 (by omega)
theorem segGood_split {lo m k : Nat} (h : lo ≤ m) (h2 : m + 1 ≤ k) : segGood xs ns lo k = (segGood xs ns lo m && segGood xs ns (m + 1) k) := by
 rw [Bool.eq_iff_iff, Bool.and_eq_true, segGood_iff, segGood_iff, segGood_iff]
 constructor
 · intro hh; exact ⟨fun j h1 h2 => hh j h1 (by omega), fun j h1 h2 => hh j (by omega) h2⟩
 · rintro ⟨h1, h2⟩ j hj1 hj2
   by_cases e : j ≤ m
   · exact h1 j hj1 e
   · exact h2 j (by omega) hj2
theorem tail_part (us : List Bool) (L : List Int) (n : PNode) (h0 : n.kind ≠ 0) (hb : n.kind = 5 → n.b = 0) (fits : Bool) (hf : fits = true → n.kind = 1 ∨ n.kind = 2 ∨ n.kind = 3 ∨ n.kind = 4 ∨ n.kind = 5) (lo : Nat) :
 ((useAll us L).bind fun vs => (signUse xs vs n).bind fun zs => if fits then some (zs, lo) else none) = if (plainOk xs n && fits) = true then (useAll us (L ++ symOf n)).map fun vs => (vs, lo) else none := by
 rw [useAll_append]
 cases useAll us L with
 | none => simp
 | some vs => simp only [Option.bind_some]; exact sign_part xs vs n h0 hb fits hf _
theorem readU_eq : ∀ (f k : Nat) (us : List Bool), k < f →
 readU xs ns f k us = match loAt ns k with
  | some lo => if segGood xs ns lo k = true then (useAll us (symsF ns lo (k + 1))).map fun vs => (vs, lo) else none
  | none => none
 | 0, k, us, h => by omega
 | f + 1, k, us, h => by
   have G := goodAt_eq xs ns k
   have GL : ∀ {lo : Nat}, segGood xs ns lo k = true → lo ≤ k → goodAt xs ns k = true := fun h1 h2 => (segGood_iff xs ns).1 h1 k h2 (Nat.le_refl _)
   unfold readU
   dsimp only
   by_cases h0 : (nodeAt ns k).kind = 0
   · have hl : loAt ns k = some k := by rw [loAt_eq]; simp [loNode, h0]
     have e1 : symOf (nodeAt ns k) = [(nodeAt ns k).a] := by simp [symOf, h0]
     have e2 : plainOk xs (nodeAt ns k) = (decide ((nodeAt ns k).b = 0) && decide ((nodeAt ns k).sign = 0)) := by simp [plainOk, h0]
     have e3 : fitsNode xs (boxesF xs ns k) (nodeAt ns k) = true := by simp [fitsNode, h0]
     have e4 : segGood xs ns k k = goodAt xs ns k := by simp [segGood, show k + 1 - k = 1 by omega]
     rw [if_pos h0, hl]
     dsimp only
     rw [e4, G, hl, e2, e3, symsF_succ ns (Nat.le_refl _), symsF_self, List.nil_append, e1, useAll_one]
     cases useK us (nodeAt ns k).a with
     | none => simp
     | some vs => by_cases hb : (nodeAt ns k).b = 0 ∧ (nodeAt ns k).sign = 0 <;> simp [hb]
   · rw [if_neg h0]
     by_cases hk : 1 ≤ (nodeAt ns k).kind ∧ (nodeAt ns k).kind ≤ 5
     · rw [if_pos hk]
       have SP := fun (hb : (nodeAt ns k).kind = 5 → (nodeAt ns k).b = 0) (L : List Int) (lo : Nat) => tail_part xs us L (nodeAt ns k) h0 hb (fitsF (nodeAt ns k).kind (partA (boxesF xs ns k) (nodeAt ns k)) (partB (boxesF xs ns k) (nodeAt ns k)) (signB xs (boxesF xs ns k) (nodeAt ns k))) fitsF_kind lo
       rw [← fitsNode_ne xs h0] at SP ⊢
       have hlk := loAt_eq ns k
       unfold loNode at hlk
       rw [if_neg h0] at hlk
       by_cases h5 : (nodeAt ns k).kind = 5
       · rw [if_pos h5]
         rw [if_pos h5] at hlk
         by_cases hb : (nodeAt ns k).b = 0
         · rw [if_pos hb, Option.bind_some]
           dsimp only
           by_cases ha : 0 ≤ (nodeAt ns k).a ∧ (nodeAt ns k).a + 1 = (k : Int)
           · rw [if_pos ha]
             obtain ⟨j, rfl⟩ : ∃ j, k = j + 1 := ⟨k - 1, by omega⟩
             rw [if_pos ha, losF_get ns (by omega), Nat.add_sub_cancel] at hlk
             rw [Nat.add_sub_cancel, readU_eq f j us (by omega), hlk]
             cases hl : loAt ns j with
             | none => rfl
             | some lo =>
               dsimp only
               have hlo := loAt_lt ns hl
               rw [segGood_succ xs ns hlo, symsF_succ ns (show lo ≤ j + 1 by omega), G, hlk, hl]
               cases segGood xs ns lo j with
               | false => simp
               | true =>
                 simp only [if_true, Option.isSome_some, Bool.true_and, Option.bind_map]
                 exact SP (fun _ => hb) (symsF ns lo (j + 1)) lo
           · rw [if_neg ha]
             rw [if_neg ha] at hlk
             rw [hlk]; rfl
         · rw [if_neg hb, Option.bind_none]
           have e2 : plainOk xs (nodeAt ns k) = false := by simp [plainOk, h5, hb]
           cases hl : loAt ns k with
           | none => rfl
           | some lo =>
             dsimp only
             rw [if_neg]
             intro hs
             have := GL hs (loAt_lt ns hl)
             rw [G, e2] at this
             simp at this
       · rw [if_neg h5]
         rw [if_neg h5] at hlk
         by_cases hb : 0 ≤ (nodeAt ns k).b ∧ (nodeAt ns k).b + 1 = (k : Int)
         · rw [if_pos hb]
           obtain ⟨j, rfl⟩ : ∃ j, k = j + 1 := ⟨k - 1, by omega⟩
           rw [if_pos hb, losF_get ns (by omega), Nat.add_sub_cancel] at hlk
           rw [Nat.add_sub_cancel, readU_eq f j us (by omega)]
           cases hm : loAt ns j with
           | none => rw [hm] at hlk; rw [hlk]; rfl
           | some m =>
             have hmj := loAt_lt ns hm
             rw [hm] at hlk
             dsimp only at hlk ⊢
             by_cases ha : 0 ≤ (nodeAt ns (j + 1)).a ∧ (nodeAt ns (j + 1)).a + 1 = (m : Int)
             · obtain ⟨i, rfl⟩ : ∃ i, m = i + 1 := ⟨m - 1, by omega⟩
               rw [if_pos ha, losF_get ns (by omega), Nat.add_sub_cancel] at hlk
               have IH2 := fun vs => readU_eq f i vs (by omega)
               rw [hlk]
               cases hl : loAt ns i with
               | none =>
                 rw [hl] at IH2
                 dsimp only at IH2 ⊢
                 cases segGood xs ns (i + 1) j with
                 | false => rfl
                 | true =>
                   simp only [if_true]
                   cases useAll us (symsF ns (i + 1) (j + 1)) with
                   | none => rfl
                   | some vs =>
                     simp only [Option.map_some, Option.bind_some]
                     rw [if_pos ha, Nat.add_sub_cancel, IH2]; rfl
               | some lo =>
                 rw [hl] at IH2
                 dsimp only at IH2 ⊢
                 have hlo := loAt_lt ns hl
                 rw [segGood_succ xs ns (show lo ≤ j by omega), segGood_split xs ns (show lo ≤ i by omega) (show i + 1 ≤ j by omega), symsF_succ ns (show lo ≤ j + 1 by omega), G, hlk, hl]
                 have hp : useAll us (symsF ns lo (j + 1) ++ symOf (nodeAt ns (j + 1))) = useAll us ((symsF ns (i + 1) (j + 1) ++ symsF ns lo (i + 1)) ++ symOf (nodeAt ns (j + 1))) := by
                  rw [symsF_split ns (show lo ≤ i + 1 by omega) (show i + 1 ≤ j + 1 by omega)]
                  exact useAll_perm (List.Perm.append_right _ List.perm_append_comm) us
                 rw [hp]
                 cases segGood xs ns (i + 1) j with
                 | false => simp
                 | true =>
                   simp only [if_true, Option.isSome_some, Bool.true_and, Bool.and_true]
                   have S := SP (fun e => absurd e h5) (symsF ns (i + 1) (j + 1) ++ symsF ns lo (i + 1)) lo
                   cases hsg : segGood xs ns lo i with
                   | false =>
                     simp only [hsg, Bool.false_eq_true, if_false] at IH2
                     simp only [Bool.false_and, Bool.false_eq_true, if_false]
                     cases useAll us (symsF ns (i + 1) (j + 1)) with
                     | none => rfl
                     | some vs =>
                       simp only [Option.map_some, Option.bind_some]
                       rw [if_pos ha, Nat.add_sub_cancel, IH2]; rfl
                   | true =>
                     simp only [hsg, if_true] at IH2
                     rw [Bool.true_and, ← S, useAll_append]
                     cases useAll us (symsF ns (i + 1) (j + 1)) with
                     | none => rfl
                     | some vs =>
                       simp only [Option.map_some, Option.bind_some]
                       rw [if_pos ha, Nat.add_sub_cancel, IH2]
                       cases useAll vs (symsF ns lo (i + 1)) <;> rfl
             · rw [if_neg ha] at hlk
               rw [hlk]
               dsimp only
               cases segGood xs ns m j with
               | false => rfl
               | true =>
                 simp only [if_true]
                 cases useAll us (symsF ns m (j + 1)) with
                 | none => rfl
                 | some vs =>
                   simp only [Option.map_some, Option.bind_some]
                   rw [if_neg ha]; rfl
         · rw [if_neg hb, Option.bind_none]
           rw [if_neg hb] at hlk
           rw [hlk]
     · rw [if_neg hk]
       have e2 : plainOk xs (nodeAt ns k) = false := by
        cases e : plainOk xs (nodeAt ns k) with
        | false => rfl
        | true => have := plainOk_kind xs e; omega
       cases hl : loAt ns k with
       | none => rfl
       | some lo =>
         dsimp only
         rw [if_neg]
         intro hs
         have := GL hs (loAt_lt ns hl)
         rw [G, e2] at this
         simp at this
def refB : Bool := (decide (1 ≤ ns.length) && decide (ns.length ≤ 15)) && match readU xs ns ns.length (ns.length - 1) (List.replicate xs.length false) with
 | some (us, lo) => decide (lo = 0) && us.all id
 | none => false
theorem ref_tree : refB xs ns = treeB xs ns := by
 unfold refB treeB
 by_cases h1 : 1 ≤ ns.length
 · obtain ⟨j, hj⟩ : ∃ j, ns.length = j + 1 := ⟨ns.length - 1, by omega⟩
   rw [hj, Nat.add_sub_cancel, readU_eq xs ns (j + 1) j _ (by omega)]
   congr 1
   cases hl : loAt ns j with
   | none => simp
   | some lo =>
     by_cases h0 : lo = 0
     · subst h0
       have e : segGood xs ns 0 j = allGood xs ns (j + 1) := by simp [segGood, allGood, List.range_eq_range']
       simp only [e, decide_true, Bool.true_and]
       cases allGood xs ns (j + 1) with
       | false => simp
       | true =>
         simp only [if_true, Bool.true_and]
         cases useAll (List.replicate xs.length false) (symsF ns 0 (j + 1)) <;> simp
     · simp only [Option.some.injEq, h0, decide_false, Bool.false_and, Bool.and_false]
       split
       · rename_i us lo' hx
         split at hx
         · cases hu : useAll (List.replicate xs.length false) (symsF ns lo (j + 1)) with
           | none => rw [hu] at hx; cases hx
           | some vs => rw [hu] at hx; simp at hx; simp [← hx.2, h0]
         · cases hx
       · rfl
 · simp [h1]
end
end Go.Proofs.Ytmopioaojdlnkaa
