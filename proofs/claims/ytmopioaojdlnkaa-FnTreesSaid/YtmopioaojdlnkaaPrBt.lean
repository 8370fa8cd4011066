/- Boxes joined, sets of symbols as numbers, and the ways to put a set together from two parts. No program is named here. Conditions: none. -/
import Derived.Test.YtmopioaojdlnkaaRdEt
namespace Go.Proofs.Ytmopioaojdlnkaa
open Go Go.RowKit
theorem joinB_comm (a b : PBox) : joinB a b = joinB b a := by
 simp only [joinB, PBox.mk.injEq]; omega
theorem joinB_assoc (a b c : PBox) : joinB (joinB a b) c = joinB a (joinB b c) := by
 simp only [joinB, PBox.mk.injEq]; omega
def joinN : List PBox → PBox
 | [] => ⟨0, 0, 0, 0⟩
 | b :: r => r.foldl joinB b
theorem foldl_joinB (b c : PBox) : ∀ r : List PBox, r.foldl joinB (joinB b c) = joinB b (r.foldl joinB c)
 | [] => rfl
 | d :: r => by rw [List.foldl_cons, List.foldl_cons, joinB_assoc, foldl_joinB]
theorem joinN_append {l r : List PBox} (hl : l ≠ []) (hr : r ≠ []) : joinN (l ++ r) = joinB (joinN l) (joinN r) := by
 cases l with
 | nil => exact absurd rfl hl
 | cons a l =>
   cases r with
   | nil => exact absurd rfl hr
   | cons b r => rw [List.cons_append, joinN, joinN, joinN, List.foldl_append, List.foldl_cons, foldl_joinB]
theorem joinN_cons {b : PBox} {r : List PBox} (hr : r ≠ []) : joinN (b :: r) = joinB b (joinN r) := joinN_append (l := [b]) (by simp) hr
theorem joinN_perm {l r : List PBox} (h : l.Perm r) : joinN l = joinN r := by
 induction h with
 | nil => rfl
 | cons a p ih =>
   rename_i l r
   by_cases hl : l = []
   · subst hl; rw [p.nil_eq]
   · have hr : r ≠ [] := by rintro rfl; exact hl p.eq_nil
     rw [joinN_cons hl, joinN_cons hr, ih]
 | swap a b l =>
   rw [joinN, joinN, List.foldl_cons, List.foldl_cons, joinB_comm]
 | trans _ _ h1 h2 => rw [h1, h2]
section
variable (xs : List PSymbol)
theorem AT.syms_ne (T : AT) : T.syms.map (sbox xs) ≠ [] := by
 intro h
 have := T.syms_pos
 rw [List.map_eq_nil_iff] at h; rw [h] at this; simp at this
theorem AT.bx_join : ∀ T : AT, T.bx xs = joinN (T.syms.map (sbox xs))
 | .leaf _ => rfl
 | .two k s a b => by
   rw [AT.bx, AT.syms, a.bx_join, b.bx_join, List.map_append, List.map_append]
   by_cases h : k = 2
   · rw [if_pos h, if_pos h, joinN_append (a.syms_ne xs) (by have := b.syms_ne xs; intro h0; rw [List.append_eq_nil_iff] at h0; exact this h0.1), joinN_append (b.syms_ne xs) (by simp), joinB_assoc]; rfl
   · rw [if_neg h, if_neg h, List.map_nil, List.append_nil, joinN_append (a.syms_ne xs) (b.syms_ne xs), joinB_comm _ (joinN (a.syms.map _)), ← joinB_assoc, joinB_self]
 | .root s a => by
   rw [AT.bx, AT.syms, a.bx_join, List.map_append, joinB_self, joinN_append (a.syms_ne xs) (by simp)]; rfl
end
def elems (n s : Nat) : List Nat := (List.range n).filter fun i => s.testBit i
def maskOf (l : List Nat) : Nat := l.foldr (fun i m => 2 ^ i ||| m) 0
theorem maskOf_bit (j : Nat) : ∀ l : List Nat, (maskOf l).testBit j = decide (j ∈ l)
 | [] => by simp [maskOf]
 | i :: l => by
   have ih := maskOf_bit j l
   rw [show maskOf (i :: l) = 2 ^ i ||| maskOf l from rfl, Nat.testBit_or, ih, Nat.testBit_two_pow]
   rw [Bool.eq_iff_iff]; simp only [Bool.or_eq_true, decide_eq_true_eq, List.mem_cons]
   constructor
   · rintro (h | h)
     · exact .inl h.symm
     · exact .inr h
   · rintro (h | h)
     · exact .inl h.symm
     · exact .inr h
theorem bit_lt {n s i : Nat} (hs : s < 2 ^ n) (h : s.testBit i = true) : i < n := by
 rcases Nat.lt_or_ge i n with h1 | h1
 · exact h1
 · rw [Nat.testBit_lt_two_pow (Nat.lt_of_lt_of_le hs (Nat.pow_le_pow_right (by decide) h1))] at h; cases h
theorem mem_elems {n s i : Nat} (hs : s < 2 ^ n) : i ∈ elems n s ↔ s.testBit i = true := by
 rw [elems, List.mem_filter, List.mem_range]
 exact ⟨fun h => h.2, fun h => ⟨bit_lt hs h, h⟩⟩
theorem elems_nodup (n s : Nat) : (elems n s).Nodup := List.nodup_range.filter _
def AT.cov (T : AT) (s : Nat) : Prop := T.syms.Nodup ∧ ∀ i, i ∈ T.syms ↔ s.testBit i = true
theorem AT.cov_perm {T : AT} {n s : Nat} (h : T.cov s) (hs : s < 2 ^ n) : T.syms.Perm (elems n s) :=
 (List.perm_ext_iff_of_nodup h.1 (elems_nodup n s)).2 fun i => by rw [h.2, mem_elems hs]
theorem AT.cov_mask {T : AT} (h : T.syms.Nodup) : T.cov (maskOf T.syms) := ⟨h, fun i => by rw [maskOf_bit, decide_eq_true_iff]⟩
theorem bits_lt {a s : Nat} (h : ∀ i, a.testBit i = true → s.testBit i = true) (hne : a ≠ s) : a < s := by
 have h1 : a &&& s = a := by
  apply Nat.eq_of_testBit_eq
  intro i
  rw [Nat.testBit_and, Bool.eq_iff_iff, Bool.and_eq_true]
  exact ⟨fun h => h.1, fun h' => ⟨h', h i h'⟩⟩
 have := Nat.and_le_right (n := a) (m := s)
 omega
theorem ne_zero_bit {a : Nat} (h : a ≠ 0) : ∃ i, a.testBit i = true := by
 rcases Nat.exists_testBit_of_ne_zero h with ⟨i, hi⟩
 exact ⟨i, hi⟩
def subs (r : Nat) : List Nat := (List.range r).filter fun a => decide (0 < a) && decide (a &&& r = a)
theorem sub_iff {a r : Nat} : a &&& r = a ↔ ∀ i, a.testBit i = true → r.testBit i = true := by
 constructor
 · intro h i hi
   rw [← h, Nat.testBit_and, Bool.and_eq_true] at hi
   exact hi.2
 · intro h
   apply Nat.eq_of_testBit_eq
   intro i
   rw [Nat.testBit_and, Bool.eq_iff_iff, Bool.and_eq_true]
   exact ⟨fun h => h.1, fun h' => ⟨h', h i h'⟩⟩
theorem mem_subs {a r : Nat} : a ∈ subs r ↔ a ≠ 0 ∧ a ≠ r ∧ ∀ i, a.testBit i = true → r.testBit i = true := by
 rw [subs, List.mem_filter, List.mem_range, Bool.and_eq_true, decide_eq_true_iff, decide_eq_true_iff, sub_iff]
 constructor
 · rintro ⟨h1, h2, h3⟩; exact ⟨by omega, by omega, h3⟩
 · rintro ⟨h1, h2, h3⟩; exact ⟨bits_lt h3 h2, by omega, h3⟩
structure Opt where
 kind : Int
 sign : Nat
 a : Nat
 b : Nat
 deriving DecidableEq
def splitO (k : Int) (i r : Nat) : List Opt := (subs r).map fun a => ⟨k, i, a, r ^^^ a⟩
section
variable (xs : List PSymbol)
def hasS (s i : Nat) (l : ByteArray) : Bool := s.testBit i && decide ((symAt xs i).label = l)
def overO (s : Nat) : List Opt := (List.range xs.length).flatMap fun i => if hasS xs s i minus1 then splitO 2 i (s ^^^ 2 ^ i) else []
def rootO (s : Nat) : List Opt := (List.range xs.length).flatMap fun i => if hasS xs s i root1 then [⟨5, i, s ^^^ 2 ^ i, 0⟩] else []
def optsF (s : Nat) : List Opt := splitO 1 0 s ++ (overO xs s ++ (splitO 3 0 s ++ (splitO 4 0 s ++ rootO xs s)))
def IsOpt (s : Nat) (o : Opt) : Prop :=
 ((o.kind = 1 ∨ o.kind = 3 ∨ o.kind = 4) ∧ o.sign = 0 ∧ o.a ∈ subs s ∧ o.b = s ^^^ o.a) ∨
 (o.kind = 2 ∧ hasS xs s o.sign minus1 = true ∧ o.a ∈ subs (s ^^^ 2 ^ o.sign) ∧ o.b = (s ^^^ 2 ^ o.sign) ^^^ o.a) ∨
 (o.kind = 5 ∧ hasS xs s o.sign root1 = true ∧ o.a = s ^^^ 2 ^ o.sign ∧ o.b = 0)
theorem mem_splitO {k : Int} {i r : Nat} {o : Opt} : o ∈ splitO k i r ↔ o.kind = k ∧ o.sign = i ∧ o.a ∈ subs r ∧ o.b = r ^^^ o.a := by
 rw [splitO, List.mem_map]
 constructor
 · rintro ⟨a, ha, rfl⟩; exact ⟨rfl, rfl, ha, rfl⟩
 · rintro ⟨rfl, rfl, ha, hb⟩; exact ⟨o.a, ha, by rw [← hb]⟩
theorem mem_optsF {s : Nat} (hs : s < 2 ^ xs.length) {o : Opt} : o ∈ optsF xs s ↔ IsOpt xs s o := by
 have hlt : ∀ {i l}, hasS xs s i l = true → i < xs.length := by
  intro i l h; rw [hasS, Bool.and_eq_true] at h; exact bit_lt hs h.1
 simp only [optsF, List.mem_append, mem_splitO, overO, rootO, List.mem_flatMap, List.mem_range, IsOpt]
 constructor
 · rintro (h | ⟨i, hi, h⟩ | h | h | ⟨i, hi, h⟩)
   · exact .inl ⟨.inl h.1, h.2⟩
   · split at h
     · rw [mem_splitO] at h
       obtain ⟨h1, rfl, h2⟩ := h
       exact .inr (.inl ⟨h1, ‹_›, h2⟩)
     · cases h
   · exact .inl ⟨.inr (.inl h.1), h.2⟩
   · exact .inl ⟨.inr (.inr h.1), h.2⟩
   · split at h
     · rw [List.mem_singleton] at h; subst h
       exact .inr (.inr ⟨rfl, ‹_›, rfl, rfl⟩)
     · cases h
 · rintro (⟨h1 | h1 | h1, h2⟩ | ⟨h1, h2, h3⟩ | ⟨h1, h2, h3, h4⟩)
   · exact .inl ⟨h1, h2⟩
   · exact .inr (.inr (.inl ⟨h1, h2⟩))
   · exact .inr (.inr (.inr (.inl ⟨h1, h2⟩)))
   · refine .inr (.inl ⟨o.sign, hlt h2, ?_⟩)
     rw [if_pos h2, mem_splitO]; exact ⟨h1, rfl, h3⟩
   · refine .inr (.inr (.inr (.inr ⟨o.sign, hlt h2, ?_⟩)))
     rw [if_pos h2, List.mem_singleton]
     obtain ⟨k, i, a, b⟩ := o
     simp only at h1 h3 h4
     subst h1; subst h3; subst h4; rfl
theorem opt_bits {s : Nat} {o : Opt} (h : IsOpt xs s o) (h1 : ∀ i, s ≠ 2 ^ i) :
 o.a ≠ 0 ∧ (o.kind ≠ 5 → o.b ≠ 0) ∧ (o.kind = 5 → o.b = 0) ∧
  (∀ i, s.testBit i = true ↔ o.a.testBit i = true ∨ o.b.testBit i = true ∨ ((o.kind = 2 ∨ o.kind = 5) ∧ i = o.sign)) ∧
  (∀ i, o.a.testBit i = true → o.b.testBit i = false) ∧ ((o.kind = 2 ∨ o.kind = 5) → o.a.testBit o.sign = false ∧ o.b.testBit o.sign = false) := by
 have key : ∀ r a b : Nat, a ∈ subs r → b = r ^^^ a → a ≠ 0 ∧ b ≠ 0 ∧ (∀ i, r.testBit i = true ↔ a.testBit i = true ∨ b.testBit i = true) ∧ (∀ i, a.testBit i = true → b.testBit i = false) := by
  rintro r a b ha rfl
  rw [mem_subs] at ha
  obtain ⟨h0, hne, hsub⟩ := ha
  refine ⟨h0, ?_, ?_, ?_⟩
  · intro hx
    apply hne
    apply Nat.eq_of_testBit_eq
    intro i
    have : (r ^^^ a).testBit i = false := by rw [hx]; simp
    rw [Nat.testBit_xor] at this
    revert this
    cases r.testBit i <;> cases a.testBit i <;> simp
  · intro i
    have := hsub i
    rw [Nat.testBit_xor]
    revert this
    cases r.testBit i <;> cases a.testBit i <;> simp
  · intro i hi
    rw [Nat.testBit_xor, hi, hsub i hi]; rfl
 have kx : ∀ q : Nat, s.testBit q = true → ∀ i, (s.testBit i = true ↔ (s ^^^ 2 ^ q).testBit i = true ∨ i = q) ∧ (s ^^^ 2 ^ q).testBit q = false := by
  intro q hq i
  rw [Nat.testBit_xor, Nat.testBit_xor, Nat.testBit_two_pow, Nat.testBit_two_pow, hq]
  refine ⟨?_, by simp⟩
  by_cases e : q = i
  · subst e; simp [hq]
  · simp only [e, decide_false, Bool.xor_false]
    constructor
    · exact .inl
    · rintro (h | h)
      · exact h
      · exact absurd h.symm e
 rcases h with ⟨hk, h2, h3, h4⟩ | ⟨hk, h2, h3, h4⟩ | ⟨hk, h2, h3, h4⟩
 · obtain ⟨k1, k2, k3, k4⟩ := key s o.a o.b h3 h4
   have n5 : o.kind ≠ 5 := by omega
   have n2 : ¬ (o.kind = 2 ∨ o.kind = 5) := by omega
   refine ⟨k1, fun _ => k2, fun h => absurd h n5, fun i => ?_, k4, fun h => absurd h n2⟩
   rw [k3]; simp only [n2, false_and, or_false]
 · rw [hasS, Bool.and_eq_true] at h2
   have kq := kx o.sign h2.1
   obtain ⟨k1, k2, k3, k4⟩ := key _ o.a o.b h3 h4
   refine ⟨k1, fun _ => k2, fun h => by omega, fun i => ?_, k4, fun _ => ?_⟩
   · rw [(kq i).1, k3, or_assoc]; simp only [hk, true_or, true_and]
   · have hf := (kq 0).2
     have := k3 o.sign
     rw [hf] at this
     cases e1 : o.a.testBit o.sign with
     | true => rw [e1] at this; simp at this
     | false =>
       cases e2 : o.b.testBit o.sign with
       | true => rw [e2] at this; simp at this
       | false => exact ⟨rfl, rfl⟩
 · rw [hasS, Bool.and_eq_true] at h2
   have kq := kx o.sign h2.1
   refine ⟨?_, fun h => absurd hk h, fun _ => h4, fun i => ?_, fun i _ => by rw [h4]; simp, fun _ => ⟨by rw [h3]; exact (kq 0).2, by rw [h4]; simp⟩⟩
   · intro h0
     apply h1 o.sign
     apply Nat.eq_of_testBit_eq
     intro i
     rw [Bool.eq_iff_iff, (kq i).1, ← h3, h0, Nat.testBit_two_pow]
     simp [eq_comm]
   · rw [(kq i).1, ← h3, h4]; simp only [hk, or_true, true_and, Nat.zero_testBit, Bool.false_eq_true, false_or]
theorem opt_lt {s : Nat} {o : Opt} (h : IsOpt xs s o) (h1 : ∀ i, s ≠ 2 ^ i) : o.a < s ∧ o.b < s := by
 obtain ⟨a0, b0, b5, hb, hd, hs⟩ := opt_bits xs h h1
 constructor
 · refine bits_lt (fun i hi => (hb i).2 (.inl hi)) ?_
   rintro he
   by_cases h5 : o.kind = 5
   · have := (hs (.inr h5)).1
     rw [he, (hb _).2 (.inr (.inr ⟨.inr h5, rfl⟩))] at this; cases this
   · obtain ⟨i, hi⟩ := ne_zero_bit (b0 h5)
     have : o.a.testBit i = true := by rw [he]; exact (hb i).2 (.inr (.inl hi))
     rw [hd i this] at hi; cases hi
 · refine bits_lt (fun i hi => (hb i).2 (.inr (.inl hi))) ?_
   rintro he
   obtain ⟨i, hi⟩ := ne_zero_bit a0
   have h2 := hd i hi
   rw [he, (hb i).2 (.inl hi)] at h2; cases h2
end
structure Cell where
 ways : Nat
 cost : Int
 kind : Int
 sign : Nat
 a : Nat
 b : Nat
 deriving DecidableEq
def cell0 : Cell := ⟨0, 0, 0, 0, 0, 0⟩
section
variable (xs : List PSymbol)
def boxS (s : Nat) : PBox := joinN ((elems xs.length s).map (sbox xs))
def signS (o : Opt) : PBox := if o.kind = 2 ∨ o.kind = 5 then sbox xs o.sign else boxS xs o.a
def boxBo (o : Opt) : PBox := if o.b = 0 then boxS xs o.a else boxS xs o.b
def fitO (o : Opt) : Bool := fitsF o.kind (boxS xs o.a) (boxBo xs o) (signS xs o)
def ownO (o : Opt) : Int := ownF o.kind (boxS xs o.a) (boxBo xs o) (signS xs o)
section
variable (c : Nat → Cell)
def waysO (o : Opt) : Nat := (c o.a).ways * (if o.b = 0 then 1 else (c o.b).ways)
def costO (o : Opt) : Int := (c o.a).cost + (if o.b = 0 then 0 else (c o.b).cost) + ownO xs o
def liveO (o : Opt) : Bool := decide (waysO c o ≠ 0) && fitO xs o
def stepO (m : Cell) (o : Opt) : Cell :=
 if liveO xs c o = true then (if m.ways = 0 ∨ costO xs c o < m.cost then ⟨m.ways + waysO c o, costO xs c o, o.kind, o.sign, o.a, o.b⟩ else { m with ways := m.ways + waysO c o }) else m
def cellF (s : Nat) : Cell := if s = 2 ^ s.log2 then ⟨1, 0, 0, s.log2, 0, 0⟩ else (optsF xs s).foldl (stepO xs c) cell0
end
def cellAt (s : Nat) : Cell := cellF xs (fun k => if _h : k < s then cellAt k else cell0) s
termination_by s
def treeAt (s : Nat) : AT :=
 if s = 2 ^ s.log2 then .leaf s.log2
 else if _h : (cellAt xs s).a < s ∧ (cellAt xs s).b < s then
  (if (cellAt xs s).b = 0 then .root (cellAt xs s).sign (treeAt (cellAt xs s).a) else .two (cellAt xs s).kind (cellAt xs s).sign (treeAt (cellAt xs s).a) (treeAt (cellAt xs s).b))
 else .leaf 0
termination_by s
decreasing_by
 · exact _h.1
 · exact _h.1
 · exact _h.2
end
def lexO (x y : Opt) : Prop := x.kind < y.kind ∨ x.kind = y.kind ∧ (x.sign < y.sign ∨ x.sign = y.sign ∧ x.a < y.a)
section
variable (xs : List PSymbol) (c : Nat → Cell)
def wayL (o : Opt) : Nat := if liveO xs c o = true then waysO c o else 0
theorem live_pos {o : Opt} (h : liveO xs c o = true) : waysO c o ≠ 0 := by
 rw [liveO, Bool.and_eq_true, decide_eq_true_iff] at h; exact h.1
structure CellOf (P : List Opt) (m : Cell) : Prop where
 ways : m.ways = (P.map (wayL xs c)).sum
 best : (m = cell0 ∧ ∀ o ∈ P, liveO xs c o = false) ∨ m.ways ≠ 0 ∧ ∃ o ∈ P, liveO xs c o = true ∧ m = ⟨m.ways, costO xs c o, o.kind, o.sign, o.a, o.b⟩ ∧ ∀ p ∈ P, liveO xs c p = true → costO xs c o < costO xs c p ∨ costO xs c o = costO xs c p ∧ (p = o ∨ lexO o p)
theorem CellOf.step {P : List Opt} {m : Cell} (h : CellOf xs c P m) {q : Opt} (hq : ∀ p ∈ P, lexO p q) : CellOf xs c (P ++ [q]) (stepO xs c m q) := by
 by_cases hl : liveO xs c q = true
 · have hpos := live_pos xs c hl
   have hw : wayL xs c q = waysO c q := if_pos hl
   have hsum : ∀ n, n = m.ways + waysO c q → n = ((P ++ [q]).map (wayL xs c)).sum := by
    rintro n rfl
    rw [List.map_append, List.sum_append, ← h.ways]; simp [hw]
   rcases h.best with ⟨rfl, hd⟩ | ⟨h0, o, ho, hlo, hm, hb⟩
   · rw [stepO, if_pos hl, if_pos (.inl rfl)]
     refine ⟨hsum _ rfl, .inr ⟨by simp [cell0]; omega, q, by simp, hl, rfl, ?_⟩⟩
     intro p hp hlp
     rcases List.mem_append.1 hp with hp | hp
     · rw [hd p hp] at hlp; cases hlp
     · rw [List.mem_singleton] at hp; exact .inr ⟨by rw [hp], .inl hp⟩
   · rw [stepO, if_pos hl]
     have hmc : m.cost = costO xs c o := by rw [hm]
     by_cases hc : costO xs c q < m.cost
     · rw [if_pos (.inr hc)]
       refine ⟨hsum _ rfl, .inr ⟨by dsimp only; omega, q, by simp, hl, rfl, ?_⟩⟩
       intro p hp hlp
       rcases List.mem_append.1 hp with hp | hp
       · have := hb p hp hlp
         left; omega
       · rw [List.mem_singleton] at hp; exact .inr ⟨by rw [hp], .inl hp⟩
     · rw [if_neg (fun h => h.elim h0 hc)]
       refine ⟨hsum _ rfl, .inr ⟨by dsimp only; omega, o, List.mem_append_left _ ho, hlo, by rw [hm], ?_⟩⟩
       intro p hp hlp
       rcases List.mem_append.1 hp with hp | hp
       · exact hb p hp hlp
       · rw [List.mem_singleton] at hp; subst hp
         rcases Int.lt_or_eq_of_le (Int.not_lt.1 hc) with h1 | h1
         · left; omega
         · exact .inr ⟨by omega, .inr (hq o ho)⟩
 · have hl' : liveO xs c q = false := by simpa using hl
   rw [stepO, if_neg hl]
   refine ⟨by rw [List.map_append, List.sum_append, ← h.ways]; simp [wayL, hl'], ?_⟩
   rcases h.best with ⟨h1, h2⟩ | ⟨h0, o, ho, hlo, hm, hb⟩
   · refine .inl ⟨h1, fun p hp => ?_⟩
     rcases List.mem_append.1 hp with hp | hp
     · exact h2 p hp
     · rw [List.mem_singleton] at hp; rw [hp]; exact hl'
   · refine .inr ⟨h0, o, List.mem_append_left _ ho, hlo, hm, fun p hp hlp => ?_⟩
     rcases List.mem_append.1 hp with hp | hp
     · exact hb p hp hlp
     · rw [List.mem_singleton] at hp; rw [hp, hl'] at hlp; cases hlp
theorem cellOf_fold : ∀ (R P : List Opt) (m : Cell), CellOf xs c P m → (P ++ R).Pairwise lexO → CellOf xs c (P ++ R) (R.foldl (stepO xs c) m)
 | [], P, m, h, _ => by rw [List.append_nil]; exact h
 | q :: R, P, m, h, hp => by
   have e : P ++ q :: R = (P ++ [q]) ++ R := by simp
   rw [e] at hp ⊢
   refine cellOf_fold R (P ++ [q]) _ (h.step xs c ?_) hp
   intro p hpm
   have := (List.pairwise_append.1 (List.pairwise_append.1 hp).1).2.2
   exact this p hpm q (by simp)
theorem cellOf_nil : CellOf xs c [] cell0 := ⟨rfl, .inl ⟨rfl, by simp⟩⟩
end
theorem subs_lt (r : Nat) : (subs r).Pairwise (· < ·) := List.pairwise_lt_range.filter _
theorem splitO_lex (k : Int) (i r : Nat) : (splitO k i r).Pairwise lexO := by
 rw [splitO, List.pairwise_map]
 exact (subs_lt r).imp fun h => .inr ⟨rfl, .inr ⟨rfl, h⟩⟩
theorem optsF_lex (xs : List PSymbol) (s : Nat) : (optsF xs s).Pairwise lexO := by
 have hk : ∀ {k i r o}, o ∈ splitO k i r → o.kind = k := fun h => (mem_splitO.1 h).1
 have hov : ∀ o ∈ overO xs s, o.kind = 2 := by
  intro o ho
  rw [overO, List.mem_flatMap] at ho
  obtain ⟨i, _, h⟩ := ho
  split at h
  · exact hk h
  · cases h
 have hro : ∀ o ∈ rootO xs s, o.kind = 5 := by
  intro o ho
  rw [rootO, List.mem_flatMap] at ho
  obtain ⟨i, _, h⟩ := ho
  split at h
  · rw [List.mem_singleton] at h; rw [h]
  · cases h
 have pov : (overO xs s).Pairwise lexO := by
  rw [overO, List.pairwise_flatMap]
  refine ⟨fun i _ => ?_, List.pairwise_lt_range.imp fun {i j} hij x hx y hy => ?_⟩
  · split
    · exact splitO_lex _ _ _
    · exact .nil
  · split at hx
    · split at hy
      · have h1 := mem_splitO.1 hx; have h2 := mem_splitO.1 hy
        exact .inr ⟨by rw [h1.1, h2.1], .inl (by rw [h1.2.1, h2.2.1]; exact hij)⟩
      · cases hy
    · cases hx
 have pro : (rootO xs s).Pairwise lexO := by
  rw [rootO, List.pairwise_flatMap]
  refine ⟨fun i _ => ?_, List.pairwise_lt_range.imp fun {i j} hij x hx y hy => ?_⟩
  · split
    · exact List.pairwise_singleton _ _
    · exact .nil
  · split at hx
    · split at hy
      · rw [List.mem_singleton] at hx hy; subst hx; subst hy
        exact .inr ⟨rfl, .inl hij⟩
      · cases hy
    · cases hx
 rw [optsF]
 refine List.pairwise_append.2 ⟨splitO_lex _ _ _, List.pairwise_append.2 ⟨pov, List.pairwise_append.2 ⟨splitO_lex _ _ _, List.pairwise_append.2 ⟨splitO_lex _ _ _, pro, ?_⟩, ?_⟩, ?_⟩, ?_⟩
 · intro x hx y hy; left; rw [hk hx, hro y hy]; decide
 · intro x hx y hy; left; rw [hk hx]
   rcases List.mem_append.1 hy with hy | hy
   · rw [hk hy]; decide
   · rw [hro y hy]; decide
 · intro x hx y hy; left; rw [hov x hx]
   rcases List.mem_append.1 hy with hy | hy
   · rw [hk hy]; decide
   · rcases List.mem_append.1 hy with hy | hy
     · rw [hk hy]; decide
     · rw [hro y hy]; decide
 · intro x hx y hy; left; rw [hk hx]
   rcases List.mem_append.1 hy with hy | hy
   · rw [hov y hy]; decide
   · rcases List.mem_append.1 hy with hy | hy
     · rw [hk hy]; decide
     · rcases List.mem_append.1 hy with hy | hy
       · rw [hk hy]; decide
       · rw [hro y hy]; decide
theorem foldl_cong {α β : Type} {f g : β → α → β} : ∀ {l : List α} {b : β}, (∀ x ∈ l, ∀ b, f b x = g b x) → l.foldl f b = l.foldl g b
 | [], _, _ => rfl
 | x :: l, b, h => by rw [List.foldl_cons, List.foldl_cons, h x (List.mem_cons_self ..), foldl_cong fun y hy => h y (List.mem_cons_of_mem _ hy)]
theorem not_single {s : Nat} (h : s ≠ 2 ^ s.log2) : ∀ i, s ≠ 2 ^ i := by
 rintro i rfl; rw [Nat.log2_two_pow] at h; exact h rfl
section
variable (xs : List PSymbol)
theorem stepO_cong {c d : Nat → Cell} {o : Opt} (h1 : c o.a = d o.a) (h2 : c o.b = d o.b) (m : Cell) : stepO xs c m o = stepO xs d m o := by
 have e1 : waysO c o = waysO d o := by rw [waysO, waysO, h1, h2]
 have e2 : costO xs c o = costO xs d o := by rw [costO, costO, h1, h2]
 rw [stepO, stepO, liveO, liveO, e1, e2]
theorem cellAt_eq {s : Nat} (hs : s < 2 ^ xs.length) : cellAt xs s = cellF xs (cellAt xs) s := by
 rw [cellAt, cellF, cellF]
 split
 · rfl
 · rename_i h1
   apply foldl_cong
   intro o ho m
   have hl := opt_lt xs ((mem_optsF xs hs).1 ho) (not_single h1)
   exact stepO_cong xs (by simp [hl.1]) (by simp [hl.2]) m
theorem cellAt_of {s : Nat} (hs : s < 2 ^ xs.length) (h1 : s ≠ 2 ^ s.log2) : CellOf xs (cellAt xs) (optsF xs s) (cellAt xs s) := by
 rw [cellAt_eq xs hs, cellF, if_neg h1]
 exact cellOf_fold xs _ (optsF xs s) [] _ (cellOf_nil xs _) (optsF_lex xs s)
theorem AT.bx_box {T : AT} {s : Nat} (h : T.cov s) (hs : s < 2 ^ xs.length) : T.bx xs = boxS xs s := by
 rw [T.bx_join, boxS]
 exact joinN_perm ((AT.cov_perm h hs).map _)
theorem AT.cov_ne {T : AT} {s : Nat} (h : T.cov s) : s ≠ 0 := by
 rintro rfl
 have hp := T.syms_pos
 cases e : T.syms with
 | nil => rw [e] at hp; simp at hp
 | cons i r =>
   have := (h.2 i).1 (by rw [e]; simp)
   simp at this
theorem AT.cov_one {T : AT} {i : Nat} (h : T.cov (2 ^ i)) : T = .leaf i := by
 have hall : ∀ j ∈ T.syms, j = i := by
  intro j hj
  have := (h.2 j).1 hj
  rw [Nat.testBit_two_pow, decide_eq_true_iff] at this
  exact this.symm
 have hlen : T.syms.length ≤ 1 := by
  cases e : T.syms with
  | nil => simp
  | cons a r =>
    cases r with
    | nil => simp
    | cons b r =>
      have hn := h.1
      rw [e] at hn hall
      have h1 := hall a (by simp)
      have h2 := hall b (by simp)
      rw [h1, h2] at hn
      simp at hn
 cases T with
 | leaf j => rw [hall j (by simp [AT.syms])]
 | two k s a b =>
   have := a.syms_pos; have := b.syms_pos
   simp only [AT.syms, List.length_append] at hlen; omega
 | root s a =>
   have := a.syms_pos
   simp only [AT.syms, List.length_append, List.length_singleton] at hlen; omega
theorem fitsF_sign {k : Int} (h2 : k ≠ 2) (h5 : k ≠ 5) (a b s t : PBox) : fitsF k a b s = fitsF k a b t := by
 simp only [fitsF, h2, h5, if_false]
theorem ownF_sign {k : Int} (h2 : k ≠ 2) (a b s t : PBox) : ownF k a b s = ownF k a b t := by
 simp only [ownF, h2, if_false]
end
section
variable (xs : List PSymbol)
theorem single_log {s i : Nat} (h : s = 2 ^ i) : s = 2 ^ s.log2 := by subst h; rw [Nat.log2_two_pow]
theorem cellAt_single {s : Nat} (hs : s < 2 ^ xs.length) (h : s = 2 ^ s.log2) : cellAt xs s = ⟨1, 0, 0, s.log2, 0, 0⟩ := by
 rw [cellAt_eq xs hs, cellF, if_pos h]
theorem treeAt_single {s : Nat} (h : s = 2 ^ s.log2) : treeAt xs s = .leaf s.log2 := by
 rw [treeAt, if_pos h]
theorem treeAt_both {s : Nat} (h : s ≠ 2 ^ s.log2) (h1 : (cellAt xs s).a < s ∧ (cellAt xs s).b < s) : treeAt xs s =
 if (cellAt xs s).b = 0 then .root (cellAt xs s).sign (treeAt xs (cellAt xs s).a) else .two (cellAt xs s).kind (cellAt xs s).sign (treeAt xs (cellAt xs s).a) (treeAt xs (cellAt xs s).b) := by
 rw [treeAt, if_neg h, dif_pos h1]
theorem cov_two {s : Nat} {k : Int} {q : Nat} {A B : AT} (h : (AT.two k q A B).cov s) (ok : okTwo xs k q) :
 A.cov (maskOf A.syms) ∧ B.cov (maskOf B.syms) ∧ maskOf B.syms ≠ 0 ∧ IsOpt xs s ⟨k, q, maskOf A.syms, maskOf B.syms⟩ := by
 have hn := h.1
 rw [AT.syms] at hn
 obtain ⟨nA, hn2, dA⟩ := List.nodup_append.1 hn
 obtain ⟨nB, nS, dB⟩ := List.nodup_append.1 hn2
 have cA := AT.cov_mask nA
 have cB := AT.cov_mask nB
 have b0 := AT.cov_ne cB
 have a0 := AT.cov_ne cA
 have hmem : ∀ i, s.testBit i = true ↔ i ∈ A.syms ∨ i ∈ B.syms ∨ (k = 2 ∧ i = q) := by
  intro i
  rw [← h.2, AT.syms, List.mem_append, List.mem_append]
  by_cases hk : k = 2
  · simp [hk]
  · simp [hk]
 have hxor : ∀ r : Nat, (∀ i, r.testBit i = true ↔ i ∈ A.syms ∨ i ∈ B.syms) → maskOf A.syms ∈ subs r ∧ maskOf B.syms = r ^^^ maskOf A.syms := by
  intro r hr
  refine ⟨mem_subs.2 ⟨a0, ?_, fun i hi => (hr i).2 (.inl ((cA.2 i).2 hi))⟩, ?_⟩
  · intro he
    obtain ⟨i, hi⟩ := ne_zero_bit b0
    have hb := (cB.2 i).2 hi
    have ha := (cA.2 i).2 (by rw [he]; exact (hr i).2 (.inr hb))
    exact dA i ha i (List.mem_append_left _ hb) rfl
  · apply Nat.eq_of_testBit_eq
    intro i
    have h1 := hr i
    rw [Nat.testBit_xor, maskOf_bit, maskOf_bit]
    by_cases ha : i ∈ A.syms
    · have hb : i ∉ B.syms := fun hb => dA i ha i (List.mem_append_left _ hb) rfl
      rw [h1.2 (.inl ha)]; simp [ha, hb]
    · by_cases hb : i ∈ B.syms
      · rw [h1.2 (.inr hb)]; simp [ha, hb]
      · have : r.testBit i = false := by
         rw [Bool.eq_false_iff]; intro h2; rcases h1.1 h2 with h2 | h2
         · exact ha h2
         · exact hb h2
        rw [this]; simp [ha, hb]
 refine ⟨cA, cB, b0, ?_⟩
 by_cases hk : k = 2
 · have hq : s.testBit q = true := (hmem q).2 (.inr (.inr ⟨hk, rfl⟩))
   have qA : q ∉ A.syms := fun hq' => dA q hq' q (List.mem_append_right _ (by simp [hk])) rfl
   have qB : q ∉ B.syms := fun hq' => dB q hq' q (by simp [hk]) rfl
   rw [okTwo, if_pos hk] at ok
   refine .inr (.inl ⟨hk, by rw [hasS, hq]; simpa using ok, hxor _ fun i => ?_⟩)
   rw [Nat.testBit_xor, Nat.testBit_two_pow]
   by_cases e : q = i
   · subst e; simp [hq, qA, qB]
   · simp only [e, decide_false, Bool.xor_false]
     rw [hmem]; simp [hk, eq_comm, e]
 · rw [okTwo, if_neg hk] at ok
   refine .inl ⟨ok.1, ok.2, hxor s fun i => ?_⟩
   rw [hmem]; simp [hk]
theorem cov_root {s q : Nat} {A : AT} (h : (AT.root q A).cov s) (ok : (symAt xs q).label = root1) :
 A.cov (maskOf A.syms) ∧ IsOpt xs s ⟨5, q, maskOf A.syms, 0⟩ := by
 have hn := h.1
 rw [AT.syms] at hn
 obtain ⟨nA, -, dA⟩ := List.nodup_append.1 hn
 have cA := AT.cov_mask nA
 have hmem : ∀ i, s.testBit i = true ↔ i ∈ A.syms ∨ i = q := by
  intro i; rw [← h.2, AT.syms, List.mem_append, List.mem_singleton]
 have hq : s.testBit q = true := (hmem q).2 (.inr rfl)
 have qA : q ∉ A.syms := fun hq' => dA q hq' q (by simp) rfl
 refine ⟨cA, .inr (.inr ⟨rfl, by rw [hasS, hq]; simpa using ok, ?_, rfl⟩)⟩
 apply Nat.eq_of_testBit_eq
 intro i
 rw [Nat.testBit_xor, maskOf_bit, Nat.testBit_two_pow]
 by_cases e : q = i
 · subst e; simp [hq, qA]
 · simp only [e, decide_false, Bool.xor_false]
   rw [Bool.eq_iff_iff, hmem, decide_eq_true_iff]
   constructor
   · exact .inl
   · rintro (h' | h')
     · exact h'
     · exact absurd h'.symm e
theorem chart : ∀ s, s ≠ 0 → s < 2 ^ xs.length →
 ((cellAt xs s).ways ≠ 0 → (treeAt xs s).ok xs ∧ (treeAt xs s).cov s ∧ (treeAt xs s).cost xs = (cellAt xs s).cost) ∧
   ∀ T : AT, T.ok xs → T.cov s → (cellAt xs s).ways ≠ 0 ∧ (cellAt xs s).cost ≤ T.cost xs := by
 intro s
 induction s using Nat.strongRecOn with
 | _ s ih =>
 intro s0 hs
 by_cases h1 : s = 2 ^ s.log2
 · have hcov : (AT.leaf s.log2).cov s := by
    refine ⟨by simp [AT.syms], fun i => ?_⟩
    rw [AT.syms, List.mem_singleton, h1, Nat.testBit_two_pow, Nat.log2_two_pow, decide_eq_true_iff, eq_comm]
   rw [cellAt_single xs hs h1, treeAt_single xs h1]
   refine ⟨fun _ => ⟨trivial, hcov, rfl⟩, fun T _ hT => ⟨Nat.one_ne_zero, ?_⟩⟩
   rw [h1] at hT
   rw [AT.cov_one hT]; exact Int.le_refl _
 · have hns := not_single h1
   have hC := cellAt_of xs hs h1
   have fits : ∀ {o : Opt} {A B : AT}, A.cov o.a → B.cov o.b → o.a < 2 ^ xs.length → o.b < 2 ^ xs.length → o.b ≠ 0 → o.kind ≠ 5 →
    fitO xs o = fitsF o.kind (A.bx xs) (B.bx xs) (if o.kind = 2 then sbox xs o.sign else A.bx xs) ∧ ownO xs o = ownF o.kind (A.bx xs) (B.bx xs) (if o.kind = 2 then sbox xs o.sign else A.bx xs) := by
    intro o A B hA hB la lb hb h5
    rw [fitO, ownO, boxBo, if_neg hb, AT.bx_box xs hA la, AT.bx_box xs hB lb, signS]
    simp only [h5, or_false, and_self]
   have fitr : ∀ {o : Opt} {A : AT}, A.cov o.a → o.a < 2 ^ xs.length → o.b = 0 → o.kind = 5 →
    fitO xs o = fitsF 5 (A.bx xs) (A.bx xs) (sbox xs o.sign) ∧ ownO xs o = ownF 5 (A.bx xs) (A.bx xs) (sbox xs o.sign) := by
    intro o A hA la hb h5
    rw [fitO, ownO, boxBo, if_pos hb, AT.bx_box xs hA la, signS, h5]
    simp
   refine ⟨fun hw => ?_, fun T ok hT => ?_⟩
   · rcases hC.best with ⟨hz, _⟩ | ⟨h0, o, ho, hl, hm, _⟩
     · rw [hz] at hw; exact absurd rfl hw
     · have hop := (mem_optsF xs hs).1 ho
       obtain ⟨la, lb⟩ := opt_lt xs hop hns
       obtain ⟨a0, b0, b5, hb, hd, hsg⟩ := opt_bits xs hop hns
       rw [liveO, Bool.and_eq_true, decide_eq_true_iff, waysO] at hl
       obtain ⟨hlw, hlf⟩ := hl
       have ca : (cellAt xs s).a = o.a := by rw [hm]
       have cb : (cellAt xs s).b = o.b := by rw [hm]
       have ck : (cellAt xs s).kind = o.kind := by rw [hm]
       have cs : (cellAt xs s).sign = o.sign := by rw [hm]
       have cc : (cellAt xs s).cost = costO xs (cellAt xs) o := by rw [hm]
       have wa : (cellAt xs o.a).ways ≠ 0 := fun h => hlw (by rw [h, Nat.zero_mul])
       obtain ⟨ta, ka, qa⟩ := (ih o.a la a0 (by omega)).1 wa
       rw [treeAt_both xs h1 (by rw [ca, cb]; exact ⟨la, lb⟩), ca, cb, ck, cs, cc, costO]
       by_cases h5 : o.kind = 5
       · have hb0 := b5 h5
         obtain ⟨e1, e2⟩ := fitr ka (by omega) hb0 h5
         rw [if_pos hb0, if_pos hb0, AT.ok, AT.cost, e2, qa, Int.add_zero]
         refine ⟨⟨ta, ?_, by rw [← e1]; exact hlf⟩, ⟨?_, fun i => ?_⟩, rfl⟩
         · rcases hop with ⟨h, _⟩ | ⟨h, _⟩ | ⟨_, h, _⟩
           · omega
           · omega
           · rw [hasS, Bool.and_eq_true, decide_eq_true_iff] at h; exact h.2
         · rw [AT.syms, List.nodup_append]
           refine ⟨ka.1, by simp, fun x hx y hy he => ?_⟩
           rw [List.mem_singleton] at hy
           have := (hsg (.inr h5)).1
           rw [← hy, ← he, (ka.2 x).1 hx] at this; cases this
         · rw [AT.syms, List.mem_append, List.mem_singleton, ka.2, hb i, hb0]; simp [h5]
       · have hb0 := b0 h5
         have wb : (cellAt xs o.b).ways ≠ 0 := fun h => hlw (by rw [if_neg hb0, h, Nat.mul_zero])
         obtain ⟨tb, kb, qb⟩ := (ih o.b lb hb0 (by omega)).1 wb
         obtain ⟨e1, e2⟩ := fits ka kb (by omega) (by omega) hb0 h5
         rw [if_neg hb0, if_neg hb0, AT.ok, AT.cost, e2, qa, qb]
         refine ⟨⟨ta, tb, ?_, by rw [← e1]; exact hlf⟩, ⟨?_, fun i => ?_⟩, rfl⟩
         · rcases hop with ⟨h, h', _⟩ | ⟨h, h', _⟩ | ⟨h, _⟩
           · rw [okTwo, if_neg (by omega)]; exact ⟨h, h'⟩
           · rw [hasS, Bool.and_eq_true, decide_eq_true_iff] at h'; rw [okTwo, if_pos h]; exact h'.2
           · exact absurd h h5
         · rw [AT.syms, List.nodup_append, List.nodup_append]
           refine ⟨ka.1, ⟨kb.1, by split <;> simp, fun x hx y hy he => ?_⟩, fun x hx y hy he => ?_⟩
           · split at hy
             · rename_i h2
               rw [List.mem_singleton] at hy
               have := (hsg (.inl h2)).2
               rw [← hy, ← he, (kb.2 x).1 hx] at this; cases this
             · cases hy
           · rcases List.mem_append.1 hy with hy | hy
             · have h3 := hd x ((ka.2 x).1 hx)
               rw [he, (kb.2 y).1 hy] at h3; cases h3
             · split at hy
               · rename_i h2
                 rw [List.mem_singleton] at hy
                 have := (hsg (.inl h2)).1
                 rw [← hy, ← he, (ka.2 x).1 hx] at this; cases this
               · cases hy
         · rw [AT.syms, List.mem_append, List.mem_append, ka.2, kb.2, hb i]
           by_cases h2 : o.kind = 2
           · simp [h2]
           · simp [h2, h5]
   · have hle : ∀ o ∈ optsF xs s, liveO xs (cellAt xs) o = true → (cellAt xs s).ways ≠ 0 ∧ (cellAt xs s).cost ≤ costO xs (cellAt xs) o := by
      intro o ho hl
      rcases hC.best with ⟨_, hz⟩ | ⟨h0, p, hp, hlp, hm, hb⟩
      · rw [hz o ho] at hl; cases hl
      · refine ⟨h0, ?_⟩
        have e : (cellAt xs s).cost = costO xs (cellAt xs) p := by rw [hm]
        rw [e]
        rcases hb o ho hl with h | h
        · omega
        · omega
     cases T with
     | leaf i =>
       exfalso
       apply hns i
       apply Nat.eq_of_testBit_eq
       intro j
       rw [Bool.eq_iff_iff, ← hT.2 j, AT.syms, List.mem_singleton, Nat.testBit_two_pow, decide_eq_true_iff, eq_comm]
     | root q A =>
       obtain ⟨o1, o2, o3⟩ := ok
       obtain ⟨cA, hop⟩ := cov_root xs hT o2
       obtain ⟨la, lb⟩ := opt_lt xs hop hns
       simp only at la
       obtain ⟨w, le⟩ := (ih _ la (AT.cov_ne cA) (by omega)).2 A o1 cA
       obtain ⟨e1, e2⟩ := fitr (o := ⟨5, q, maskOf A.syms, 0⟩) cA (by simp only; omega) rfl rfl
       have hl := hle _ ((mem_optsF xs hs).2 hop) (by
        rw [liveO, e1, o3, Bool.and_true, decide_eq_true_iff, waysO]; simpa using w)
       refine ⟨hl.1, Int.le_trans hl.2 ?_⟩
       rw [costO, e2, AT.cost]
       simp only [if_true]
       omega
     | two k q A B =>
       obtain ⟨o1, o2, o3, o4⟩ := ok
       obtain ⟨cA, cB, hb0, hop⟩ := cov_two xs hT o3
       obtain ⟨la, lb⟩ := opt_lt xs hop hns
       simp only at la lb
       obtain ⟨w, le⟩ := (ih _ la (AT.cov_ne cA) (by omega)).2 A o1 cA
       obtain ⟨w2, le2⟩ := (ih _ lb (AT.cov_ne cB) (by omega)).2 B o2 cB
       have k5 : k ≠ 5 := by
        rw [okTwo] at o3
        split at o3
        · omega
        · omega
       obtain ⟨e1, e2⟩ := fits (o := ⟨k, q, maskOf A.syms, maskOf B.syms⟩) cA cB (by simp only; omega) (by simp only; omega) hb0 k5
       have hl := hle _ ((mem_optsF xs hs).2 hop) (by
        rw [liveO, e1, o4, Bool.and_true, decide_eq_true_iff, waysO, if_neg hb0]
        exact Nat.mul_ne_zero w w2)
       refine ⟨hl.1, Int.le_trans hl.2 ?_⟩
       rw [costO, e2, AT.cost, if_neg hb0]
       simp only
       omega
end
end Go.Proofs.Ytmopioaojdlnkaa
