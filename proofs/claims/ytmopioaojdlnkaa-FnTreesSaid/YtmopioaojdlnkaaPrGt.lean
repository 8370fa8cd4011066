/- A chart that tries the ways in another order comes to the same cells. No program is named here. Conditions: none. -/
import Derived.Test.YtmopioaojdlnkaaPrEt
namespace Go.Proofs.Ytmopioaojdlnkaa
open Go Go.RowKit
instance (x y : Opt) : Decidable (lexO x y) := by unfold lexO; infer_instance
theorem lexO_total {xs : List PSymbol} {s : Nat} {x y : Opt} (hx : IsOpt xs s x) (hy : IsOpt xs s y) : x = y ∨ lexO x y ∨ lexO y x := by
 by_cases hk : x.kind = y.kind
 · by_cases hs : x.sign = y.sign
   · by_cases ha : x.a = y.a
     · left
       have hb : x.b = y.b := by
        rcases hx with ⟨h1, h2, h3, h4⟩ | ⟨h1, h2, h3, h4⟩ | ⟨h1, h2, h3, h4⟩
        · rcases hy with ⟨g1, g2, g3, g4⟩ | ⟨g1, g2, g3, g4⟩ | ⟨g1, g2, g3, g4⟩
          · rw [h4, g4, ha]
          · omega
          · omega
        · rcases hy with ⟨g1, g2, g3, g4⟩ | ⟨g1, g2, g3, g4⟩ | ⟨g1, g2, g3, g4⟩
          · omega
          · rw [h4, g4, ha, hs]
          · omega
        · rcases hy with ⟨g1, g2, g3, g4⟩ | ⟨g1, g2, g3, g4⟩ | ⟨g1, g2, g3, g4⟩
          · omega
          · omega
          · rw [h4, g4]
       obtain ⟨k, q, a, b⟩ := x
       obtain ⟨k', q', a', b'⟩ := y
       simp only at hk hs ha hb
       rw [hk, hs, ha, hb]
     · right
       rcases Nat.lt_or_gt_of_ne ha with h | h
       · exact .inl (.inr ⟨hk, .inr ⟨hs, h⟩⟩)
       · exact .inr (.inr ⟨hk.symm, .inr ⟨hs.symm, h⟩⟩)
   · right
     rcases Nat.lt_or_gt_of_ne hs with h | h
     · exact .inl (.inr ⟨hk, .inl h⟩)
     · exact .inr (.inr ⟨hk.symm, .inl h⟩)
 · right
   rcases Int.lt_or_gt_of_ne hk with h | h
   · exact .inl (.inl h)
   · exact .inr (.inl h)
section
variable (xs : List PSymbol) (c : Nat → Cell)
def stepI (m : Cell) (o : Opt) : Cell :=
 if liveO xs c o = true then (if m.ways = 0 ∨ costO xs c o < m.cost ∨ costO xs c o = m.cost ∧ lexO o ⟨m.kind, m.sign, m.a, m.b⟩ then ⟨m.ways + waysO c o, costO xs c o, o.kind, o.sign, o.a, o.b⟩ else { m with ways := m.ways + waysO c o }) else m
theorem lexO_trans {x y z : Opt} (h : lexO x y) (k : lexO y z) : lexO x z := by
 unfold lexO at *
 omega
theorem CellOf.stepI {P : List Opt} {m : Cell} (h : CellOf xs c P m) {q : Opt} (hq : ∀ p ∈ P, p = q ∨ lexO p q ∨ lexO q p) : CellOf xs c (P ++ [q]) (stepI xs c m q) := by
 by_cases hl : liveO xs c q = true
 · have hpos := live_pos xs c hl
   have hw : wayL xs c q = waysO c q := if_pos hl
   have hsum : ∀ n, n = m.ways + waysO c q → n = ((P ++ [q]).map (wayL xs c)).sum := by
    rintro n rfl
    rw [List.map_append, List.sum_append, ← h.ways]; simp [hw]
   rcases h.best with ⟨rfl, hd⟩ | ⟨h0, o, ho, hlo, hm, hb⟩
   · rw [Go.Proofs.Ytmopioaojdlnkaa.stepI, if_pos hl, if_pos (.inl rfl)]
     refine ⟨hsum _ rfl, .inr ⟨by simp [cell0]; omega, q, by simp, hl, rfl, ?_⟩⟩
     intro p hp hlp
     rcases List.mem_append.1 hp with hp | hp
     · rw [hd p hp] at hlp; cases hlp
     · rw [List.mem_singleton] at hp; exact .inr ⟨by rw [hp], .inl hp⟩
   · have hmc : m.cost = costO xs c o := by rw [hm]
     have hmo : (⟨m.kind, m.sign, m.a, m.b⟩ : Opt) = o := by rw [hm]
     rw [Go.Proofs.Ytmopioaojdlnkaa.stepI, if_pos hl, hmo]
     by_cases hc : costO xs c q < m.cost ∨ costO xs c q = m.cost ∧ lexO q o
     · rw [if_pos (.inr hc)]
       refine ⟨hsum _ rfl, .inr ⟨by dsimp only; omega, q, by simp, hl, rfl, ?_⟩⟩
       intro p hp hlp
       rcases List.mem_append.1 hp with hp | hp
       · have h1 := hb p hp hlp
         rcases hc with hc | ⟨hc, hx⟩
         · left; omega
         · rcases h1 with h1 | ⟨h1, h2⟩
           · left; omega
           · refine .inr ⟨by omega, .inr ?_⟩
             rcases h2 with rfl | h2
             · exact hx
             · exact lexO_trans hx h2
       · rw [List.mem_singleton] at hp; exact .inr ⟨by rw [hp], .inl hp⟩
     · rw [if_neg (fun h => h.elim h0 hc)]
       refine ⟨hsum _ rfl, .inr ⟨by dsimp only; omega, o, List.mem_append_left _ ho, hlo, by rw [hm], ?_⟩⟩
       intro p hp hlp
       rcases List.mem_append.1 hp with hp | hp
       · exact hb p hp hlp
       · rw [List.mem_singleton] at hp; subst hp
         rw [hmc] at hc
         rcases Int.lt_trichotomy (costO xs c o) (costO xs c p) with h1 | h1 | h1
         · exact .inl h1
         · refine .inr ⟨h1, ?_⟩
           rcases hq o ho with h2 | h2 | h2
           · exact .inl h2.symm
           · exact .inr h2
           · exact absurd (.inr ⟨h1.symm, h2⟩) hc
         · exact absurd (.inl h1) hc
 · have hl' : liveO xs c q = false := by simpa using hl
   rw [Go.Proofs.Ytmopioaojdlnkaa.stepI, if_neg hl]
   refine ⟨by rw [List.map_append, List.sum_append, ← h.ways]; simp [wayL, hl'], ?_⟩
   rcases h.best with ⟨h1, h2⟩ | ⟨h0, o, ho, hlo, hm, hb⟩
   · refine .inl ⟨h1, fun p hp => ?_⟩
     rcases List.mem_append.1 hp with hp | hp
     · exact h2 p hp
     · rw [List.mem_singleton] at hp; rw [hp]; exact hl'
   · refine .inr ⟨h0, o, List.mem_append_left _ ho, hlo, hm, fun p hp hlp => ?_⟩
     rcases List.mem_append.1 hp with hp | hp
     · exact hb p hp hlp
     · rw [List.mem_singleton] at hp; rw [hp, hl'] at hlp; cases hlp
theorem cellOf_foldI : ∀ (R P : List Opt) (m : Cell), CellOf xs c P m → (∀ p ∈ P ++ R, ∀ q ∈ P ++ R, p = q ∨ lexO p q ∨ lexO q p) → CellOf xs c (P ++ R) (R.foldl (stepI xs c) m)
 | [], P, m, h, _ => by rw [List.append_nil]; exact h
 | q :: R, P, m, h, hp => by
   have e : P ++ q :: R = (P ++ [q]) ++ R := by simp
   have hp' := hp
   rw [e] at hp ⊢
   exact cellOf_foldI R (P ++ [q]) _ (h.stepI xs c (fun p hpm => hp' p (List.mem_append_left _ hpm) q (by simp))) hp
theorem lexO_asymm {x y : Opt} (h : lexO x y) (k : lexO y x) : False := by
 unfold lexO at *
 omega
theorem cellOf_same {P Q : List Opt} {m k : Cell} (h : CellOf xs c P m) (g : CellOf xs c Q k) (hp : P.Perm Q) : m = k := by
 have hw : m.ways = k.ways := by rw [h.ways, g.ways]; exact (hp.map _).sum_nat
 rcases h.best with ⟨h1, h2⟩ | ⟨h0, o, ho, hlo, hm, hb⟩
 · rcases g.best with ⟨g1, _⟩ | ⟨g0, p, hp', hlp, _⟩
   · rw [h1, g1]
   · rw [h2 p (hp.mem_iff.2 hp')] at hlp; cases hlp
 · rcases g.best with ⟨g1, g2⟩ | ⟨g0, p, hp', hlp, gm, gb⟩
   · rw [g2 o (hp.mem_iff.1 ho)] at hlo; cases hlo
   · have c1 := hb p (hp.mem_iff.2 hp') hlp
     have c2 := gb o (hp.mem_iff.1 ho) hlo
     have e : o = p := by
      rcases c1 with c1 | ⟨c1, c3⟩
      · rcases c2 with c2 | ⟨c2, _⟩ <;> omega
      · rcases c2 with c2 | ⟨c2, c4⟩
        · omega
        · rcases c3 with c3 | c3
          · exact c3.symm
          · rcases c4 with c4 | c4
            · exact c4
            · exact (lexO_asymm c3 c4).elim
     rw [hm, gm, e, hw]
end
def threeO (s a : Nat) : List Opt := [⟨1, 0, a, s ^^^ a⟩, ⟨3, 0, a, s ^^^ a⟩, ⟨4, 0, a, s ^^^ a⟩]
def subsD (r : Nat) : List Nat := (subs r).reverse
def signO (xs : List PSymbol) (s i : Nat) : List Opt :=
 if s.testBit i = true then (if (symAt xs i).label = minus1 then (subsD (s ^^^ 2 ^ i)).map fun a => ⟨2, i, a, (s ^^^ 2 ^ i) ^^^ a⟩ else if (symAt xs i).label = root1 then [⟨5, i, s ^^^ 2 ^ i, 0⟩] else []) else []
def optsI (xs : List PSymbol) (s : Nat) : List Opt := (subsD s).flatMap (threeO s) ++ (List.range xs.length).flatMap (signO xs s)
theorem minus_root : minus1 ≠ root1 := by decide
theorem mem_subsD {a r : Nat} : a ∈ subsD r ↔ a ∈ subs r := by rw [subsD, List.mem_reverse]
theorem mem_optsI {xs : List PSymbol} {s : Nat} (hs : s < 2 ^ xs.length) {o : Opt} : o ∈ optsI xs s ↔ IsOpt xs s o := by
 rw [optsI, List.mem_append, List.mem_flatMap, List.mem_flatMap]
 constructor
 · rintro (⟨a, ha, ho⟩ | ⟨i, hi, ho⟩)
   · rw [mem_subsD] at ha
     simp only [threeO, List.mem_cons, List.not_mem_nil, or_false] at ho
     rcases ho with rfl | rfl | rfl
     · exact .inl ⟨.inl rfl, rfl, ha, rfl⟩
     · exact .inl ⟨.inr (.inl rfl), rfl, ha, rfl⟩
     · exact .inl ⟨.inr (.inr rfl), rfl, ha, rfl⟩
   · rw [signO] at ho
     split at ho
     · rename_i hb
       split at ho
       · rename_i hl
         obtain ⟨a, ha, rfl⟩ := List.mem_map.1 ho
         exact .inr (.inl ⟨rfl, by rw [hasS, hb]; simpa using hl, mem_subsD.1 ha, rfl⟩)
       · split at ho
         · rename_i hl
           rw [List.mem_singleton] at ho; subst ho
           exact .inr (.inr ⟨rfl, by rw [hasS, hb]; simpa using hl, rfl, rfl⟩)
         · cases ho
     · cases ho
 · obtain ⟨k, q, a, b⟩ := o
   rintro (⟨h1, h2, h3, h4⟩ | ⟨h1, h2, h3, h4⟩ | ⟨h1, h2, h3, h4⟩)
   · simp only at h1 h2 h3 h4
     subst h2; subst h4
     refine .inl ⟨a, mem_subsD.2 h3, ?_⟩
     rcases h1 with rfl | rfl | rfl <;> simp [threeO]
   · simp only at h1 h2 h3 h4
     subst h1; subst h4
     rw [hasS, Bool.and_eq_true, decide_eq_true_iff] at h2
     refine .inr ⟨q, List.mem_range.2 (bit_lt hs h2.1), ?_⟩
     rw [signO, if_pos h2.1, if_pos h2.2]
     exact List.mem_map.2 ⟨a, mem_subsD.2 h3, rfl⟩
   · simp only at h1 h2 h3 h4
     subst h1; subst h4; subst h3
     rw [hasS, Bool.and_eq_true, decide_eq_true_iff] at h2
     refine .inr ⟨q, List.mem_range.2 (bit_lt hs h2.1), ?_⟩
     rw [signO, if_pos h2.1, if_neg (by rw [h2.2]; exact fun h => minus_root h.symm), if_pos h2.2]
     simp
theorem subsD_nodup (r : Nat) : (subsD r).Nodup := by
 rw [subsD, List.Nodup, List.pairwise_reverse]
 exact (subs_lt r).imp fun h => by omega
theorem optsI_nodup (xs : List PSymbol) (s : Nat) : (optsI xs s).Nodup := by
 rw [optsI, List.nodup_append]
 refine ⟨?_, ?_, ?_⟩
 · rw [List.Nodup, List.pairwise_flatMap]
   refine ⟨fun a _ => by simp [threeO], (subsD_nodup s).imp fun {a b} hab x hx y hy he => ?_⟩
   apply hab
   simp only [threeO, List.mem_cons, List.not_mem_nil, or_false] at hx hy
   have e1 : x.a = a := by rcases hx with rfl | rfl | rfl <;> rfl
   have e2 : y.a = b := by rcases hy with rfl | rfl | rfl <;> rfl
   rw [← e1, ← e2, he]
 · have hsg : ∀ i, ∀ o ∈ signO xs s i, o.sign = i := by
    intro i o ho
    rw [signO] at ho
    split at ho
    · split at ho
      · obtain ⟨a, _, rfl⟩ := List.mem_map.1 ho; rfl
      · split at ho
        · rw [List.mem_singleton] at ho; rw [ho]
        · cases ho
    · cases ho
   rw [List.Nodup, List.pairwise_flatMap]
   refine ⟨fun i _ => ?_, List.nodup_range.imp fun {a b} hab x hx y hy he => ?_⟩
   · rw [signO]
     split
     · split
       · rw [List.pairwise_map]
         exact (subsD_nodup _).imp fun {a b} hab he => hab (Opt.mk.inj he).2.2.1
       · split
         · exact List.pairwise_singleton _ _
         · exact .nil
     · exact .nil
   · apply hab
     rw [← hsg a x hx, ← hsg b y hy, he]
 · rintro x hx y hy rfl
   obtain ⟨a, _, ha⟩ := List.mem_flatMap.1 hx
   obtain ⟨i, _, hi⟩ := List.mem_flatMap.1 hy
   have h1 : x.kind = 1 ∨ x.kind = 3 ∨ x.kind = 4 := by
    simp only [threeO, List.mem_cons, List.not_mem_nil, or_false] at ha
    rcases ha with rfl | rfl | rfl <;> simp
   have h2 : x.kind = 2 ∨ x.kind = 5 := by
    rw [signO] at hi
    split at hi
    · split at hi
      · obtain ⟨a, _, rfl⟩ := List.mem_map.1 hi; exact .inl rfl
      · split at hi
        · rw [List.mem_singleton] at hi; rw [hi]; exact .inr rfl
        · cases hi
    · cases hi
   omega
theorem cellI_eq {xs : List PSymbol} {s : Nat} (hs : s < 2 ^ xs.length) (h1 : s ≠ 2 ^ s.log2) : (optsI xs s).foldl (stepI xs (cellAt xs)) cell0 = cellAt xs s := by
 have h := cellOf_foldI xs (cellAt xs) (optsI xs s) [] cell0 (cellOf_nil xs _) (fun p hp q hq => lexO_total ((mem_optsI hs).1 hp) ((mem_optsI hs).1 hq))
 rw [List.nil_append] at h
 refine cellOf_same xs _ h (cellAt_of xs hs h1) ((List.perm_ext_iff_of_nodup (optsI_nodup xs s) (optsF_nodup xs s)).2 fun o => ?_)
 rw [mem_optsI hs, mem_optsF xs hs]
theorem sub_pred : ∀ (a m r : Nat), a &&& r = a → m &&& r = m → m < a → m ≤ (a - 1) &&& r := by
 intro a
 induction a using Nat.strongRecOn with
 | _ a ih =>
 intro m r ha hm hlt
 have ha2 : a / 2 &&& r / 2 = a / 2 := by rw [← Nat.and_div_two, ha]
 have hm2 : m / 2 &&& r / 2 = m / 2 := by rw [← Nat.and_div_two, hm]
 have hx := Nat.and_div_two (a := a - 1) (b := r)
 rcases Nat.mod_two_eq_zero_or_one a with h0 | h0
 · have e : (a - 1) / 2 = a / 2 - 1 := by omega
   rw [e] at hx
   have hmod : ((a - 1) &&& r) % 2 = r % 2 := by
    have t : ((a - 1) &&& r).testBit 0 = r.testBit 0 := by
     rw [Nat.testBit_and]
     have : (a - 1).testBit 0 = true := by rw [Nat.testBit_zero, decide_eq_true_iff]; omega
     rw [this, Bool.true_and]
    rw [Nat.testBit_zero, Nat.testBit_zero, decide_eq_decide] at t
    omega
   have hmr : m % 2 ≤ r % 2 := by
    have t := congrArg (fun x => x.testBit 0) hm
    simp only [Nat.testBit_and] at t
    rw [Nat.testBit_zero, Nat.testBit_zero] at t
    rcases Nat.mod_two_eq_zero_or_one m with h | h
    · omega
    · rcases Nat.mod_two_eq_zero_or_one r with h' | h'
      · rw [h, h'] at t; simp at t
      · omega
   by_cases hml : m / 2 < a / 2
   · have := ih (a / 2) (by omega) (m / 2) (r / 2) ha2 hm2 hml
     omega
   · omega
 · have e : (a - 1) / 2 = a / 2 := by omega
   rw [e, ha2] at hx
   omega
def downF (r a : Nat) : List Nat := ((subs r).filter fun m => decide (m < a)).reverse
theorem down_step {r a : Nat} (ha : a &&& r = a) : downF r a = if (a - 1) &&& r = 0 then [] else ((a - 1) &&& r) :: downF r ((a - 1) &&& r) := by
 have hx : ((a - 1) &&& r) &&& r = (a - 1) &&& r := by rw [Nat.and_assoc, Nat.and_self]
 have hle : (a - 1) &&& r ≤ a - 1 := Nat.and_le_left
 have har : a ≤ r := by rw [← ha]; exact Nat.and_le_right
 have hmem : ∀ m, m ∈ subs r → (m < a ↔ m ≤ (a - 1) &&& r) := by
  intro m hm
  rw [mem_subs, ← sub_iff] at hm
  exact ⟨fun h => sub_pred a m r ha hm.2.2 h, fun h => by omega⟩
 generalize hd : (a - 1) &&& r = d at *
 by_cases hz : d = 0
 · rw [if_pos hz, downF, List.reverse_eq_nil_iff, List.filter_eq_nil_iff]
   intro m hm
   rw [decide_eq_true_iff, hmem m hm]
   rw [mem_subs] at hm
   omega
 · rw [if_neg hz, downF, downF]
   have hds : d ∈ subs r := by rw [mem_subs, ← sub_iff]; exact ⟨hz, by omega, hx⟩
   have e1 : (subs r).filter (fun m => decide (m < a)) = (subs r).filter (fun m => decide (m < d)) ++ [d] := by
    have key : ∀ l : List Nat, l.Pairwise (· < ·) → d ∈ l → (∀ m ∈ l, (m < a ↔ m ≤ d)) → l.filter (fun m => decide (m < a)) = l.filter (fun m => decide (m < d)) ++ [d] := by
     intro l
     induction l with
     | nil => intro _ h; cases h
     | cons x l ih =>
       intro hp hin hm
       rw [List.pairwise_cons] at hp
       have hmx := hm x (List.mem_cons_self ..)
       by_cases hxd : x = d
       · subst hxd
         have hr1 : l.filter (fun m => decide (m < a)) = [] := List.filter_eq_nil_iff.2 fun m hm' => by
          rw [decide_eq_true_iff, hm m (List.mem_cons_of_mem _ hm')]; have := hp.1 m hm'; omega
         have hr2 : l.filter (fun m => decide (m < x)) = [] := List.filter_eq_nil_iff.2 fun m hm' => by
          rw [decide_eq_true_iff]; have := hp.1 m hm'; omega
         rw [List.filter_cons_of_pos (by rw [decide_eq_true_iff]; omega), List.filter_cons_of_neg (by simp), hr1, hr2]; rfl
       · have hin' : d ∈ l := by
          rcases List.mem_cons.1 hin with h | h
          · exact absurd h.symm hxd
          · exact h
         have hlt := hp.1 d hin'
         rw [List.filter_cons_of_pos (by rw [decide_eq_true_iff]; omega), List.filter_cons_of_pos (by rw [decide_eq_true_iff]; omega), ih hp.2 hin' (fun m hm' => hm m (List.mem_cons_of_mem _ hm'))]; rfl
    exact key (subs r) (subs_lt r) hds hmem
   rw [e1, List.reverse_append]; rfl
theorem down_all (r : Nat) : downF r r = subsD r := by
 rw [downF, subsD]
 congr 1
 rw [List.filter_eq_self]
 intro m hm
 rw [decide_eq_true_iff]
 rw [mem_subs] at hm
 exact bits_lt hm.2.2 hm.2.1
theorem depth_syms {xs : List PSymbol} {ns : List PNode} : ∀ (k lo : Nat), loAt ns k = some lo → (∀ j, lo ≤ j → j ≤ k → goodAt xs ns j = true) → 1 ≤ depthAt ns k ∧ depthAt ns k ≤ ((symsF ns lo (k + 1)).length : Int) := by
 intro k
 induction k using Nat.strongRecOn with
 | _ k ih =>
 intro lo hl hg
 have hlk := loAt_lt ns hl
 rw [loAt_eq] at hl
 have hsy := symsF_succ ns hlk
 unfold loNode at hl
 by_cases h0 : (nodeAt ns k).kind = 0
 · rw [depth_leaf h0, hsy, List.length_append, symOf, if_pos h0, List.length_singleton]
   exact ⟨by decide, by push_cast; omega⟩
 · rw [if_neg h0] at hl
   by_cases h5 : (nodeAt ns k).kind = 5
   · rw [if_pos h5] at hl
     split at hl
     · rename_i ha
       obtain ⟨j, hj⟩ := nat_of ha.1
       have hjk : j + 1 = k := by omega
       subst hjk
       rw [losF_get ns (by omega), Nat.add_sub_cancel] at hl
       have := ih j (by omega) lo hl (fun i h1 h2 => hg i h1 (by omega))
       rw [depth_root h5 hj (by omega), hsy, List.length_append, symOf, if_neg h0, h5, if_pos (show signed 5 = true by decide), List.length_singleton]
       push_cast; omega
     · cases hl
   · rw [if_neg h5] at hl
     split at hl
     · rename_i hb
       obtain ⟨j, hj⟩ := nat_of hb.1
       have hjk : j + 1 = k := by omega
       subst hjk
       rw [losF_get ns (by omega), Nat.add_sub_cancel] at hl
       cases e : loAt ns j with
       | none => rw [e] at hl; cases hl
       | some m =>
         rw [e] at hl
         dsimp only at hl
         have hm := loAt_lt ns e
         split at hl
         · rename_i ha
           obtain ⟨i, hi⟩ := nat_of ha.1
           have him : i + 1 = m := by omega
           subst him
           rw [losF_get ns (by omega), Nat.add_sub_cancel] at hl
           have hli := loAt_lt ns hl
           have sp := symsF_split ns (show lo ≤ i + 1 by omega) (show i + 1 ≤ j + 1 by omega)
           have d1 := ih j (by omega) (i + 1) e (fun q h1 h2 => hg q (by omega) (by omega))
           have d2 := ih i (by omega) lo hl (fun q h1 h2 => hg q h1 (by omega))
           rw [depth_both h0 h5 hi hj (by omega) (by omega), hsy, sp, List.length_append, List.length_append]
           push_cast
           omega
         · cases hl
     · cases hl
theorem tree_says {xs : List PSymbol} {ns : List PNode} (h : treeB xs ns = true) : (symsF ns 0 ns.length).length = xs.length ∧ boxAt xs ns (ns.length - 1) = joinN ((List.range xs.length).map (sbox xs)) ∧ 1 ≤ depthAt ns (ns.length - 1) ∧ depthAt ns (ns.length - 1) ≤ (xs.length : Int) := by
 obtain ⟨T, t1, t2, t3, t4, t5, t6⟩ := tree_abs h
 have hlen : (symsF ns 0 ns.length).length = xs.length := by rw [← t6.length_eq, List.length_map, AT.all_len t2]
 have hs := tree_some h
 have hg := fun k hk => tree_good h (k := k) hk
 have hl : loAt ns (ns.length - 1) = some 0 := by
  unfold treeB at h
  simp only [Bool.and_eq_true, decide_eq_true_eq] at h
  exact h.2.2.1
 have hd := depth_syms (xs := xs) (ns.length - 1) 0 hl (fun j _ hj => hg j (by omega))
 rw [show ns.length - 1 + 1 = ns.length by omega, hlen] at hd
 refine ⟨hlen, ?_, hd⟩
 rw [← t4, T.bx_join]
 refine joinN_perm (List.Perm.map _ ((List.perm_ext_iff_of_nodup t2.1 List.nodup_range).2 fun i => ?_))
 rw [t2.2, List.mem_range]
end Go.Proofs.Ytmopioaojdlnkaa
