/- ExprText of the program and of the reference, and the walk of the law FnExactExprText (one text: a claim holds at most sixty). Conditions: none. -/
import Derived.Test.YtkickllohilciaaTreeP
import Derived.Test.YtkickllohilciaaRd7
import Derived.Test.YtkickllohilciaaTreeOpens
import Derived.Deep.RegionHeld3
namespace Go.Proofs.Ytkickllohilciaa
open Go Go.RowKit

def parB (a : ByteArray) : ByteArray := ⟨#[40]⟩ ++ a ++ ⟨#[41]⟩
theorem tx_par (x : ByteArray) : (⟨#[41]⟩ : ByteArray) ++ ((⟨#[47, 40]⟩ : ByteArray) ++ x) = (⟨#[41, 47, 40]⟩ : ByteArray) ++ x := by
  rw [← ByteArray.append_assoc]; rfl
/-- The text of a node with two parts, or of a root. -/
def textOf (kind ka : Int) (a b : ByteArray) : ByteArray :=
  if kind = 1 then a ++ b
  else if kind = 2 then ⟨#[40]⟩ ++ a ++ ⟨#[41, 47, 40]⟩ ++ b ++ ⟨#[41]⟩
  else if kind = 3 then (if ka = 0 then a else parB a) ++ ⟨#[94, 40]⟩ ++ b ++ ⟨#[41]⟩
  else if kind = 4 then (if ka = 0 then a else parB a) ++ ⟨#[95, 40]⟩ ++ b ++ ⟨#[41]⟩
  else ⟨#[82, 40]⟩ ++ a ++ ⟨#[41]⟩
def textNode (xs : List PSymbol) (ns : List PNode) (ts : List ByteArray) (n : PNode) : ByteArray :=
  if n.kind = 0 then (symAt xs n.a).label else textOf n.kind (nodeAt ns n.a.toNat).kind (ts.getD n.a.toNat .empty) (ts.getD n.b.toNat .empty)
def textsF (xs : List PSymbol) (ns : List PNode) : Nat → List ByteArray
  | 0 => []
  | k + 1 => textsF xs ns k ++ [textNode xs ns (textsF xs ns k) (nodeAt ns k)]
theorem textsF_len (xs : List PSymbol) (ns : List PNode) : ∀ k, (textsF xs ns k).length = k
  | 0 => rfl
  | k + 1 => by simp [textsF, textsF_len xs ns k]
def textAt (xs : List PSymbol) (ns : List PNode) (k : Nat) : ByteArray := textNode xs ns (textsF xs ns k) (nodeAt ns k)
theorem textsF_get (xs : List PSymbol) (ns : List PNode) : ∀ {m k : Nat}, k < m → (textsF xs ns m)[k]? = some (textAt xs ns k)
  | 0, k, h => by omega
  | m + 1, k, h => by
    by_cases e : k = m
    · subst e
      rw [textsF, List.getElem?_append_right (by rw [textsF_len]; omega), textsF_len]
      simp [textAt]
    · have h1 := textsF_get xs ns (m := m) (k := k) (by omega)
      rw [← h1, textsF, List.getElem?_append_left (by rw [textsF_len]; omega)]
theorem text_leaf {xs : List PSymbol} {ns : List PNode} {k : Nat} (h : (nodeAt ns k).kind = 0) : textAt xs ns k = (symAt xs (nodeAt ns k).a).label := by
  unfold textAt textNode; rw [if_pos h]
theorem text_both {xs : List PSymbol} {ns : List PNode} {k a b : Nat} (h0 : (nodeAt ns k).kind ≠ 0) (ha : (nodeAt ns k).a = (a : Int)) (hb : (nodeAt ns k).b = (b : Int)) (hk : a < k) (hk2 : b < k) : textAt xs ns k = textOf (nodeAt ns k).kind (nodeAt ns a).kind (textAt xs ns a) (textAt xs ns b) := by
  unfold textAt textNode
  rw [if_neg h0, ha, hb, Int.toNat_natCast, Int.toNat_natCast, getD_some (textsF_get xs ns (m := k) hk), getD_some (textsF_get xs ns (m := k) hk2)]
  rfl
theorem textOf_size (kind ka : Int) (a b : ByteArray) : (textOf kind ka a b).size ≤ a.size + b.size + 5 := by
  unfold textOf parB
  have e1 : (ByteArray.mk #[40]).size = 1 := rfl
  have e2 : (ByteArray.mk #[41]).size = 1 := rfl
  have e3 : (ByteArray.mk #[41, 47, 40]).size = 3 := rfl
  have e4 : (ByteArray.mk #[94, 40]).size = 2 := rfl
  have e5 : (ByteArray.mk #[95, 40]).size = 2 := rfl
  have e6 : (ByteArray.mk #[82, 40]).size = 2 := rfl
  repeat' split
  all_goals simp only [ByteArray.size_append]; omega
theorem textAt_le {xs : List PSymbol} {ns : List PNode} (hsz : ∀ c ∈ xs, c.label.size ≤ 1048576) (h : treeB xs ns = true) : ∀ k, k < ns.length → (textAt xs ns k).size + 8 ≤ 2 ^ k * 1048584 := by
  intro k
  induction k using Nat.strongRecOn with
  | _ k ih =>
    intro hk
    have hpos : 1 ≤ 2 ^ k := Nat.one_le_two_pow
    rcases tree_parts h hk with h0 | ⟨h1, ha, hb, h5⟩
    · rw [text_leaf h0]
      have : (symAt xs (nodeAt ns k).a).label.size ≤ 1048576 := by
        unfold symAt
        rw [List.getD_eq_getElem?_getD]
        cases e : xs[(nodeAt ns k).a.toNat]? with
        | none => simp
        | some c => exact hsz c (List.mem_of_getElem? e)
      have h2 := Nat.mul_le_mul_right 1048584 hpos
      omega
    · obtain ⟨j, rfl⟩ : ∃ j, k = j + 1 := ⟨k - 1, by omega⟩
      have hb' : 0 ≤ (nodeAt ns (j + 1)).b ∧ (nodeAt ns (j + 1)).b < ((j + 1 : Nat) : Int) := by
        by_cases e : (nodeAt ns (j + 1)).kind = 5
        · rw [h5 e]; omega
        · exact hb e
      obtain ⟨a, hea⟩ : ∃ a : Nat, (nodeAt ns (j + 1)).a = (a : Int) := ⟨(nodeAt ns (j + 1)).a.toNat, by omega⟩
      obtain ⟨b, heb⟩ : ∃ b : Nat, (nodeAt ns (j + 1)).b = (b : Int) := ⟨(nodeAt ns (j + 1)).b.toNat, by omega⟩
      rw [text_both (by omega) hea heb (by omega) (by omega)]
      have A := ih a (by omega) (by omega)
      have B := ih b (by omega) (by omega)
      have pa : 2 ^ a ≤ 2 ^ j := Nat.pow_le_pow_right (by omega) (by omega)
      have pb : 2 ^ b ≤ 2 ^ j := Nat.pow_le_pow_right (by omega) (by omega)
      have s := textOf_size (nodeAt ns (j + 1)).kind (nodeAt ns a).kind (textAt xs ns a) (textAt xs ns b)
      have p : 2 ^ (j + 1) = 2 ^ j * 2 := Nat.pow_succ ..
      rw [p]
      generalize 2 ^ j = J at *
      generalize 2 ^ a = X at *
      generalize 2 ^ b = Y at *
      omega
theorem textAt_size {xs : List PSymbol} {ns : List PNode} (hsz : ∀ c ∈ xs, c.label.size ≤ 1048576) (h : treeB xs ns = true) {k : Nat} (hk : k < ns.length) : (textAt xs ns k).size ≤ 40000000000 := by
  have h1 := textAt_le hsz h k hk
  have h2 := tree_few h
  have p : 2 ^ k ≤ 2 ^ 15 := Nat.pow_le_pow_right (by omega) (by omega)
  have p2 : (2 : Nat) ^ 15 = 32768 := rfl
  rw [p2] at p
  generalize 2 ^ k = J at *
  omega
/-- The text that is told. -/
def textR (xs : List PSymbol) (ns : List PNode) : ByteArray := if askF xs ns = 0 then textAt xs ns (ns.length - 1) else .empty
set_option maxRecDepth 100000 in
set_option maxHeartbeats 4000000 in
theorem impl_ExprText_c {e et : TypeId} {o ot : Bool} {xs : List PSymbol} {ns : List PNode} {vl vt : Value} {Fl Ft : List Nat} (w : World) (h : (pSymbols e).rep o w xs [vl] Fl) (ht : (pNodes et).rep ot w ns [vt] Ft) (hx : xs.length ≤ 1048576) (hsz : ∀ c ∈ xs, c.label.size ≤ 1048576) :
    Calls Try.prog 22 #[vl, .agg #[vt]] w fun en w' => en = .returned (.tuple #[.string (textR xs ns), .int .i64 (askF xs ns)]) ∧ Below w.heap.size w w' := by
  have CK := Lib.hid (fun w' q q' => impl_checked_c (e := e) (et := et) (o := o) (ot := ot) (xs := xs) (ns := ns) (vl := vl) (vt := vt) (Fl := Fl) (Ft := Ft) w' q q' hx hsz)
  have H := Lib.hid h
  have HT := Lib.hid ht
  obtain ⟨A, c, rfl, hc1, hc2, hs⟩ := pSymbols_open h
  obtain ⟨B, d, rfl, hd1, hd2, hr⟩ := pNodes_open ht
  clear h ht
  have R := Row.new w 33 #[.slice B ns.length d]
  have t0 := R.cell' (i := 0) rfl
  go_enter Try.func22, Try.ntmps22
  go_wp2_with fail
  refine (CK.out _ (H.out.alloc _) (HT.out.alloc _)).mono ?_
  rintro en w1 ⟨b1, p, rfl, hp⟩
  have b0 : Below w.heap.size w w1 := ((Below.refl _ _).alloc (Nat.le_refl _) _).trans (b1.mono (by simp))
  clear hp
  by_cases h0 : askF xs ns = 0
  · have HC : Hid (textR xs ns = textAt xs ns (ns.length - 1)) := by show _ = _; rw [textR, if_pos h0]
    have HA := Lib.hid h0
    have htr := (ask_zero h0).2
    have hn1 := tree_some htr
    have hn2 := tree_few htr
    have HTR := Lib.hid htr
    have HSZ := Lib.hid hsz
    rw [h0]
    clear t0
    replace R := R.later b1
    have t0 := R.cell' (i := 0) rfl
    have lR := R.lt
    have hmk := make_run (P := Try.prog) (t := 86) (e := 9) (z := .string .empty) (size := 1) (bytes := 16) Try.underlying86 (by kernel_rfl) ns.length (ns.length : Int) rfl (by omega) (by unfold maxLen; omega)
    simp only [show (Value.string .empty).cells = #[.string .empty] from rfl] at hmk
    clear h0 htr hsz
    go_wp2_with fail
    go_loopw [30] (fun i wr => ∃ (k : Nat) (ds : List ByteArray), k ≤ ns.length ∧ i = .int .i64 k ∧ ds.length = ns.length ∧ Hid (∀ j, j < k → ds[j]? = some (textAt xs ns j)) ∧ Row wr w1.heap.size 9 (ds.map .string) ∧ Below w1.heap.size w1 wr) (fun i _ => ns.length - (intOf i).toNat)
    case atStart =>
      have R2 := Row.new w1 9 (madeCells #[.string .empty] (ns.length * 1))
      rw [Nat.mul_one, toList_madeCells_one] at R2
      refine ⟨0, List.replicate ns.length .empty, Nat.zero_le _, rfl, by simp, Lib.hid (fun j hj => by omega), ?_, (Below.refl _ _).alloc (Nat.le_refl _) _⟩
      rw [List.map_replicate]
      exact R2
    case round =>
      obtain ⟨k, ds, hk, rfl, hdl, hds, RD, hb⟩ := hrel
      have hbs := hb.size
      have hb2 := b0.trans (hb.mono b0.size)
      by_cases hlt : k < ns.length
      · obtain ⟨b, off, rfl, hbb, _, q0, q1, q2, q3, _⟩ := hr k hlt
        rw [← hb2.cell (p := ⟨b, _, none⟩) hbb] at q0 q1 q2 q3
        have hnd : nodeAt ns k = ns[k] := nodeAt_get hlt
        have hparts := tree_parts HTR.out hlt
        have hsyms := fun s hs => tree_syms HTR.out s (sym_mem hlt (s := s) hs)
        have hD := fun j (hj : j < ns.length) => textAt_size HSZ.out HTR.out hj
        have dl := fun (h : (nodeAt ns k).kind = 0) => text_leaf (xs := xs) h
        have db := fun (a b : Nat) (h : (nodeAt ns k).kind ≠ 0) (ha : (nodeAt ns k).a = (a : Int)) (hb : (nodeAt ns k).b = (b : Int)) (hk : a < k) (hk2 : b < k) => text_both (xs := xs) h ha hb hk hk2
        rw [hnd] at hparts dl db hsyms
        obtain ⟨⟨kd, za, zb, zs⟩, hnk⟩ : ∃ n, ns[k] = n := ⟨_, rfl⟩
        rw [hnk] at q0 q1 q2 q3 hparts dl db hsyms
        dsimp only at q0 q1 q2 q3 hparts dl db
        have i1 : (k : Int) < (ns.length : Int) := by omega
        have i2 : IntKind.i64.wrap ((k : Int) + 1) = (k : Int) + 1 := IntWalk.i64_in _ (by omega)
        have i3 : (0 : Int) ≤ (k : Int) := by omega
        have RDa := RD.alloc (.cells #[.int .i64 kd, .int .i64 za, .int .i64 zb, .int .i64 zs] 84)
        have RN := Row.new wr 84 #[.int .i64 kd, .int .i64 za, .int .i64 zb, .int .i64 zs]
        have hba : Below w1.heap.size w1 (wr.alloc (.cells #[.int .i64 kd, .int .i64 za, .int .i64 zb, .int .i64 zs] 84)) := hb.alloc hbs _
        have hgn : w1.heap.size < wr.heap.size := RD.lt
        have step : ∀ (v : ByteArray) (wz : World), textAt xs ns k = v → Row wz w1.heap.size 9 (ds.map .string) → Below w1.heap.size w1 wz → ∃ (k' : Nat) (ds' : List ByteArray), k' ≤ ns.length ∧ Value.int .i64 ((k : Int) + 1) = .int .i64 k' ∧ ds'.length = ns.length ∧ Hid (∀ j, j < k' → ds'[j]? = some (textAt xs ns j)) ∧ Row (wz.setCell ⟨w1.heap.size, k, none⟩ (.string v)) w1.heap.size 9 (ds'.map .string) ∧ Below w1.heap.size w1 (wz.setCell ⟨w1.heap.size, k, none⟩ (.string v)) := by
          intro v wz hv hrow hbz
          refine ⟨k + 1, ds.set k v, by omega, by go_num, by simpa using hdl, Lib.hid (fun j hj => ?_), ?_, hbz.setCell (Nat.le_refl _) _⟩
          · by_cases ej : j = k
            · subst ej; rw [List.getElem?_set_self (by omega), hv]
            · rw [List.getElem?_set_ne (Ne.symm ej)]; exact hds.out j (by omega)
          · have := hrow.set k (.string v)
            rwa [← List.map_set] at this
        have STEP := Lib.hid step
        have DC : Hid (∀ (j : Nat), j < k → ∀ wz, Row wz w1.heap.size 9 (ds.map .string) → wz.cell? ⟨w1.heap.size, j, none⟩ = some (.string (textAt xs ns j))) := fun j hj wz hrow => hrow.cell' (by rw [List.getElem?_map, hds.out j hj]; rfl)
        have KC : Hid (∀ wz, Row wz w1.heap.size 9 (ds.map .string) → wz.cell? ⟨w1.heap.size, k, none⟩ = some (.string ds[k])) := fun wz hrow => hrow.cell' (by rw [List.getElem?_map, List.getElem?_eq_getElem]; rfl)
        have HB2 := Lib.hid hb2
        have HRN := Lib.hid hr
        have HRS := Lib.hid hs
        have tA : (wr.alloc (.cells #[.int .i64 kd, .int .i64 za, .int .i64 zb, .int .i64 zs] 84)).cell? ⟨w.heap.size, 0, none⟩ = some (.slice (some ⟨b, off, none⟩) ns.length d) := (World.cell?_alloc_past _ _ _ (by have := hbs; have := b1.size; simp at *; omega)).trans ((hb.cell (p := ⟨w.heap.size, 0, none⟩) lR).trans t0)
        have hbw : Below w.heap.size w (wr.alloc (.cells #[.int .i64 kd, .int .i64 za, .int .i64 zb, .int .i64 zs] 84)) := hb2.alloc (Nat.le_trans b0.size hbs) _
        clear step hds hb hb2 hr hs hnd hnk RD t0 R b0 HT H CK lR
        go_upto_region 8 with fail
        generalize wr.alloc (.cells #[.int .i64 kd, .int .i64 za, .int .i64 zb, .int .i64 zs] 84) = wa at RDa RN hba tA hbw ⊢
        have n0 := RN.cell' (i := 0) rfl
        have n1 := RN.cell' (i := 1) rfl
        have n2 := RN.cell' (i := 2) rfl
        have kc := KC.out wa RDa
        have fd := RDa.frozen
        by_cases h0 : kd = 0
        · subst h0
          have HD := Lib.hid (dl rfl)
          have hin := hsyms za (by simp [symOf])
          obtain ⟨a, rfl⟩ : ∃ a : Nat, za = (a : Int) := ⟨za.toNat, by omega⟩
          have hax : a < xs.length := by omega
          have a0 : (0 : Int) ≤ (a : Int) := by omega
          have a1 : (a : Int) < (xs.length : Int) := by omega
          obtain ⟨bs, os, rfl, hbs2, _, s0, _⟩ := HRS.out a hax
          rw [← hbw.cell (p := ⟨bs, _, none⟩) hbs2] at s0
          have HS := Lib.hid (symAt_at hax)
          clear dl db hparts hD hsyms hin
          go_wp2_with fail
          go_roundw
          case rel => exact STEP.out _ wa (HD.out.trans (by rw [HS.out])) RDa hba
          case measure => simp [intOf]; omega
        · rcases hparts with hz | ⟨⟨hk1, hk2⟩, ha, hb, hb5⟩
          · exact absurd hz h0
          have hb' : 0 ≤ zb ∧ zb < (k : Int) := by
            by_cases e : kd = 5
            · rw [hb5 e]; omega
            · exact hb e
          obtain ⟨a, rfl⟩ : ∃ a : Nat, za = (a : Int) := ⟨za.toNat, by omega⟩
          obtain ⟨b', rfl⟩ : ∃ b : Nat, zb = (b : Int) := ⟨zb.toNat, by omega⟩
          have hak : a < k := by omega
          have hbk : b' < k := by omega
          have ca := DC.out a hak wa RDa
          have cb := DC.out b' hbk wa RDa
          have hDa := hD a (by omega)
          have hDb := hD b' (by omega)
          have a0 : (0 : Int) ≤ (a : Int) := by omega
          have a1 : (a : Int) < (ns.length : Int) := by omega
          have b0' : (0 : Int) ≤ (b' : Int) := by omega
          have b1' : (b' : Int) < (ns.length : Int) := by omega
          have g0 : (kd == 0) = false := by simp [h0]
          have HD := db a b' h0 rfl rfl hak hbk
          obtain ⟨ba, oa, hab, hba2, _, u0, _⟩ := HRN.out a (by omega)
          injection hab with hab
          injection hab with e1 e2 _
          subst e1 e2
          rw [← hbw.cell (p := ⟨_, _, none⟩) hba2] at u0
          rw [nodeAt_get (show a < ns.length by omega)] at HD
          generalize (ns[a]).kind = ka at HD u0
          generalize textAt xs ns a = ta at HD ca hDa
          generalize textAt xs ns b' = tb at HD cb hDb
          clear dl db hb hb5 hb' hD hsyms HRS HRN
          go_upto_region 10 with fail
          go_quiet (fail)
          cases hka : decide (ka = 0) with
          | true =>
            rw [decide_eq_true_iff] at hka
            subst hka
            obtain hk5 | hk5 | hk5 | hk5 | hk5 : kd = 1 ∨ kd = 2 ∨ kd = 3 ∨ kd = 4 ∨ kd = 5 := by omega
            · subst hk5
              have HT := Lib.hid HD
              clear HD hk1 hk2 h0
              go_wp2_with fail
              go_roundw
              case rel => refine STEP.out _ _ ?_ (RDa.drewN _) (below_drewN hba _); rw [HT.out]; simp [textOf, parB, ByteArray.append_assoc, tx_par]
              case measure => simp [intOf]; omega
            · subst hk5
              have HT := Lib.hid HD
              clear HD hk1 hk2 h0
              go_wp2_with fail
              go_roundw
              case rel => refine STEP.out _ _ ?_ (RDa.drewN _) (below_drewN hba _); rw [HT.out]; simp [textOf, parB, ByteArray.append_assoc, tx_par]
              case measure => simp [intOf]; omega
            · subst hk5
              have HT := Lib.hid HD
              clear HD hk1 hk2 h0
              go_wp2_with fail
              go_roundw
              case rel => refine STEP.out _ _ ?_ (RDa.drewN _) (below_drewN hba _); rw [HT.out]; simp [textOf, parB, ByteArray.append_assoc, tx_par]
              case measure => simp [intOf]; omega
            · subst hk5
              have HT := Lib.hid HD
              clear HD hk1 hk2 h0
              go_wp2_with fail
              go_roundw
              case rel => refine STEP.out _ _ ?_ (RDa.drewN _) (below_drewN hba _); rw [HT.out]; simp [textOf, parB, ByteArray.append_assoc, tx_par]
              case measure => simp [intOf]; omega
            · subst hk5
              have HT := Lib.hid HD
              clear HD hk1 hk2 h0
              go_wp2_with fail
              go_roundw
              case rel => refine STEP.out _ _ ?_ (RDa.drewN _) (below_drewN hba _); rw [HT.out]; simp [textOf, parB, ByteArray.append_assoc, tx_par]
              case measure => simp [intOf]; omega
          | false =>
            rw [decide_eq_false_iff_not] at hka
            have gk : (ka != 0) = true := by simp [hka]
            have HKA := Lib.hid hka
            obtain hk5 | hk5 | hk5 | hk5 | hk5 : kd = 1 ∨ kd = 2 ∨ kd = 3 ∨ kd = 4 ∨ kd = 5 := by omega
            · subst hk5
              have HT := Lib.hid HD
              clear HD hk1 hk2 h0 hka
              go_wp2_with fail
              go_roundw
              case rel => refine STEP.out _ _ ?_ (RDa.drewN _) (below_drewN hba _); rw [HT.out]; simp [textOf, parB, HKA.out, ByteArray.append_assoc, tx_par]
              case measure => simp [intOf]; omega
            · subst hk5
              have HT := Lib.hid HD
              clear HD hk1 hk2 h0 hka
              go_wp2_with fail
              go_roundw
              case rel => refine STEP.out _ _ ?_ (RDa.drewN _) (below_drewN hba _); rw [HT.out]; simp [textOf, parB, HKA.out, ByteArray.append_assoc, tx_par]
              case measure => simp [intOf]; omega
            · subst hk5
              have HT := Lib.hid HD
              clear HD hk1 hk2 h0 hka
              go_wp2_with fail
              go_roundw
              case rel => refine STEP.out _ _ ?_ (RDa.drewN _) (below_drewN hba _); rw [HT.out]; simp [textOf, parB, HKA.out, ByteArray.append_assoc, tx_par]
              case measure => simp [intOf]; omega
            · subst hk5
              have HT := Lib.hid HD
              clear HD hk1 hk2 h0 hka
              go_wp2_with fail
              go_roundw
              case rel => refine STEP.out _ _ ?_ (RDa.drewN _) (below_drewN hba _); rw [HT.out]; simp [textOf, parB, HKA.out, ByteArray.append_assoc, tx_par]
              case measure => simp [intOf]; omega
            · subst hk5
              have HT := Lib.hid HD
              clear HD hk1 hk2 h0 hka
              go_wp2_with fail
              go_roundw
              case rel => refine STEP.out _ _ ?_ (RDa.drewN _) (below_drewN hba _); rw [HT.out]; simp [textOf, parB, HKA.out, ByteArray.append_assoc, tx_par]
              case measure => simp [intOf]; omega
      · obtain rfl : k = ns.length := by omega
        have i1 : ¬ ((ns.length : Int) < (ns.length : Int)) := by omega
        have hl := RD.cell' (i := ns.length - 1) (u := .string (textAt xs ns (ns.length - 1))) (by rw [List.getElem?_map, hds.out (ns.length - 1) (by omega)]; rfl)
        have e1 : IntKind.i64.wrap ((ns.length : Int) - 1) = (ns.length : Int) - 1 := IntWalk.i64_in _ (by omega)
        have e2 : ((ns.length : Int) - 1).toNat = ns.length - 1 := by omega
        have e3 : (0 : Int) ≤ (ns.length : Int) - 1 := by omega
        have e4 : (ns.length : Int) - 1 < (ns.length : Int) := by omega
        clear hr hs hds RD hdl
        go_wp2_with fail
        refine bodyPost_ret (v := .tuple #[.string (textAt xs ns (ns.length - 1)), .int .i64 0]) (by simp [results, Try.results22, go_sem]) rfl ⟨by rw [HC.out, HA.out], hb2⟩
  · have HC : Hid (textR xs ns = .empty) := by show _ = _; rw [textR, if_neg h0]
    have g : (askF xs ns != 0) = true := by simp [h0]
    clear h0
    go_wp2_with fail
    refine bodyPost_ret (v := .tuple #[.string ⟨#[]⟩, .int .i64 (askF xs ns)]) (by simp [results, Try.results22, go_sem]) rfl ⟨by rw [HC.out]; rfl, b0⟩
set_option maxRecDepth 100000 in
set_option maxHeartbeats 4000000 in
theorem spec_l22Node_c {e et : TypeId} {o ot : Bool} {xs : List PSymbol} {ns : List PNode} {vl vn : Value} {Fl Fn : List Nat} {g : Nat} (hsz : ∀ c ∈ xs, c.label.size ≤ 1048576) (htr : treeB xs ns = true) : ∀ (k : Nat) (w : World), k < ns.length → (pSymbols e).rep o w xs [vl] Fl → (pNodes et).rep ot w ns [vn] Fn → Row w g 33 [vn] →
    Calls Try.prog 47 #[vl, .pointer (some ⟨g, 0, none⟩), .int .i64 (k : Int)] w fun en w' => en = .returned (.string (textAt xs ns k)) ∧ Below w.heap.size w w' := by
  intro k
  induction k using Nat.strongRecOn with
  | _ k ih =>
    intro w hlt h ht hg
    have hn2 := tree_few htr
    have hnd : nodeAt ns k = ns[k] := nodeAt_get hlt
    have hparts := tree_parts htr hlt
    have hsyms := fun s hs => tree_syms htr s (sym_mem hlt (s := s) hs)
    have hD := fun j (hj : j < ns.length) => textAt_size hsz htr hj
    have dl := fun (h : (nodeAt ns k).kind = 0) => text_leaf (xs := xs) h
    have db := fun (a b : Nat) (h : (nodeAt ns k).kind ≠ 0) (ha : (nodeAt ns k).a = (a : Int)) (hb : (nodeAt ns k).b = (b : Int)) (hk : a < k) (hk2 : b < k) => text_both (xs := xs) h ha hb hk hk2
    have IH := Lib.hid (fun (j : Nat) (hj : j < k) (w' : World) (b : Below w.heap.size w w') => ih j hj w' (by omega) (h.below b) (ht.below b) (hg.later b))
    obtain ⟨A, c, rfl, hc1, hc2, hs⟩ := pSymbols_open h
    obtain ⟨B, d, rfl, hd1, hd2, hr⟩ := pNodes_open ht
    obtain ⟨b, off, rfl, hbb, _, q0, q1, q2, q3, _⟩ := hr k hlt
    rw [hnd] at hparts dl db hsyms
    obtain ⟨⟨kd, za, zb, zs⟩, hnk⟩ : ∃ n, ns[k] = n := ⟨_, rfl⟩
    rw [hnk] at q0 q1 q2 q3 hparts dl db hsyms
    dsimp only at q0 q1 q2 q3 hparts dl db
    have i1 : (k : Int) < (ns.length : Int) := by omega
    have i3 : (0 : Int) ≤ (k : Int) := by omega
    have t0 := hg.cell' (i := 0) rfl
    have lg := hg.lt
    have RN := Row.new w 84 #[.int .i64 kd, .int .i64 za, .int .i64 zb, .int .i64 zs]
    have bA : Below w.heap.size w (w.alloc (.cells #[.int .i64 kd, .int .i64 za, .int .i64 zb, .int .i64 zs] 84)) := (Below.refl _ _).alloc (Nat.le_refl _) _
    have RG := hg.alloc (.cells #[.int .i64 kd, .int .i64 za, .int .i64 zb, .int .i64 zs] 84)
    clear ih h ht hnd hnk hg htr hsz
    go_enter Try.func47, Try.ntmps47
    go_upto_region 2 with fail
    clear q0 q1 q2 q3 t0
    generalize w.alloc (.cells #[.int .i64 kd, .int .i64 za, .int .i64 zb, .int .i64 zs] 84) = wa at RN bA RG ⊢
    have n0 := RN.cell' (i := 0) rfl
    have n1 := RN.cell' (i := 1) rfl
    have n2 := RN.cell' (i := 2) rfl
    by_cases h0 : kd = 0
    · subst h0
      have HD := Lib.hid (dl rfl)
      have hin := hsyms za (by simp [symOf])
      obtain ⟨a, rfl⟩ : ∃ a : Nat, za = (a : Int) := ⟨za.toNat, by omega⟩
      have hax : a < xs.length := by omega
      have a0 : (0 : Int) ≤ (a : Int) := by omega
      have a1 : (a : Int) < (xs.length : Int) := by omega
      obtain ⟨bs, os, rfl, hbs2, _, s0, _⟩ := hs a hax
      rw [← bA.cell (p := ⟨bs, _, none⟩) hbs2] at s0
      have HS := Lib.hid (symAt_at hax)
      clear dl db hparts hD hsyms hin hr hs
      go_wp2_with fail
      go_ret
      exact ⟨by rw [HD.out, HS.out]; rfl, bA⟩
    · rcases hparts with hz | ⟨⟨hk1, hk2⟩, ha, hb, hb5⟩
      · exact absurd hz h0
      have hb' : 0 ≤ zb ∧ zb < (k : Int) := by
        by_cases e : kd = 5
        · rw [hb5 e]; omega
        · exact hb e
      obtain ⟨a, rfl⟩ : ∃ a : Nat, za = (a : Int) := ⟨za.toNat, by omega⟩
      obtain ⟨b', rfl⟩ : ∃ b : Nat, zb = (b : Int) := ⟨zb.toNat, by omega⟩
      have hak : a < k := by omega
      have hbk : b' < k := by omega
      have hDa := hD a (by omega)
      have hDb := hD b' (by omega)
      have a0 : (0 : Int) ≤ (a : Int) := by omega
      have a1 : (a : Int) < (ns.length : Int) := by omega
      have g0 : (kd == 0) = false := by simp [h0]
      have HD := db a b' h0 rfl rfl hak hbk
      obtain ⟨ba, oa, hab, hba2, _, u0, _⟩ := hr a (by omega)
      injection hab with hab
      injection hab with e1 e2 _
      subst e1 e2
      rw [nodeAt_get (show a < ns.length by omega)] at HD
      have CA := Lib.hid (fun w' b => IH.out a hak w' b)
      have CB := Lib.hid (fun w' b => IH.out b' hbk w' b)
      generalize (ns[a]).kind = ka at HD u0
      generalize textAt xs ns a = ta at HD hDa CA
      generalize textAt xs ns b' = tb at HD hDb CB
      have HU := Lib.hid (fun (w' : World) (b : Below w.heap.size w w') => (b.cell (p := ⟨_, _, none⟩) hba2).trans u0)
      clear dl db hb hb5 hb' hD hsyms hs hr IH u0
      go_wp2_with fail
      refine (CA.out wa bA).mono ?_
      rintro en w1 ⟨rfl, b1⟩
      have b01 := bA.trans (b1.mono bA.size)
      clear n0 n1 n2
      replace RN := RN.later b1
      replace RG := RG.later b1
      have n0 := RN.cell' (i := 0) rfl
      have n2 := RN.cell' (i := 2) rfl
      by_cases h5 : kd = 5
      · subst h5
        have HT := Lib.hid HD
        clear HD hk1 hk2 h0
        go_wp2_with fail
        go_ret
        exact ⟨by rw [HT.out]; simp [textOf, ByteArray.append_assoc, tx_par], b01⟩
      have g5 : (kd == 5) = false := by simp [h5]
      go_wp2_with fail
      refine (CB.out w1 b01).mono ?_
      rintro en w2 ⟨rfl, b2⟩
      have b02 := b01.trans (b2.mono b01.size)
      clear n0 n2
      replace RN := RN.later b2
      replace RG := RG.later b2
      have n0 := RN.cell' (i := 0) rfl
      have n1 := RN.cell' (i := 1) rfl
      have t0 := RG.cell' (i := 0) rfl
      have u0 := HU.out w2 b02
      clear b1 b2 b01 CA CB HU
      cases hka : decide (ka = 0) with
      | true =>
        rw [decide_eq_true_iff] at hka
        subst hka
        obtain hk5 | hk5 | hk5 | hk5 : kd = 1 ∨ kd = 2 ∨ kd = 3 ∨ kd = 4 := by omega
        · subst hk5
          have HT := Lib.hid HD
          clear HD hk1 hk2 h0 h5
          go_wp2_with fail
          go_ret
          exact ⟨by rw [HT.out]; simp [textOf, parB, ByteArray.append_assoc, tx_par], b02⟩
        · subst hk5
          have HT := Lib.hid HD
          clear HD hk1 hk2 h0 h5
          go_wp2_with fail
          go_quiet (fail)
          go_wp2_with fail
          go_ret
          exact ⟨by rw [HT.out]; simp [textOf, parB, ByteArray.append_assoc, tx_par], below_drewN b02 _⟩
        · subst hk5
          have HT := Lib.hid HD
          clear HD hk1 hk2 h0 h5
          go_wp2_with fail
          go_quiet (fail)
          go_wp2_with fail
          go_ret
          exact ⟨by rw [HT.out]; simp [textOf, parB, ByteArray.append_assoc, tx_par], below_drewN b02 _⟩
        · subst hk5
          have HT := Lib.hid HD
          clear HD hk1 hk2 h0 h5
          go_wp2_with fail
          go_quiet (fail)
          go_wp2_with fail
          go_ret
          exact ⟨by rw [HT.out]; simp [textOf, parB, ByteArray.append_assoc, tx_par], below_drewN b02 _⟩
      | false =>
        rw [decide_eq_false_iff_not] at hka
        have gk : (ka != 0) = true := by simp [hka]
        have HKA := Lib.hid hka
        obtain hk5 | hk5 | hk5 | hk5 : kd = 1 ∨ kd = 2 ∨ kd = 3 ∨ kd = 4 := by omega
        · subst hk5
          have HT := Lib.hid HD
          clear HD hk1 hk2 h0 h5 hka
          go_wp2_with fail
          go_ret
          exact ⟨by rw [HT.out]; simp [textOf, parB, HKA.out, ByteArray.append_assoc, tx_par], b02⟩
        · subst hk5
          have HT := Lib.hid HD
          clear HD hk1 hk2 h0 h5 hka
          go_wp2_with fail
          go_quiet (fail)
          go_wp2_with fail
          go_ret
          exact ⟨by rw [HT.out]; simp [textOf, parB, HKA.out, ByteArray.append_assoc, tx_par], below_drewN b02 _⟩
        · subst hk5
          have HT := Lib.hid HD
          clear HD hk1 hk2 h0 h5 hka
          go_wp2_with fail
          go_quiet (fail)
          go_wp2_with fail
          go_ret
          exact ⟨by rw [HT.out]; simp [textOf, parB, HKA.out, ByteArray.append_assoc, tx_par], below_drewN b02 _⟩
        · subst hk5
          have HT := Lib.hid HD
          clear HD hk1 hk2 h0 h5 hka
          go_wp2_with fail
          go_quiet (fail)
          go_wp2_with fail
          go_ret
          exact ⟨by rw [HT.out]; simp [textOf, parB, HKA.out, ByteArray.append_assoc, tx_par], below_drewN b02 _⟩
set_option maxRecDepth 100000 in
set_option maxHeartbeats 1000000 in
theorem spec_ExprText_c {e et : TypeId} {o ot : Bool} {xs : List PSymbol} {ns : List PNode} {vl vt : Value} {Fl Ft : List Nat} (w : World) (h : (pSymbols e).rep o w xs [vl] Fl) (ht : (pNodes et).rep ot w ns [vt] Ft) (hx : xs.length ≤ 1048576) (hsz : ∀ c ∈ xs, c.label.size ≤ 1048576) :
    Calls Try.prog 21 #[vl, .agg #[vt]] w fun en w' => en = .returned (.tuple #[.string (textR xs ns), .int .i64 (askF xs ns)]) ∧ Below w.heap.size w w' := by
  have R := Row.new w 33 #[vt]
  have bA : Below w.heap.size w (w.alloc (.cells #[vt] 33)) := (Below.refl _ _).alloc (Nat.le_refl _) _
  have CR := Lib.hid (spec_l21Ask_c (w.alloc (.cells #[vt] 33)) (h.alloc _) (ht.alloc _) R hx hsz)
  have BA := Lib.hid bA
  have CN := Lib.hid (fun (htr : treeB xs ns = true) (w' : World) (b : Below (w.alloc (.cells #[vt] 33)).heap.size (w.alloc (.cells #[vt] 33)) w') => spec_l22Node_c (g := w.heap.size) hsz htr (ns.length - 1) w' (by have := tree_some htr; omega) (h.below (bA.trans (b.mono (by simp)))) (ht.below (bA.trans (b.mono (by simp)))) (R.later b))
  have HR := Lib.hid R
  obtain ⟨B, d, rfl⟩ := slice_len ht
  clear h ht R bA
  go_enter Try.func21, Try.ntmps21
  go_wp2_with fail
  refine CR.out.mono ?_
  rintro en w1 ⟨b1, p, rfl, hp⟩
  have b0 := Lib.hid (BA.out.trans (b1.mono (by simp)))
  clear hp
  by_cases h0 : askF xs ns = 0
  · have HC : Hid (textR xs ns = textAt xs ns (ns.length - 1)) := by show _ = _; rw [textR, if_pos h0]
    have HA := Lib.hid h0
    have htr := (ask_zero h0).2
    have hn1 := tree_some htr
    have hn2 := tree_few htr
    have CN' := Lib.hid (CN.out htr w1 b1)
    rw [h0]
    have t0 := (HR.out.later b1).cell' (i := 0) rfl
    have e1 : IntKind.i64.wrap ((ns.length : Int) - 1) = (ns.length : Int) - 1 := IntWalk.i64_in _ (by omega)
    have ek : ((ns.length - 1 : Nat) : Int) = (ns.length : Int) - 1 := by omega
    rw [ek] at CN'
    clear b1 h0 htr CN ek
    go_wp2_with fail
    refine CN'.out.mono ?_
    rintro en w2 ⟨rfl, b2⟩
    go_wp2_with fail
    refine bodyPost_ret (v := .tuple #[.string (textAt xs ns (ns.length - 1)), .int .i64 0]) (by simp [results, Try.results21, go_sem]) rfl ⟨by rw [HC.out, HA.out], b0.out.trans (b2.mono b0.out.size)⟩
  · have HC : Hid (textR xs ns = .empty) := by show _ = _; rw [textR, if_neg h0]
    have g : (askF xs ns != 0) = true := by simp [h0]
    clear h0 b1
    go_wp2_with fail
    refine bodyPost_ret (v := .tuple #[.string ⟨#[]⟩, .int .i64 (askF xs ns)]) (by simp [results, Try.results21, go_sem]) rfl ⟨by rw [HC.out]; rfl, b0.out⟩
set_option maxRecDepth 100000 in
set_option maxHeartbeats 4000000 in
theorem law_ExprText0 {e et : TypeId} {p : List PSymbol} {q : List PNode} {v vt : Value} {F G : List Nat} (w : World) (h : (pSymbols e).rep false w p [v] F) (ht : (pNodes et).rep false w q [vt] G) :
    Calls Try.prog 6 #[v, .agg #[vt]] w fun e w' => e = .returned (.bool true) ∧ Below w.heap.size w w' := by
  obtain ⟨A, k, rfl⟩ := slice_len h
  obtain ⟨B, d, rfl⟩ := slice_len ht
  have RT0 := Row.new w 25 #[.slice B q.length d]
  go_enter Try.func6, Try.ntmps6
  go_wp2_with fail
  refine (szSymbolS_c _ (h.alloc _) 1048576 (by omega)).mono ?_
  rintro e w1 ⟨⟨r, rfl, hr0, hr1, hr⟩, b1⟩
  have c : Below w.heap.size w w1 := ((Below.refl _ _).alloc (Nat.le_refl _) _).trans (b1.mono (by simp))
  by_cases h0 : r < 0
  · go_wp2_with fail
    go_ret
    exact ⟨rfl, c⟩
  obtain ⟨hp1, hp2⟩ := symbols_sizes (xs := p) (n := 1048576) (by have := hr (by omega); omega)
  replace RT0 := RT0.later b1
  have t0 := RT0.cell' (i := 0) rfl
  replace h := (h.alloc _).below b1
  replace ht := (ht.alloc _).below b1
  have hp1' := Lib.hid hp1
  have hp2' := Lib.hid hp2
  have hrl : 0 ≤ r ∧ r ≤ 1048576 := ⟨by omega, hr1⟩
  clear hr hp1 hp2
  go_wp2_with fail
  refine (szTree_c _ ht r hrl).mono ?_
  rintro e w2 ⟨⟨r2, rfl, hr2, hr3⟩, b2⟩
  replace c := bt c b2
  by_cases h2 : r2 < 0
  · go_wp2_with fail
    go_ret
    exact ⟨rfl, c⟩
  have hq1' := Lib.hid (show q.length ≤ 1048576 by have := hr3 (by omega); omega)
  replace RT0 := RT0.later b2
  replace h := h.below b2
  replace ht := ht.below b2
  clear hr3 hr2 hrl t0
  have t0 := RT0.cell' (i := 0) rfl
  have lT := RT0.lt
  have HS := Lib.hid (fun (w : World) (v u : Value) (F G : List Nat) (h : (pSymbols 69).rep true w p [v] F) (h' : (pNodes 84).rep true w q [u] G) => spec_ExprText_c w h h' hp1'.out hp2'.out)
  have HI := Lib.hid (fun (w : World) (v u : Value) (F G : List Nat) (h : (pSymbols 69).rep true w p [v] F) (h' : (pNodes 84).rep true w q [u] G) => impl_ExprText_c w h h' hp1'.out hp2'.out)
  (generalize textR p q = n1 at HS HI; generalize askF p q = n2 at HS HI; have z2 : (n2 != n2) = false := (by simp); have z3 : (n1.toList != n1.toList) = false := (by simp))
  go_wp2_with fail
  go_region_held3 (fun w' => w'.cell? ⟨w.heap.size, 0, none⟩ = some (.slice B q.length d)) (first | exact t0 | exact keep_t ba lT t0 | exact keep_t (bt ba bb) lT t0 | exact keep_t (bt (bt ba bb) bc) lT t0) (first | (go_at_call 12; refine (toSymbolS_c _ h.drew hp1'.out).mono ?_; rintro e wa ⟨ua, Fa, rfl, ra, fa, ba⟩) | (go_at_call 13; refine (toTree_c _ (ht.drew.below ba) hq1'.out).mono ?_; rintro e wb ⟨ub, Fb, rfl, rb, fb, bb⟩) | (go_at_call 21; refine (HS.out _ _ _ _ _ (ra.below bb) rb).mono ?_; rintro e wc ⟨rfl, bc⟩))
  replace RT0 := RT0.drew.later (bt (bt ba bb) bc)
  replace h := h.drew.below (bt (bt ba bb) bc)
  replace ht := ht.drew.below (bt (bt ba bb) bc)
  replace c := c.drew.trans ((bt (bt ba bb) bc).mono c.size)
  clear t0 ra fa rb fb ba bb bc lT HS
  have t0 := RT0.cell' (i := 0) rfl
  go_wp2_with fail
  refine (toSymbolS_c _ h hp1'.out).mono ?_
  rintro e w3 ⟨u3, F3, rfl, r3, f3, b3⟩
  replace RT0 := RT0.later b3
  replace h := h.below b3
  replace ht := ht.below b3
  replace c := bt c b3
  clear t0
  have t0 := RT0.cell' (i := 0) rfl
  obtain ⟨A3, k3, rfl⟩ := slice_len r3
  go_wp2_with fail
  refine (toTree_c _ ht hq1'.out).mono ?_
  rintro e w4 ⟨u4, F4, rfl, r4, f4, b4⟩
  replace RT0 := RT0.later b4
  replace h := h.below b4
  replace ht := ht.below b4
  replace r3 := r3.below b4
  replace c := bt c b4
  clear t0
  obtain ⟨A4, k4, rfl⟩ := slice_len r4
  have RX := Row.new w4 33 #[.slice A4 q.length k4]
  have bX : Below w4.heap.size w4 (w4.alloc (.cells #[.slice A4 q.length k4] 33)) := (Below.refl _ _).alloc (Nat.le_refl _) _
  replace RT0 := RT0.later bX
  replace h := h.below bX
  replace ht := ht.below bX
  replace r3 := r3.below bX
  replace r4 := r4.below bX
  replace c := bt c bX
  go_wp2_with fail
  refine (HI.out _ _ _ _ _ r3 r4).mono ?_
  rintro e w5 ⟨rfl, b5⟩
  replace RT0 := RT0.later b5
  replace RX := RX.later b5
  replace h := h.below b5
  replace ht := ht.below b5
  replace r3 := r3.below b5
  replace r4 := r4.below b5
  replace c := bt c b5
  clear bX
  go_wp2_with fail
  refine (toSymbolS_c _ h hp1'.out).mono ?_
  rintro e w6 ⟨u6, F6, rfl, r6, f6, b6⟩
  replace r3 := r3.below b6
  go_wp2_with fail
  refine (eqSymbolS_c _ r3 r6 hp1'.out hp1'.out).mono ?_
  rw [decide_eq_true rfl]
  rintro e w7 ⟨rfl, b7⟩
  have b67 := bt b6 b7
  clear b6 b7 r6 f6 r3
  replace RT0 := RT0.later b67
  replace RX := RX.later b67
  replace ht := ht.below b67
  replace r4 := r4.below b67
  replace c := bt c b67
  have t0 := RT0.cell' (i := 0) rfl
  have x0 := RX.cell' (i := 0) rfl
  have lT := RT0.lt
  have lX := RX.lt
  go_wp2_with fail
  go_region_held3 (fun w' => w'.cell? ⟨w.heap.size, 0, none⟩ = some (.slice B q.length d) ∧ w'.cell? ⟨w4.heap.size, 0, none⟩ = some (.slice A4 q.length k4)) (first | exact ⟨t0, x0⟩ | exact ⟨keep_t ba lT t0, keep_t ba lX x0⟩ | exact ⟨keep_t (bt ba bb) lT t0, keep_t (bt ba bb) lX x0⟩) (first | (go_at_call 13; refine (toTree_c _ ht.drew hq1'.out).mono ?_; rintro e wa ⟨ua, Fa, rfl, ra, fa, ba⟩) | (go_at_call 16; refine (eqTree_c _ (r4.drew.below ba) ra hq1'.out hq1'.out).mono ?_; rw [decide_eq_true rfl]; rintro e wb ⟨rfl, bb⟩))
  replace c := c.drew.trans ((bt ba bb).mono c.size)
  go_wp2_with fail
  go_ret
  exact ⟨rfl, c⟩
theorem law_ExprText {e et : TypeId} {p : List PSymbol} {q : List PNode} {v : Value} {cs : List Value} {F G : List Nat} (w : World) (h : (pSymbols e).rep false w p [v] F) (ht : (pNodes et).rep false w q cs G) :
    Calls Try.prog 6 #[v, .agg cs.toArray] w fun e w' => e = .returned (.bool true) ∧ Below w.heap.size w w' := by
  obtain ⟨u, rfl⟩ := nodes_one ht
  exact law_ExprText0 w h ht

end Go.Proofs.Ytkickllohilciaa
