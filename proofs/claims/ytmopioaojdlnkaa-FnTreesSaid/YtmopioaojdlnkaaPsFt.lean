/- The reference's chart: try does a step of the chart. Conditions: none. -/
import Derived.Test.YtmopioaojdlnkaaPrH0t
import Derived.Test.YtmopioaojdlnkaaPsDt
import Derived.Test.YtmopioaojdlnkaaPsEt
import Derived.Test.YtmopioaojdlnkaaTkt
import Derived.Test.YtmopioaojdlnkaaInt
import Derived.Test.YtmopioaojdlnkaaRowt
import Derived.Test.YtmopioaojdlnkaaMarkt
namespace Go.Proofs.Ytmopioaojdlnkaa
open Go Go.RowKit
def RcIs (k : RC) (m : Cell) : Prop := k.ways = (m.ways : Int) ∧ (m.ways ≠ 0 → k.cost = m.cost ∧ k.kind = m.kind ∧ k.sign = (m.sign : Int) ∧ k.first = (m.a : Int) ∧ k.rest = (m.b : Int))
structure RcOk (xs : List PSymbol) (K : Nat → RC) (s : Nat) : Prop where
 zero : K 0 = rc0
 box : ∀ t, t < s → t ≠ 0 → (K t).box = boxS xs t
 is : ∀ t, t < s → t ≠ 0 → RcIs (K t) (cellAt xs t)
theorem RcOk.upd {xs : List PSymbol} {K : Nat → RC} {s : Nat} (h : RcOk xs K s) (h0 : s ≠ 0) (k : RC) : RcOk xs (updF K s k) s :=
 ⟨by rw [updF_other K k (Ne.symm h0)]; exact h.zero, fun t ht h0 => by rw [updF_other K k (by omega)]; exact h.box t ht h0, fun t ht h0 => by rw [updF_other K k (by omega)]; exact h.is t ht h0⟩
structure Grd (xs : List PSymbol) (N : Nat) : Prop where
 few : xs.length ≤ 8
 size : N = 2 ^ xs.length
 boxes : BoxesIn xs
theorem Grd.le {xs : List PSymbol} {N : Nat} (g : Grd xs N) : N ≤ 256 := by
 rw [g.size]
 exact Nat.pow_le_pow_right (n := 2) (by decide) g.few
theorem fitsF_root (a b c s : PBox) : fitsF 5 a b s = fitsF 5 a c s := by simp [fitsF]
theorem ownF_root (a b c s : PBox) : ownF 5 a b s = ownF 5 a c s := by simp [ownF]
def handS (xs : List PSymbol) (o : Opt) : PBox := if o.kind = 2 ∨ o.kind = 5 then sbox xs o.sign else ⟨0, 0, 0, 0⟩
section
variable {xs : List PSymbol} {K : Nat → RC} {s N : Nat} {o : Opt} {m : Cell}
theorem isOpt_kind (ho : IsOpt xs s o) : (o.kind = 1 ∨ o.kind = 3 ∨ o.kind = 4) ∧ o.sign = 0 ∨ o.kind = 2 ∨ o.kind = 5 := by
 rcases ho with ⟨h, h2, _⟩ | ⟨h, _⟩ | ⟨h, _⟩
 · exact .inl ⟨h, h2⟩
 · exact .inr (.inl h)
 · exact .inr (.inr h)
theorem isOpt_sign (hs : s < 2 ^ xs.length) (ho : IsOpt xs s o) (hk : o.kind = 2 ∨ o.kind = 5) : o.sign < xs.length := by
 rcases ho with ⟨h, _⟩ | ⟨_, h, _⟩ | ⟨_, h, _⟩
 · omega
 · unfold hasS at h; rw [Bool.and_eq_true] at h; exact bit_lt hs h.1
 · unfold hasS at h; rw [Bool.and_eq_true] at h; exact bit_lt hs h.1
theorem hand_eq (hk : RcOk xs K s) (_hs : s < 2 ^ xs.length) (h1 : s ≠ 2 ^ s.log2) (ho : IsOpt xs s o) :
 waysR (K o.a) (K o.b) (o.b : Int) = (waysO (cellAt xs) o : Int) ∧ fitsF o.kind (K o.a).box (K o.b).box (handS xs o) = fitO xs o ∧ ownF o.kind (K o.a).box (K o.b).box (handS xs o) = ownO xs o ∧
  (waysO (cellAt xs) o ≠ 0 → (K o.a).cost = (cellAt xs o.a).cost ∧ (K o.b).cost = (if o.b = 0 then 0 else (cellAt xs o.b).cost)) := by
 have n1 := not_single h1
 have hb := opt_bits xs ho n1
 have hlt := opt_lt xs ho n1
 have ea := hk.is o.a hlt.1 hb.1
 have ba := hk.box o.a hlt.1 hb.1
 have kd := isOpt_kind ho
 by_cases h0 : o.b = 0
 · have h5 : o.kind = 5 := by
    rcases Classical.em (o.kind = 5) with h | h
    · exact h
    · exact absurd h0 (hb.2.1 h)
   refine ⟨?_, ?_, ?_, fun hw => ⟨?_, ?_⟩⟩
   · unfold waysR waysO; rw [if_pos (by omega), if_pos h0, Nat.mul_one]; exact ea.1
   · unfold fitO handS signS boxBo; rw [h5, if_pos (show (5 : Int) = 2 ∨ (5 : Int) = 5 from .inr rfl), if_pos (show (5 : Int) = 2 ∨ (5 : Int) = 5 from .inr rfl), if_pos h0, ba]; exact fitsF_root _ _ _ _
   · unfold ownO handS signS boxBo; rw [h5, if_pos (show (5 : Int) = 2 ∨ (5 : Int) = 5 from .inr rfl), if_pos (show (5 : Int) = 2 ∨ (5 : Int) = 5 from .inr rfl), if_pos h0, ba]; exact ownF_root _ _ _ _
   · unfold waysO at hw; rw [if_pos h0, Nat.mul_one] at hw; exact (ea.2 hw).1
   · rw [h0, if_pos rfl, hk.zero]; rfl
 · have eb := hk.is o.b hlt.2 h0
   have bb := hk.box o.b hlt.2 h0
   have h5 : o.kind ≠ 5 := fun h => h0 (hb.2.2.1 h)
   refine ⟨?_, ?_, ?_, fun hw => ⟨?_, ?_⟩⟩
   · unfold waysR waysO; rw [if_neg (by omega), if_neg h0, ea.1, eb.1, Int.natCast_mul]
   · unfold fitO handS signS boxBo; rw [if_neg h0, ba, bb]
     by_cases h2 : o.kind = 2
     · rw [if_pos (.inl h2), if_pos (.inl h2)]
     · exact fitsF_sign h2 h5 _ _ _ _
   · unfold ownO handS signS boxBo; rw [if_neg h0, ba, bb]
     by_cases h2 : o.kind = 2
     · rw [if_pos (.inl h2), if_pos (.inl h2)]
     · exact ownF_sign h2 _ _ _ _
   · unfold waysO at hw; rw [if_neg h0] at hw; exact (ea.2 (fun h => hw (by rw [h, Nat.zero_mul]))).1
   · unfold waysO at hw; rw [if_neg h0] at hw; rw [if_neg h0]; exact (eb.2 (fun h => hw (by rw [h, Nat.mul_zero]))).1
theorem stepO_dead {c : Nat → Cell} (h : liveO xs c o = false) : stepO xs c m o = m := by unfold stepO; rw [if_neg (by rw [h]; decide)]
theorem stepO_new {c : Nat → Cell} (h : liveO xs c o = true) (hn : m.ways = 0 ∨ costO xs c o < m.cost) : stepO xs c m o = ⟨m.ways + waysO c o, costO xs c o, o.kind, o.sign, o.a, o.b⟩ := by unfold stepO; rw [if_pos h, if_pos hn]
theorem stepO_old {c : Nat → Cell} (h : liveO xs c o = true) (hn : ¬ (m.ways = 0 ∨ costO xs c o < m.cost)) : stepO xs c m o = { m with ways := m.ways + waysO c o } := by unfold stepO; rw [if_pos h, if_neg hn]
theorem tryR_is (hk : RcOk xs K s) (hs : s < 2 ^ xs.length) (h1 : s ≠ 2 ^ s.log2) (ho : IsOpt xs s o) {k : RC} (hm : RcIs k m) :
 RcIs (tryR (K o.a) (K o.b) k o.kind o.sign o.a o.b (handS xs o)) (stepO xs (cellAt xs) m o) := by
 obtain ⟨e1, e2, e3, e4⟩ := hand_eq hk hs h1 ho
 by_cases hw : waysO (cellAt xs) o = 0
 · rw [tryR_none (by rw [e1]; omega), stepO_dead (by unfold liveO; simp [hw])]; exact hm
 · have hw' : waysR (K o.a) (K o.b) (o.b : Int) ≠ 0 := by rw [e1]; omega
   obtain ⟨c1, c2⟩ := e4 hw
   cases hf : fitO xs o with
   | false => rw [tryR_unfit (by rw [e2]; exact hf), stepO_dead (by unfold liveO; simp [hf])]; exact hm
   | true =>
     have hf' := e2.trans hf
     have hl : liveO xs (cellAt xs) o = true := by unfold liveO; simp [hf, hw]
     have ec : (K o.a).cost + (K o.b).cost + ownF o.kind (K o.a).box (K o.b).box (handS xs o) = costO xs (cellAt xs) o := by unfold costO; rw [c1, c2, e3]
     by_cases hn : m.ways = 0 ∨ costO xs (cellAt xs) o < m.cost
     · have hn' : k.ways = 0 ∨ (K o.a).cost + (K o.b).cost + ownF o.kind (K o.a).box (K o.b).box (handS xs o) < k.cost := by
        rw [ec]
        rcases Classical.em (m.ways = 0) with h | h
        · exact .inl (by rw [hm.1, h]; rfl)
        · exact .inr (by rw [(hm.2 h).1]; exact hn.resolve_left h)
       rw [tryR_new hw' hf' hn', stepO_new hl hn, ec, e1]
       exact ⟨by show _ + _ = ((m.ways + waysO (cellAt xs) o : Nat) : Int); rw [hm.1, Int.natCast_add], fun _ => ⟨rfl, rfl, rfl, rfl, rfl⟩⟩
     · have hm0 : m.ways ≠ 0 := fun h => hn (.inl h)
       have hn' : ¬ (k.ways = 0 ∨ (K o.a).cost + (K o.b).cost + ownF o.kind (K o.a).box (K o.b).box (handS xs o) < k.cost) := by
        rw [ec, hm.1, (hm.2 hm0).1]
        rintro (h | h)
        · exact hm0 (by omega)
        · exact hn (.inr h)
       rw [tryR_old hw' hf' hn', stepO_old hl hn, e1]
       exact ⟨by show _ + _ = ((m.ways + waysO (cellAt xs) o : Nat) : Int); rw [hm.1, Int.natCast_add], fun _ => hm.2 hm0⟩
theorem tryR_box (A B M : RC) (kd sg fi re : Int) (SB : PBox) : (tryR A B M kd sg fi re SB).box = M.box := by
 unfold tryR
 split
 · rfl
 · split <;> rfl
theorem try_in (g : Grd xs N) (hk : RcOk xs K s) (hs : s < N) (h1 : s ≠ 2 ^ s.log2) (ho : IsOpt xs s o) {k : RC} (hm : RcIs k m) (hmw : m.ways ≤ 10000000000000000) : TryIn (K o.a) (K o.b) k (o.b : Int) := by
 rw [g.size] at hs
 have n1 := not_single h1
 have hb := opt_bits xs ho n1
 have hlt := opt_lt xs ho n1
 obtain ⟨e1, e2, e3, e4⟩ := hand_eq hk hs h1 ho
 have ea := hk.is o.a hlt.1 hb.1
 have ba := hk.box o.a hlt.1 hb.1
 have wa := ways_small g.few hb.1 (Nat.lt_trans hlt.1 hs)
 have wo := waysO_small g.few hs h1 ho
 refine ⟨?_, ?_, ⟨by rw [ea.1]; omega, by rw [ea.1]; omega⟩, ⟨by rw [e1]; omega, by rw [e1]; omega⟩, ⟨by rw [hm.1]; omega, by rw [hm.1]; omega⟩, fun hw => ?_⟩
 · rw [ba]; exact boxS_in g.boxes hb.1 (Nat.lt_trans hlt.1 hs)
 · by_cases h0 : o.b = 0
   · rw [h0, hk.zero]; unfold boxIn rc0; decide
   · rw [hk.box o.b hlt.2 h0]; exact boxS_in g.boxes h0 (Nat.lt_trans hlt.2 hs)
 · rw [e1] at hw
   have hw' : waysO (cellAt xs) o ≠ 0 := by omega
   obtain ⟨c1, c2⟩ := e4 hw'
   rw [c1, c2]
   have wa0 : (cellAt xs o.a).ways ≠ 0 := fun h => hw' (by unfold waysO; rw [h, Nat.zero_mul])
   have ca := cell_cost g.boxes g.few hb.1 (Nat.lt_trans hlt.1 hs) wa0
   refine ⟨by omega, ?_⟩
   by_cases h0 : o.b = 0
   · rw [if_pos h0]; omega
   · rw [if_neg h0]
     have wb0 : (cellAt xs o.b).ways ≠ 0 := fun h => hw' (by unfold waysO; rw [if_neg h0, h, Nat.mul_zero])
     have cb := cell_cost g.boxes g.few h0 (Nat.lt_trans hlt.2 hs) wb0
     omega
theorem sbox_at {i : Nat} (h : i < xs.length) : sbox xs i = boxOf xs[i] := by
 unfold sbox symAt; rw [Int.toNat_natCast, List.getD_eq_getElem?_getD, List.getElem?_eq_getElem h]; rfl
end
def FilPost (e : TypeId) (ob : Bool) (xs : List PSymbol) (vl : Value) (Fl : List Nat) (gp gc N : Nat) (K : Nat → RC) (s : Nat) (bx : PBox) (m : Cell) (w : World) (en : Ending) (w' : World) : Prop :=
 en = .returned (.tuple #[]) ∧ Only [gc] w w' ∧ ∃ k, Cht e ob xs vl Fl gp gc N (updF K s k) w' ∧ RcIs k m ∧ k.box = bx
theorem spec_ctry_c {e : TypeId} {ob : Bool} {xs : List PSymbol} {vl : Value} {Fl : List Nat} {gp gc N : Nat} {K : Nat → RC} {s : Nat} {bx : PBox} {m : Cell} {k : RC} (o : Opt) (w : World) (h : Cht e ob xs vl Fl gp gc N (updF K s k) w) (g : Grd xs N) (hs : s < N) (_h0 : s ≠ 0) (h1 : s ≠ 2 ^ s.log2) (ho : IsOpt xs s o) (hk : RcOk xs K s) (hm : RcIs k m) (hbx : k.box = bx) (hmw : m.ways ≤ 10000000000000000) :
 Calls Try.prog 86 #[.pointer (some ⟨gp, 0, none⟩), .int .i64 (s : Int), .int .i64 o.kind, .int .i64 (o.sign : Int), .int .i64 (o.a : Int), .int .i64 (o.b : Int)] w (FilPost e ob xs vl Fl gp gc N K s bx (stepO xs (cellAt xs) m o) w) := by
 have hs' : s < 2 ^ xs.length := g.size ▸ hs
 have n1 := not_single h1
 have hlt := opt_lt xs ho n1
 have hb := opt_bits xs ho n1
 have e0 : updF K s k s = k := updF_same K s k
 have ea : updF K s k o.a = K o.a := updF_other K k (by omega)
 have eb : updF K s k o.b = K o.b := updF_other K k (by omega)
 have hin := try_in g hk hs h1 ho hm hmw
 have hre := tryR_is hk hs' h1 ho hm
 have fin : ∀ SB, SB = handS xs o → ∀ (en : Ending) (w' : World), (en = .returned (.tuple #[]) ∧ Only [gc] w w' ∧ Cht e ob xs vl Fl gp gc N (updF (updF K s k) s (tryR (updF K s k o.a) (updF K s k o.b) (updF K s k s) o.kind (o.sign : Int) (o.a : Int) (o.b : Int) SB)) w') → FilPost e ob xs vl Fl gp gc N K s bx (stepO xs (cellAt xs) m o) w en w' := by
  rintro SB rfl en w' ⟨h1, h2, h3⟩
  rw [e0, ea, eb, updF_upd] at h3
  exact ⟨h1, h2, _, h3, hre, by rw [tryR_box]; exact hbx⟩
 have hin' : TryIn (updF K s k o.a) (updF K s k o.b) (updF K s k s) (o.b : Int) := by rw [e0, ea, eb]; exact hin
 have hz : boxIn ⟨0, 0, 0, 0⟩ := by unfold boxIn; decide
 rcases isOpt_kind ho with ⟨hk1, hsg⟩ | hk2 | hk5
 · refine (spec_tryP_c s o.a o.b o.kind hk1 (o.sign : Int) (hb.2.1 (by omega)) w h g.le hs (by omega) (by omega) (by omega) (by omega) hin' ⟨0, 0, 0, 0⟩ hz rfl).mono fun en w' q => fin _ ?_ en w' q
   unfold handS; rw [if_neg (by omega)]
 · have hsl := isOpt_sign hs' ho (.inl hk2)
   have e5 : handS xs o = boxOf xs[o.sign] := by unfold handS; rw [if_pos (.inl hk2)]; exact sbox_at hsl
   have hin2 : boxIn (boxOf xs[o.sign]) := by rw [← sbox_at hsl]; exact g.boxes _ hsl
   have C := (spec_tryO_c s o.a o.b (o.sign : Int) (hb.2.1 (by omega)) w h g.le hs (by omega) (by omega) (by omega) (by omega) hin' (boxOf xs[o.sign]) hin2 o.sign hsl rfl rfl)
   rw [← hk2] at C
   exact C.mono fun en w' q => fin _ e5.symm en w' q
 · have hsl := isOpt_sign hs' ho (.inr hk5)
   have e5 : handS xs o = boxOf xs[o.sign] := by unfold handS; rw [if_pos (.inr hk5)]; exact sbox_at hsl
   have hin2 : boxIn (boxOf xs[o.sign]) := by rw [← sbox_at hsl]; exact g.boxes _ hsl
   have C := (spec_tryR_c s o.a o.b (o.sign : Int) (hb.2.2.1 hk5) w h g.le hs (by omega) (by omega) (by omega) (by omega) hin' (boxOf xs[o.sign]) hin2 o.sign hsl rfl rfl)
   rw [← hk5] at C
   exact C.mono fun en w' q => fin _ e5.symm en w' q
def cmpI (a b : Int) : Int := if a < b then -1 else if b < a then 1 else 0
theorem isNaN_i64_c (s : Int) (w : World) : Calls Try.prog 103 #[.int .i64 s] w fun e w' => e = .returned (.bool false) ∧ w' = w := by
 go_enter Try.func103, Try.ntmps103
 go_wp2_with fail
 go_ret
 exact ⟨by simp, rfl⟩
theorem isNaN_int_c (s : Int) (w : World) : Calls Try.prog 104 #[.int .i64 s] w fun e w' => e = .returned (.bool false) ∧ w' = w := by
 go_enter Try.func104, Try.ntmps104
 go_wp2_with fail
 go_ret
 exact ⟨by simp, rfl⟩
theorem Compare_i64_c (a b : Int) (w : World) : Calls Try.prog 95 #[.int .i64 a, .int .i64 b] w fun e w' => e = .returned (.int .i64 (cmpI a b)) ∧ w' = w := by
 have Ca := Lib.hid (isNaN_i64_c a)
 have Cb := Lib.hid (isNaN_i64_c b)
 by_cases h1 : a < b
 · have HE : Hid (cmpI a b = -1) := by show _ = _; unfold cmpI; rw [if_pos h1]
   go_enter Try.func95, Try.ntmps95
   go_wp2_with fail
   refine (Ca.out _).mono ?_
   rintro e w1 ⟨rfl, rfl⟩
   go_wp2_with fail
   refine (Cb.out _).mono ?_
   rintro e w1 ⟨rfl, rfl⟩
   go_wp2_with fail
   go_ret
   exact ⟨by rw [HE.out]; rfl, rfl⟩
 · by_cases h2 : b < a
   · have HE : Hid (cmpI a b = 1) := by show _ = _; unfold cmpI; rw [if_neg h1, if_pos h2]
     go_enter Try.func95, Try.ntmps95
     go_wp2_with fail
     refine (Ca.out _).mono ?_
     rintro e w1 ⟨rfl, rfl⟩
     go_wp2_with fail
     refine (Cb.out _).mono ?_
     rintro e w1 ⟨rfl, rfl⟩
     go_wp2_with fail
     go_ret
     exact ⟨by rw [HE.out]; rfl, rfl⟩
   · have HE : Hid (cmpI a b = 0) := by show _ = _; unfold cmpI; rw [if_neg h1, if_neg h2]
     go_enter Try.func95, Try.ntmps95
     go_wp2_with fail
     refine (Ca.out _).mono ?_
     rintro e w1 ⟨rfl, rfl⟩
     go_wp2_with fail
     refine (Cb.out _).mono ?_
     rintro e w1 ⟨rfl, rfl⟩
     go_wp2_with fail
     go_ret
     exact ⟨by rw [HE.out]; rfl, rfl⟩
theorem Compare_int_c (a b : Int) (w : World) : Calls Try.prog 96 #[.int .i64 a, .int .i64 b] w fun e w' => e = .returned (.int .i64 (cmpI a b)) ∧ w' = w := by
 have Ca := Lib.hid (isNaN_int_c a)
 have Cb := Lib.hid (isNaN_int_c b)
 by_cases h1 : a < b
 · have HE : Hid (cmpI a b = -1) := by show _ = _; unfold cmpI; rw [if_pos h1]
   go_enter Try.func96, Try.ntmps96
   go_wp2_with fail
   refine (Ca.out _).mono ?_
   rintro e w1 ⟨rfl, rfl⟩
   go_wp2_with fail
   refine (Cb.out _).mono ?_
   rintro e w1 ⟨rfl, rfl⟩
   go_wp2_with fail
   go_ret
   exact ⟨by rw [HE.out]; rfl, rfl⟩
 · by_cases h2 : b < a
   · have HE : Hid (cmpI a b = 1) := by show _ = _; unfold cmpI; rw [if_neg h1, if_pos h2]
     go_enter Try.func96, Try.ntmps96
     go_wp2_with fail
     refine (Ca.out _).mono ?_
     rintro e w1 ⟨rfl, rfl⟩
     go_wp2_with fail
     refine (Cb.out _).mono ?_
     rintro e w1 ⟨rfl, rfl⟩
     go_wp2_with fail
     go_ret
     exact ⟨by rw [HE.out]; rfl, rfl⟩
   · have HE : Hid (cmpI a b = 0) := by show _ = _; unfold cmpI; rw [if_neg h1, if_neg h2]
     go_enter Try.func96, Try.ntmps96
     go_wp2_with fail
     refine (Ca.out _).mono ?_
     rintro e w1 ⟨rfl, rfl⟩
     go_wp2_with fail
     refine (Cb.out _).mono ?_
     rintro e w1 ⟨rfl, rfl⟩
     go_wp2_with fail
     go_ret
     exact ⟨by rw [HE.out]; rfl, rfl⟩
def orL (l : List Int) : Int := (l.find? (fun x => x != 0)).getD 0
theorem orL_at {l : List Int} {k : Nat} (hk : k < l.length) (h : ∀ j (hj : j < l.length), j < k → l[j] = 0) (hn : l[k] ≠ 0) : orL l = l[k] := by
 unfold orL
 induction l generalizing k with
 | nil => simp at hk
 | cons x r ih =>
   cases k with
   | zero => simp only [List.getElem_cons_zero] at hn ⊢; rw [List.find?_cons_of_pos (by simpa using hn)]; rfl
   | succ k =>
     have h0 : x = 0 := h 0 (by simp) (by omega)
     rw [List.find?_cons_of_neg (by simp [h0])]
     exact ih (by simpa using hk) (fun j hj hjk => h (j + 1) (by simp; omega) (by omega)) (by simpa using hn)
theorem orL_none {l : List Int} (h : ∀ j (hj : j < l.length), l[j] = 0) : orL l = 0 := by
 unfold orL
 induction l with
 | nil => rfl
 | cons x r ih =>
   have h0 : x = 0 := h 0 (by simp)
   rw [List.find?_cons_of_neg (by simp [h0])]
   exact ih (fun j hj => h (j + 1) (by simp; omega))
set_option maxRecDepth 100000 in
theorem OrL_c {g : Nat} {e : TypeId} (l : List Int) (w : World) (h : Row w g e (l.map (.int .i64))) (hl : l.length ≤ 100) :
 Calls Try.prog 94 #[.slice (some ⟨g, 0, none⟩) l.length l.length] w fun e w' => e = .returned (.int .i64 (orL l)) ∧ w' = w := by
 have R := Lib.hid h
 clear h
 go_enter Try.func94, Try.ntmps94
 go_wp2_with fail
 go_loop [5, 8] (fun s i => ∃ k : Nat, k ≤ l.length ∧ i = .int .i64 k ∧ Hid (∀ j (hj : j < l.length), j < k → l[j] = 0)) (fun _ i => l.length - (intOf i).toNat)
 case atStart => exact ⟨0, Nat.zero_le _, rfl, Lib.hid (fun _ _ h => by omega)⟩
 case round =>
  obtain ⟨k, hk, rfl, hz⟩ := hrel
  by_cases hlt : k < l.length
  · have g1 : (k : Int) < (l.length : Int) := by omega
    have i0 : (0 : Int) ≤ (k : Int) := by omega
    have kw := IntWalk.i64_in ((k : Int) + 1) (by omega)
    have c0 := R.out.cell' (i := k) (u := .int .i64 l[k]) (by simp [hlt])
    by_cases hn : l[k] = 0
    · have hz' : Hid (∀ j (hj : j < l.length), j < k + 1 → l[j] = 0) := Lib.hid (fun j hj h => by
       by_cases e : j = k
       · subst e; exact hn
       · exact hz.out j hj (by omega))
      rw [hn] at c0
      clear hn
      go_wp2_with fail
      go_round
      case rel => exact ⟨k + 1, by omega, by go_num, hz'⟩
      case measure => simp [intOf]; omega
    · have g0 : (l[k] != 0) = true := by simp [hn]
      have HO := Lib.hid (orL_at hlt hz.out hn)
      clear hn
      go_wp2_with fail
      go_ret
      exact ⟨by rw [HO.out]; rfl, rfl⟩
  · obtain rfl : k = l.length := by omega
    have g1 : ¬ ((l.length : Int) < (l.length : Int)) := by omega
    have HO := Lib.hid (orL_none (fun j hj => hz.out j hj hj))
    go_wp2_with fail
    go_ret
    exact ⟨by rw [HO.out]; rfl, rfl⟩
def ordC (xk xs xa xc yk ys ya yc : Int) : Int := orL [cmpI xc yc, cmpI xk yk, cmpI xs ys, cmpI xa ya]
set_option maxRecDepth 100000 in
set_option maxHeartbeats 2000000 in
theorem compareChoices_c (xk xs xa xb xc yk ys ya yb yc : Int) (w : World) : Calls Try.prog 84 #[.agg #[.int .i64 xk, .int .i64 xs, .int .i64 xa, .int .i64 xb, .int .i64 xc], .agg #[.int .i64 yk, .int .i64 ys, .int .i64 ya, .int .i64 yb, .int .i64 yc]] w fun e w' => e = .returned (.int .i64 (ordC xk xs xa xc yk ys ya yc)) ∧ Below w.heap.size w w' := by
 have HC1 := Lib.hid (Compare_i64_c xc yc)
 have HC2 := Lib.hid (Compare_i64_c xk yk)
 have HC3 := Lib.hid (Compare_i64_c xs ys)
 have HC4 := Lib.hid (Compare_int_c xa ya)
 unfold ordC
 generalize cmpI xc yc = r1 at HC1 ⊢
 generalize cmpI xk yk = r2 at HC2 ⊢
 generalize cmpI xs ys = r3 at HC3 ⊢
 generalize cmpI xa ya = r4 at HC4 ⊢
 obtain ⟨r, hr⟩ : ∃ r, orL [r1, r2, r3, r4] = r := ⟨_, rfl⟩
 rw [hr]
 have HR := Lib.hid hr
 clear hr
 have GW := Lib.hid (((Below.refl w.heap.size w).alloc (Nat.le_refl _) (.cells #[.int .i64 xk, .int .i64 xs, .int .i64 xa, .int .i64 xb, .int .i64 xc] 65)).alloc (by simp) (.cells #[.int .i64 yk, .int .i64 ys, .int .i64 ya, .int .i64 yb, .int .i64 yc] 65))
 have R1 := (Row.new w 65 #[.int .i64 xk, .int .i64 xs, .int .i64 xa, .int .i64 xb, .int .i64 xc]).alloc (.cells #[.int .i64 yk, .int .i64 ys, .int .i64 ya, .int .i64 yb, .int .i64 yc] 65)
 have R2 := Row.new (w.alloc (.cells #[.int .i64 xk, .int .i64 xs, .int .i64 xa, .int .i64 xb, .int .i64 xc] 65)) 65 #[.int .i64 yk, .int .i64 ys, .int .i64 ya, .int .i64 yb, .int .i64 yc]
 rw [World.size_alloc] at R2
 go_enter Try.func84, Try.ntmps84
 go_wp2_with fail
 generalize (w.alloc (.cells #[.int .i64 xk, .int .i64 xs, .int .i64 xa, .int .i64 xb, .int .i64 xc] 65)).alloc (.cells #[.int .i64 yk, .int .i64 ys, .int .i64 ya, .int .i64 yb, .int .i64 yc] 65) = w2 at *
 have hS : (fun w' : World => w'.cell? ⟨w.heap.size, 4, none⟩ = some (.int .i64 xc) ∧ w'.cell? ⟨w.heap.size, 0, none⟩ = some (.int .i64 xk) ∧ w'.cell? ⟨w.heap.size, 1, none⟩ = some (.int .i64 xs) ∧ w'.cell? ⟨w.heap.size, 2, none⟩ = some (.int .i64 xa) ∧ w'.cell? ⟨w.heap.size + 1, 4, none⟩ = some (.int .i64 yc) ∧ w'.cell? ⟨w.heap.size + 1, 0, none⟩ = some (.int .i64 yk) ∧ w'.cell? ⟨w.heap.size + 1, 1, none⟩ = some (.int .i64 ys) ∧ w'.cell? ⟨w.heap.size + 1, 2, none⟩ = some (.int .i64 ya)) w2.drew := ⟨R1.c4, R1.c0, R1.c1, R1.c2, R2.c4, R2.c0, R2.c1, R2.c2⟩
 dsimp only at hS
 refine wp_region_held_drew (S := (fun w' : World => w'.cell? ⟨w.heap.size, 4, none⟩ = some (.int .i64 xc) ∧ w'.cell? ⟨w.heap.size, 0, none⟩ = some (.int .i64 xk) ∧ w'.cell? ⟨w.heap.size, 1, none⟩ = some (.int .i64 xs) ∧ w'.cell? ⟨w.heap.size, 2, none⟩ = some (.int .i64 xa) ∧ w'.cell? ⟨w.heap.size + 1, 4, none⟩ = some (.int .i64 yc) ∧ w'.cell? ⟨w.heap.size + 1, 0, none⟩ = some (.int .i64 yk) ∧ w'.cell? ⟨w.heap.size + 1, 1, none⟩ = some (.int .i64 ys) ∧ w'.cell? ⟨w.heap.size + 1, 2, none⟩ = some (.int .i64 ya))) (by kernel_rfl) hS (fun _ => ?_)
 refine tJ 0 hS ?_
 refine tJ 1 hS ?_
 refine tJ 2 hS ?_
 refine tJ 3 hS ?_
 refine tC (i := 4) 95 #[Go.Operand.tmp 6, Go.Operand.tmp 8] #[.int .i64 xc, .int .i64 yc] Try.call95 (fun w => HC1.out w) hS ?_
 simp only [Act.put, pA, pB, pC]
 refine tJ 5 hS ?_
 refine tJ 6 hS ?_
 refine tJ 7 hS ?_
 refine tJ 8 hS ?_
 refine tC (i := 9) 95 #[Go.Operand.tmp 11, Go.Operand.tmp 13] #[.int .i64 xk, .int .i64 yk] Try.call95 (fun w => HC2.out w) hS ?_
 simp only [Act.put, pA, pB, pC]
 refine tJ 10 hS ?_
 refine tJ 11 hS ?_
 refine tJ 12 hS ?_
 refine tJ 13 hS ?_
 refine tC (i := 14) 95 #[Go.Operand.tmp 16, Go.Operand.tmp 18] #[.int .i64 xs, .int .i64 ys] Try.call95 (fun w => HC3.out w) hS ?_
 simp only [Act.put, pA, pB, pC]
 refine tJ 15 hS ?_
 refine tJ 16 hS ?_
 refine tJ 17 hS ?_
 refine tJ 18 hS ?_
 refine tC (i := 19) 96 #[Go.Operand.tmp 21, Go.Operand.tmp 23] #[.int .i64 xa, .int .i64 ya] Try.call96 (fun w => HC4.out w) hS ?_
 simp only [Act.put, pA, pB, pC]
 refine rJ 20 fun K hK => ?_
 go_simp
 have R3 := (Row.new w2 3 #[.int .i64 r1, .int .i64 r2, .int .i64 r3, .int .i64 r4]).drew
 replace GW := Lib.hid (GW.out.alloc (by have := R2.lt; omega) (.cells #[.int .i64 r1, .int .i64 r2, .int .i64 r3, .int .i64 r4] 3)).drew
 replace R1 := (R1.alloc (.cells #[.int .i64 r1, .int .i64 r2, .int .i64 r3, .int .i64 r4] 3)).drew
 replace R2 := (R2.alloc (.cells #[.int .i64 r1, .int .i64 r2, .int .i64 r3, .int .i64 r4] 3)).drew
 refine hK.out _ _ ?_ (fun _ => ?_)
 · exact ⟨R1.c4, R1.c0, R1.c1, R1.c2, R2.c4, R2.c0, R2.c1, R2.c2⟩
 clear hK K
 have RO := OrL_c [r1, r2, r3, r4] _ R3 (by simp)
 rw [HR.out] at RO
 replace hS := (⟨R1.c4, R1.c0, R1.c1, R1.c2, R2.c4, R2.c0, R2.c1, R2.c2⟩ : ((w2.alloc (.cells #[.int .i64 r1, .int .i64 r2, .int .i64 r3, .int .i64 r4] 3)).drew).cell? ⟨w.heap.size, 4, none⟩ = some (.int .i64 xc) ∧ ((w2.alloc (.cells #[.int .i64 r1, .int .i64 r2, .int .i64 r3, .int .i64 r4] 3)).drew).cell? ⟨w.heap.size, 0, none⟩ = some (.int .i64 xk) ∧ ((w2.alloc (.cells #[.int .i64 r1, .int .i64 r2, .int .i64 r3, .int .i64 r4] 3)).drew).cell? ⟨w.heap.size, 1, none⟩ = some (.int .i64 xs) ∧ ((w2.alloc (.cells #[.int .i64 r1, .int .i64 r2, .int .i64 r3, .int .i64 r4] 3)).drew).cell? ⟨w.heap.size, 2, none⟩ = some (.int .i64 xa) ∧ ((w2.alloc (.cells #[.int .i64 r1, .int .i64 r2, .int .i64 r3, .int .i64 r4] 3)).drew).cell? ⟨w.heap.size + 1, 4, none⟩ = some (.int .i64 yc) ∧ ((w2.alloc (.cells #[.int .i64 r1, .int .i64 r2, .int .i64 r3, .int .i64 r4] 3)).drew).cell? ⟨w.heap.size + 1, 0, none⟩ = some (.int .i64 yk) ∧ ((w2.alloc (.cells #[.int .i64 r1, .int .i64 r2, .int .i64 r3, .int .i64 r4] 3)).drew).cell? ⟨w.heap.size + 1, 1, none⟩ = some (.int .i64 ys) ∧ ((w2.alloc (.cells #[.int .i64 r1, .int .i64 r2, .int .i64 r3, .int .i64 r4] 3)).drew).cell? ⟨w.heap.size + 1, 2, none⟩ = some (.int .i64 ya))
 refine rJ 21 fun K hK => ?_
 refine step_call 94 #[.tmp 25] _ rfl rfl #[.slice (some ⟨w2.heap.size, 0, none⟩) 4 4] Try.call94 (by go_simp) RO ?_
 rintro e w1 ⟨rfl, rfl⟩
 refine ⟨_, rfl, ?_⟩
 refine bJ hK hS ?_
 clear hK K
 simp only [Act.put, pA, pB, pC]
 refine tJ 22 hS ?_
 refine wpAnyH_done (by kernel_rfl) ?_ _
 go_wp2_with fail
 go_ret
 exact ⟨rfl, GW.out⟩
def splitTo (kd : Int) (i r f : Nat) : List Opt := ((List.range f).filter fun a => decide (0 < a) && decide (a &&& r = a)).map fun a => ⟨kd, i, a, r ^^^ a⟩
theorem splitTo_all (kd : Int) (i r : Nat) : splitTo kd i r r = splitO kd i r := rfl
theorem splitTo_yes {kd : Int} {i r f : Nat} (h0 : 0 < f) (h : f &&& r = f) : splitTo kd i r (f + 1) = splitTo kd i r f ++ [⟨kd, i, f, r ^^^ f⟩] := by
 unfold splitTo
 rw [List.range_succ, List.filter_append, List.map_append]
 simp [h0, h]
theorem splitTo_no {kd : Int} {i r f : Nat} (h : f &&& r ≠ f) : splitTo kd i r (f + 1) = splitTo kd i r f := by
 unfold splitTo
 rw [List.range_succ, List.filter_append, List.map_append]
 simp [h]
theorem splitTo_pre (kd : Int) (i r f : Nat) : ∀ d, ∃ R, splitTo kd i r (f + d) = splitTo kd i r f ++ R
 | 0 => ⟨[], by simp⟩
 | d + 1 => by
   obtain ⟨R, hR⟩ := splitTo_pre kd i r f d
   by_cases h : f + d &&& r = f + d
   · by_cases h0 : 0 < f + d
     · exact ⟨_, by rw [← Nat.add_assoc, splitTo_yes h0 h, hR, List.append_assoc]⟩
     · exact ⟨R, by
        obtain rfl : d = 0 := by omega
        obtain rfl : f = 0 := by omega
        rw [← hR]
        unfold splitTo
        rfl⟩
   · exact ⟨R, by rw [← Nat.add_assoc, splitTo_no h, hR]⟩
theorem split_ways {xs : List PSymbol} {c : Nat → Cell} {kd : Int} {i r f : Nat} {m : Cell} (h : f ≤ r) : ((splitTo kd i r f).foldl (stepO xs c) m).ways ≤ ((splitO kd i r).foldl (stepO xs c) m).ways := by
 obtain ⟨R, hR⟩ := splitTo_pre kd i r f (r - f)
 rw [show f + (r - f) = r by omega] at hR
 rw [← splitTo_all, hR, List.foldl_append]
 exact foldO_ways xs c R _
set_option maxRecDepth 100000 in
set_option maxHeartbeats 2000000 in
theorem spec_csplit_c {e : TypeId} {ob : Bool} {xs : List PSymbol} {vl : Value} {Fl : List Nat} {gp gc N : Nat} {K : Nat → RC} {s : Nat} {bx : PBox} {m : Cell} {k : RC} (kd : Int) (i r : Nat) (w : World) (h : Cht e ob xs vl Fl gp gc N (updF K s k) w) (g : Grd xs N) (hs : s < N) (h0 : s ≠ 0) (h1 : s ≠ 2 ^ s.log2) (hk : RcOk xs K s) (hm : RcIs k m) (hbx : k.box = bx) (hr : 0 < r) (hrN : r < N) (hopt : ∀ a ∈ subs r, IsOpt xs s ⟨kd, i, a, r ^^^ a⟩) (hmw : ((splitO kd i r).foldl (stepO xs (cellAt xs)) m).ways ≤ 10000000000000000) :
 Calls Try.prog 72 #[.pointer (some ⟨gp, 0, none⟩), .int .i64 (s : Int), .int .i64 kd, .int .i64 (i : Int), .int .i64 (r : Int)] w (FilPost e ob xs vl Fl gp gc N K s bx ((splitO kd i r).foldl (stepO xs (cellAt xs)) m) w) := by
 have G := Lib.hid g
 have H1 := Lib.hid h1
 have HK := Lib.hid hk
 have HO := Lib.hid hopt
 have HW := Lib.hid hmw
 have HH := Lib.hid (show Cht e ob xs vl Fl gp gc N (updF K s k) w ∧ RcIs k m ∧ k.box = bx from ⟨h, hm, hbx⟩)
 have hN := g.le
 have H0 := Lib.hid h0
 clear g h1 hk hopt hmw h hm hbx h0
 go_enter Try.func72, Try.ntmps72
 go_wp2_with fail
 go_loopw [10] (fun f wr => ∃ (fn : Nat) (k' : RC), f = .int .i64 fn ∧ 1 ≤ fn ∧ fn ≤ r ∧ Hid (Cht e ob xs vl Fl gp gc N (updF K s k') wr ∧ RcIs k' ((splitTo kd i r fn).foldl (stepO xs (cellAt xs)) m) ∧ k'.box = bx) ∧ Only [gc] w wr) (fun f _ => r - (intOf f).toNat)
 case atStart => exact ⟨1, k, rfl, Nat.le_refl _, hr, HH, Only.refl _ _⟩
 case round =>
  obtain ⟨fn, k', rfl, hf1, hfr, hh, on⟩ := hrel
  by_cases hlt : fn < r
  · have g1 : (fn : Int) < (r : Int) := by omega
    have kw := IntWalk.i64_in ((fn : Int) + 1) (by omega)
    have hband := i64_and fn r (by omega) (by omega)
    by_cases hq : fn &&& r = fn
    · rw [hq] at hband
      have hnot := i64_andNot r fn (by omega) (by omega)
      rw [Nat.and_comm, hq] at hnot
      have hin : fn ∈ subs r := mem_subs.2 ⟨by omega, by omega, sub_iff.1 hq⟩
      have hd := HH
      obtain ⟨hc, hi, hb⟩ := hh.out
      have CT := spec_ctry_c ⟨kd, i, fn, r ^^^ fn⟩ wr hc G.out hs H0.out H1.out (HO.out fn hin) HK.out hi hb (Nat.le_trans (split_ways (by omega)) HW.out)
      dsimp only at CT
      have hsp := splitTo_yes (kd := kd) (i := i) (by omega) hq
      have HSP := Lib.hid hsp
      obtain ⟨p, hp⟩ : ∃ p, r ^^^ fn = p := ⟨_, rfl⟩
      rw [hp] at hnot CT HSP
      have HCT := Lib.hid CT
      clear CT hsp hp hq hh hc hi hb hin hd
      go_wp2_with fail
      refine HCT.out.mono ?_
      rintro en w2 ⟨rfl, on2, k2, hc2, hi2, hb2⟩
      have HH2 := Lib.hid (show Cht e ob xs vl Fl gp gc N (updF K s k2) w2 ∧ RcIs k2 ((splitTo kd i r (fn + 1)).foldl (stepO xs (cellAt xs)) m) ∧ k2.box = bx from ⟨hc2, by rw [HSP.out, List.foldl_append]; exact hi2, hb2⟩)
      have ON2 := Lib.hid (on.trans on2)
      clear hc2 hi2 hb2 on on2
      go_wp2_with fail
      go_roundw
      case rel => exact ⟨fn + 1, k2, by go_num, by omega, by omega, HH2, ON2.out⟩
      case measure => simp [intOf]; omega
    · have HSP := Lib.hid (splitTo_no (kd := kd) (i := i) hq)
      obtain ⟨q, hqq⟩ : ∃ q, fn &&& r = q := ⟨_, rfl⟩
      rw [hqq] at hband hq
      have hne : ((q : Int) == (fn : Int)) = false := by simp only [beq_eq_false_iff_ne]; omega
      clear hqq hq
      go_wp2_with fail
      go_roundw
      case rel => exact ⟨fn + 1, k', by go_num, by omega, by omega, by rw [HSP.out]; exact hh, on⟩
      case measure => simp [intOf]; omega
  · obtain rfl : fn = r := by omega
    have g1 : ¬ ((fn : Int) < (fn : Int)) := by omega
    go_wp2_with fail
    refine bodyPost_end (v := .tuple #[]) (by simp [results, Try.results72, go_sem]) rfl ⟨rfl, on, k', hh.out.1, ?_, hh.out.2.2⟩
    rw [← splitTo_all]
    exact hh.out.2.1
end Go.Proofs.Ytmopioaojdlnkaa
