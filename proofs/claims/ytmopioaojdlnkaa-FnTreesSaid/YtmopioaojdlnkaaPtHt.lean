/- The program's parser: solve. Conditions: none. -/
import Derived.Test.YtmopioaojdlnkaaTkt
import Derived.Test.YtmopioaojdlnkaaPtFt
import Derived.Deep.CutRange
namespace Go.Proofs.Ytmopioaojdlnkaa
open Go Go.RowKit
theorem pow_test : ∀ s, s < 256 → s ≠ 0 → (s &&& (s - 1) = 0 ↔ s = 2 ^ s.log2) := by decide +kernel
def fixS (s : Nat) (k : RC) : RC := if s = 2 ^ s.log2 then { k with sign := (s.log2 : Int) } else k
def SolPost (e : TypeId) (ob : Bool) (xs : List PSymbol) (vl : Value) (Fl : List Nat) (gp gb gt gn N : Nat) (K : Nat → RC) (s : Nat) (w : World) (en : Ending) (w' : World) : Prop :=
 en = .returned (.tuple #[]) ∧ Only [gb, gt, gn] w w' ∧ ∃ k, Prs e ob xs vl Fl gp gb gt gn N (updF K s k) w' ∧ RcIs (fixS s k) (cellAt xs s) ∧ k.box = boxS xs s
theorem symAt_atP {xs : List PSymbol} {k : Nat} (h : k < xs.length) : symAt xs (k : Int) = xs[k] := by unfold symAt; rw [Int.toNat_natCast, List.getD_eq_getElem?_getD, List.getElem?_eq_getElem h]; rfl
theorem list_three (_i r : Nat) : waysA 0 r [1, 3, 4] = threeO r := rfl
theorem list_one (i r : Nat) : (subsD r).flatMap (waysA i r [2]) = (subsD r).map fun a => ⟨2, i, a, r ^^^ a⟩ := by
 unfold waysA
 simp only [List.map_cons, List.map_nil]
 induction subsD r with
 | nil => rfl
 | cons x l ih => rw [List.flatMap_cons, ih]; rfl
theorem kinds_rep {w : World} {e : TypeId} (ks : List Int) (h : ∀ k ∈ ks, I64 k) (hl : ks.length ≤ 100) : (nums e).rep true (w.alloc (.cells (ks.map (Value.int .i64)).toArray e)) ks [.slice (some ⟨w.heap.size, 0, none⟩) ks.length ks.length] [w.heap.size] :=
 slice_of_row (xs := ks) (Row.new w e _) (repL_nums ks h) (by unfold maxLen; omega)
set_option maxRecDepth 100000 in
set_option maxHeartbeats 8000000 in
theorem impl_psolve_c {e : TypeId} {ob : Bool} {xs : List PSymbol} {vl : Value} {Fl : List Nat} {gp gb gt gn N : Nat} {K : Nat → RC} {s : Nat} (w : World) (h : Prs e ob xs vl Fl gp gb gt gn N K w) (g : Grd xs N) (hs : s < N) (h0 : s ≠ 0) (hk : RcOk xs (fixK K) s) (hKs : K s = rc0) :
 Calls Try.prog 51 #[.pointer (some ⟨gp, 0, none⟩), .int .i64 (s : Int)] w (SolPost e ob xs vl Fl gp gb gt gn N K s w) := by
 have hs' : s < 2 ^ xs.length := g.size ▸ hs
 have G := Lib.hid g
 have HK := Lib.hid hk
 obtain ⟨AL, cl, rfl⟩ := slice_len h.syms
 have hN := g.le
 have H0 := Lib.hid h0
 have HS := Lib.hid hs'
 have hn8 := g.few
 have hlt4 : gp < w.heap.size ∧ gb < w.heap.size ∧ gt < w.heap.size ∧ gn < w.heap.size := ⟨h.row.lt, h.boxes.lt, h.best.lt, h.count.lt⟩
 have hFl : ∀ b ∈ Fl, b < w.heap.size := fun b hb => (pSymbols e).lt h.syms b hb
 have CB := Lib.hid (fun w' q => impl_boxOfSet_c (e := e) (ob := ob) (xs := xs) (vl := .slice AL xs.length cl) (Fl := Fl) w' q g.few hs' h0)
 obtain ⟨X, hX⟩ : ∃ X, boxS xs s = X := ⟨_, rfl⟩
 rw [hX] at CB
 have HX := Lib.hid hX
 have H := Lib.hid h
 have HKS := Lib.hid hKs
 have i5 : (0 : Int) ≤ (s : Int) := by omega
 have i6 : (s : Int) < (N : Int) := by omega
 have p0 := h.row.c0
 have p1 := h.row.c1
 have e1 : IntKind.i64.wrap ((s : Int) - 1) = ((s - 1 : Nat) : Int) := by rw [IntWalk.i64_in _ (by omega)]; omega
 have hband := i64_and s (s - 1) (by omega) (by omega)
 have htest := pow_test s (by omega) h0
 clear g hk h h0 hKs hs' hX
 go_enter Try.func51, Try.ntmps51
 go_upto_region 0 with fail
 have hS : (fun w' : World => w'.cell? ⟨gp, 0, none⟩ = some (.slice AL xs.length cl) ∧ w'.cell? ⟨gp, 1, none⟩ = some (.slice (some ⟨gb, 0, none⟩) N N)) w.drew := ⟨p0, p1⟩
 dsimp only at hS
 refine wp_region_held_drew (S := (fun w' : World => w'.cell? ⟨gp, 0, none⟩ = some (.slice AL xs.length cl) ∧ w'.cell? ⟨gp, 1, none⟩ = some (.slice (some ⟨gb, 0, none⟩) N N))) (by kernel_rfl) hS (fun _ => ?_)
 refine tJ 0 hS ?_
 refine tJ 1 hS ?_
 refine tJ 2 hS ?_
 refine tJ 3 hS ?_
 refine tJ 4 hS ?_
 refine tJ 5 hS ?_
 refine tJ 6 hS ?_
 refine tJ 7 hS ?_
 refine tJ 8 hS ?_
 refine tJ 9 hS ?_
 refine rJ 10 fun K hK => ?_
 refine step_call 68 #[.tmp 15, .tmp 16] _ rfl rfl #[.slice AL xs.length cl, .int .i64 (s : Int)] Try.call68 (by go_simp) (CB.out _ H.out.drew.syms) ?_
 rintro en w2 ⟨rfl, b2⟩
 refine ⟨_, rfl, ?_⟩
 have h2 := H.out.drew.below b2
 have on2 : Only [gb, gt, gn] w w2 := (Only.of_below (Below.refl w.heap.size w).drew).trans (Only.of_below b2)
 clear p0 p1
 have p0 := h2.row.c0
 have p1 := h2.row.c1
 replace hS := (⟨p0, p1⟩ : w2.cell? ⟨gp, 0, none⟩ = some (.slice AL xs.length cl) ∧ w2.cell? ⟨gp, 1, none⟩ = some (.slice (some ⟨gb, 0, none⟩) N N))
 refine bJ hK hS ?_
 clear hK K
 simp only [Act.put, pA, pB, pC]
 refine tJ 11 hS ?_
 obtain ⟨n0, n1, n2, n3⟩ := h2.boxCell hs
 have nF := h2.boxes.frozen
 refine rJ 12 fun K hK => ?_
 go_simp
 have gne : gp ≠ gb := h2.ne.1
 refine hK.out _ _ ?_ (fun hHeld => ?_)
 · exact ⟨(cell_far4 gne _ _ _ _).trans p0, (cell_far4 gne _ _ _ _).trans p1⟩
 clear hK K hHeld hS n0 n1 n2 n3 nF p0 p1
 refine wpAnyH_done (by kernel_rfl) ?_ _
 have h3 := h2.putBox hs X
 have on3 := on2.box (gc := gb) (s := s * 4) (by simp) X
 generalize ((((w2.setCell ⟨gb, s * 4, none⟩ (.int .i64 X.x1)).setCell ⟨gb, s * 4 + 1, none⟩ (.int .i64 X.y1)).setCell ⟨gb, s * 4 + 2, none⟩ (.int .i64 X.x2)).setCell ⟨gb, s * 4 + 3, none⟩ (.int .i64 X.y2)) = w3 at h3 on3 ⊢
 rw [HKS.out] at h3
 by_cases hone : s = 2 ^ s.log2
 · rw [htest.2 hone] at hband
   have HO := Lib.hid hone
   have hA := Lib.hid (cellAt_single xs HS.out hone)
   have p3 := h3.row.c3
   have nM := h3.nCell hs
   have nF := h3.count.frozen
   have h4 := h3.putN hs 1
   rw [updF_same, updF_upd] at h4
   have H4 := Lib.hid h4
   have ON4 := Lib.hid (on3.set (p := ⟨gn, s, none⟩) (by simp) (.int .i64 1))
   clear hone htest h4 h2 h3 on2 on3 b2
   go_wp2_with fail
   refine bodyPost_ret (v := .tuple #[]) (by simp [results, Try.results51, go_sem]) rfl ⟨rfl, ON4.out, _, H4.out, ?_, HX.out.symm⟩
   rw [hA.out]
   unfold fixS
   rw [if_pos HO.out]
   exact ⟨rfl, fun _ => ⟨rfl, rfl, rfl, rfl, rfl⟩⟩
 · obtain ⟨tq, htq⟩ : ∃ q, s &&& (s - 1) = q := ⟨_, rfl⟩
   have hq0 : tq ≠ 0 := by rw [← htq]; exact fun h => hone (htest.1 h)
   rw [htq] at hband
   have yq : ((tq : Int) == 0) = false := by simp only [beq_eq_false_iff_ne]; omega
   have H1 := Lib.hid hone
   have hs0 : 0 < s := Nat.pos_of_ne_zero H0.out
   have hall := cellI_eq HS.out hone
   have hw := ways_small G.out.few H0.out HS.out
   rw [← hall] at hw
   unfold optsI at hw hall
   rw [List.foldl_append] at hw hall
   obtain ⟨M1, hM1⟩ : ∃ M1, ((subsD s).flatMap (threeO s)).foldl (stepI xs (cellAt xs)) cell0 = M1 := ⟨_, rfl⟩
   rw [hM1] at hw hall
   have hw1 : M1.ways ≤ 10000000000000000 := Nat.le_trans (foldI_ways xs (cellAt xs) _ _) hw
   have HALL := Lib.hid hall
   have HW := Lib.hid hw
   have ho : ∀ a ∈ subs s, ∀ k ∈ ([1, 3, 4] : List Int), IsOpt xs s ⟨k, 0, a, s ^^^ a⟩ := fun a ha k hk => .inl ⟨by simp at hk; omega, rfl, ha, rfl⟩
   have hsb : ∀ a, ∀ k ∈ ([1, 3, 4] : List Int), handS xs ⟨k, 0, a, s ^^^ a⟩ = ⟨0, 0, 0, 0⟩ := fun a k hk => by
    unfold handS; rw [if_neg (by simp at hk; dsimp only; omega)]
   have hk13 := kinds_rep (w := w3) (e := 2) [1, 3, 4] (by intro k hk; simp at hk; unfold I64; omega) (by simp)
   have hs3 : w.heap.size ≤ w3.heap.size := on3.size
   have CS := impl_psplit_c (SB := ⟨0, 0, 0, 0⟩) (bx := X) (m := cell0) [1, 3, 4] 0 s _ (h3.alloc (.cells (([1, 3, 4] : List Int).map (Value.int .i64)).toArray 2)) hk13 ⟨by simp; omega, by simp; omega⟩ (by simp) G.out hs H0.out hone HK.out (k := { rc0 with box := X }) ⟨rfl, fun h => absurd rfl h⟩ rfl hs0 hs ho hsb (by rw [list_three 0 s, hM1]; exact hw1)
   rw [list_three 0 s, hM1] at CS
   have HCS := Lib.hid CS
   have on3' := on3.trans (Only.of_below ((Below.refl w3.heap.size w3).alloc (Nat.le_refl _) (.cells (([1, 3, 4] : List Int).map (Value.int .i64)).toArray 2)))
   have ON3 := Lib.hid on3'
   clear CS htest hone hall hw hw1 ho hsb hk13 h2 h3 on2 on3 on3' b2 hM1 htq hq0
   go_wp2_with fail
   refine HCS.out.mono ?_
   rintro en w4 ⟨rfl, on4, k4, hc4, hi4, hb4⟩
   have p0 := hc4.row.c0
   have HH := Lib.hid (show Prs e ob xs (.slice AL xs.length cl) Fl gp gb gt gn N (updF K s k4) w4 ∧ k4.box = X ∧ ∃ M, RcIs k4 M ∧ (((List.range xs.length).drop 0).flatMap (signO xs s)).foldl (stepI xs (cellAt xs)) M = cellAt xs s from ⟨hc4, hb4, M1, hi4, by rw [List.drop_zero]; exact HALL.out⟩)
   have ON4 := Lib.hid (ON3.out.trans (on4.mono (by simp)))
   clear hc4 hi4 hb4 on4
   go_wp2_with fail
   go_loopw [41] (fun iv wr => ∃ (i : Nat) (k' : RC), iv = .int .i64 (i : Int) ∧ i ≤ xs.length ∧ Hid (Prs e ob xs (.slice AL xs.length cl) Fl gp gb gt gn N (updF K s k') wr ∧ k'.box = X ∧ ∃ M, RcIs k' M ∧ (((List.range xs.length).drop i).flatMap (signO xs s)).foldl (stepI xs (cellAt xs)) M = cellAt xs s) ∧ Hid (Only [gb, gt, gn] w wr)) (fun iv _ => xs.length - (intOf iv).toNat)
   case atStart => exact ⟨0, k4, rfl, Nat.zero_le _, HH, ON4⟩
   case round =>
    obtain ⟨i, k', rfl, hi, hh, on⟩ := hrel
    by_cases hlt : i < xs.length
    · have g1 : (i : Int) < (xs.length : Int) := by omega
      have i0 : (0 : Int) ≤ (i : Int) := by omega
      have i64 : (i : Int) ≤ 64 := by omega
      have kw := IntWalk.i64_in ((i : Int) + 1) (by omega)
      have hpw : 2 ^ i < 256 := Nat.lt_of_le_of_lt (Nat.pow_le_pow_right (n := 2) (by decide) (show i ≤ 7 by omega)) (by decide)
      have hsh := i64_shl i (by omega)
      have hnot := i64_andNot s (2 ^ i) (by omega) hpw
      obtain ⟨hpr, hbx, M, hM, hfold⟩ := hh.out
      have hdrop : (List.range xs.length).drop i = i :: (List.range xs.length).drop (i + 1) := by rw [List.drop_eq_getElem_cons (by simpa using hlt), List.getElem_range]
      rw [hdrop, List.flatMap_cons, List.foldl_append] at hfold
      have hMw : ((signO xs s i).foldl (stepI xs (cellAt xs)) M).ways ≤ 10000000000000000 := by
       have := foldI_ways xs (cellAt xs) (((List.range xs.length).drop (i + 1)).flatMap (signO xs s)) ((signO xs s i).foldl (stepI xs (cellAt xs)) M)
       rw [hfold] at this
       exact Nat.le_trans this (ways_small G.out.few H0.out HS.out)
      obtain ⟨AL', cl', hvl, _, _, hsy⟩ := pSymbols_open hpr.syms
      rw [Value.slice.injEq] at hvl
      obtain ⟨rfl, -, rfl⟩ := hvl
      obtain ⟨bl, ol, rfl, hbl, hblF, z0, z1, z2, z3, z4, _⟩ := hsy i hlt
      obtain ⟨Y, hY⟩ : ∃ Y, sbox xs i = Y := ⟨_, rfl⟩
      have hYb : boxOf xs[i] = Y := by rw [← hY]; exact (sbox_at hlt).symm
      have ex1 : xs[i].x1 = Y.x1 := by rw [← hYb]; rfl
      have ex2 : xs[i].y1 = Y.y1 := by rw [← hYb]; rfl
      have ex3 : xs[i].x2 = Y.x2 := by rw [← hYb]; rfl
      have ex4 : xs[i].y2 = Y.y2 := by rw [← hYb]; rfl
      rw [ex1] at z1
      rw [ex2] at z2
      rw [ex3] at z3
      rw [ex4] at z4
      have hsg : signO xs s i = if s.testBit i = true then (if (xs[i]'hlt).label = minus1 then (subsD (s ^^^ 2 ^ i)).map fun a => ⟨2, i, a, (s ^^^ 2 ^ i) ^^^ a⟩ else if (xs[i]'hlt).label = root1 then [⟨5, i, s ^^^ 2 ^ i, 0⟩] else []) else [] := by
       unfold signO; rw [symAt_atP hlt]
      have hlab : (symAt xs i).label = (xs[i]'hlt).label := by rw [symAt_atP hlt]
      generalize hL : (xs[i]'hlt).label = L at z0 hsg hlab
      have HY := Lib.hid hY
      have h5 := hpr.alloc (.cells #[.string L, .int .i64 Y.x1, .int .i64 Y.y1, .int .i64 Y.x2, .int .i64 Y.y2] 50)
      have RY := Row.new wr 50 #[.string L, .int .i64 Y.x1, .int .i64 Y.y1, .int .i64 Y.x2, .int .i64 Y.y2]
      have on5 := on.out.alloc (.cells #[.string L, .int .i64 Y.x1, .int .i64 Y.y1, .int .i64 Y.x2, .int .i64 Y.y2] 50)
      have hl5 := hpr.row.lt
      have hb5 := hpr.best.lt
      have hc5 := hpr.count.lt
      clear hY hYb ex1 ex2 ex3 ex4 hsy hh hL hdrop hpr
      have y50 := on
      clear on
      cases hbit : s.testBit i with
      | false =>
        have hand : s &&& 2 ^ i = 0 := by rw [and_pow, hbit]; rfl
        rw [hand, Nat.xor_zero] at hnot
        rw [hbit] at hsg
        simp only [Bool.false_eq_true, if_false] at hsg
        rw [hsg] at hfold
        have HX5 := Lib.hid (show Prs e ob xs (.slice (some ⟨bl, ol, none⟩) xs.length cl) Fl gp gb gt gn N (updF K s k') _ ∧ k'.box = X ∧ ∃ M, RcIs k' M ∧ (((List.range xs.length).drop (i + 1)).flatMap (signO xs s)).foldl (stepI xs (cellAt xs)) M = cellAt xs s from ⟨h5, hbx, M, hM, hfold⟩)
        have ON5 := Lib.hid on5
        obtain ⟨P2, hP2⟩ : ∃ p, 2 ^ i = p := ⟨_, rfl⟩
        rw [hP2] at hsh hnot
        clear hP2 hand hbit hsg hfold hMw hM h5 on5 RY hlab hbx
        go_wp2_with fail
        go_roundw
        case rel => exact ⟨i + 1, k', by go_num, by omega, HX5, ON5⟩
        case measure => simp [intOf]; omega
      | true =>
        have hand : s &&& 2 ^ i = 2 ^ i := by rw [and_pow, hbit]; rfl
        rw [hand] at hnot
        rw [hbit, if_pos rfl] at hsg
        have hps : s ^^^ 2 ^ i ≠ s := fun h => by
         have := congrArg (fun x => x.testBit i) h
         simp [Nat.testBit_xor, hbit, Nat.testBit_two_pow_self] at this
        have hbits : ∀ j, (s ^^^ 2 ^ i).testBit j = true ↔ s.testBit j = true ∧ j ≠ i := fun j => xor_bit hbit j
        have hp0 : 0 < s ^^^ 2 ^ i := Nat.pos_of_ne_zero (fun h0 => H1.out (rest_zero hbit h0))
        have hps2 : s ^^^ 2 ^ i < s := bits_lt (fun j hj => ((hbits j).1 hj).1) (fun e => by have := (hbits i).1 (by rw [e]; exact hbit); exact this.2 rfl)
        obtain ⟨p, hp⟩ : ∃ p, s ^^^ 2 ^ i = p := ⟨_, rfl⟩
        have HP := Lib.hid hp
        rw [hp] at hnot hps hp0 hps2 hsg
        obtain ⟨P2, hP2⟩ : ∃ p, 2 ^ i = p := ⟨_, rfl⟩
        rw [hP2] at hsh hnot
        have y0 : ((p : Int) == (s : Int)) = false := by simp only [beq_eq_false_iff_ne]; omega
        have HBT := Lib.hid hbit
        have CL2 : Hid (∀ w : World, Calls Try.prog 39 #[.int .i64 2] w fun e w' => e = .returned (.string ⟨#[45]⟩) ∧ w' = w) := Lib.hid (impl_signOf_c 2)
        have CL5 : Hid (∀ w : World, Calls Try.prog 39 #[.int .i64 5] w fun e w' => e = .returned (.string ⟨#[114]⟩) ∧ w' = w) := Lib.hid (impl_signOf_c 5)
        have HBY2 : (minus1 : ByteArray).toList = ([45] : List UInt8) := by unfold minus1; simp
        have HBY5 : (root1 : ByteArray).toList = ([114] : List UInt8) := by unfold root1; simp
        have hha : hasS xs s i L = true := by unfold hasS; rw [hlab, hbit]; simp
        have HHA := Lib.hid hha
        clear hP2 hand hbit hp hps hlab hbits hha
        go_upto_region 7 with fail
        generalize hw6 : wr.alloc (.cells #[.string L, .int .i64 Y.x1, .int .i64 Y.y1, .int .i64 Y.x2, .int .i64 Y.y2] 50) = w6 at h5 RY on5 ⊢
        generalize hbs : wr.heap.size = bs at RY hl5 hb5 hc5
        have r0 := RY.c0
        have r1 := RY.c1
        have r2 := RY.c2
        have r3 := RY.c3
        have r4 := RY.c4
        clear hw6 z0 z1 z2 z3 z4
        by_cases hm : L = minus1
        · subst hm
          have y1 : (minus1.toList == ([45] : List UInt8)) = true := by rw [HBY2]; rfl
          rw [if_pos rfl] at hsg
          rw [hsg] at hMw hfold
          rw [← list_one i p] at hMw hfold
          have ho : ∀ a ∈ subs p, ∀ k ∈ ([2] : List Int), IsOpt xs s ⟨k, i, a, p ^^^ a⟩ := fun a ha k hk => .inr (.inl ⟨by simpa using hk, HHA.out, by rw [HP.out]; exact ha, by rw [HP.out]⟩)
          have hsb : ∀ a, ∀ k ∈ ([2] : List Int), handS xs ⟨k, i, a, p ^^^ a⟩ = Y := fun a k hk => by
           unfold handS; rw [if_pos (.inl (by simpa using hk))]; exact HY.out
          have hk2 := kinds_rep (w := w6) (e := 2) [2] (by intro k hk; simp at hk; unfold I64; omega) (by simp)
          have hl6 := h5.row.lt
          have hb6 := h5.best.lt
          have hc6 := h5.count.lt
          have hy6 := RY.lt
          have CS := impl_psplit_c (SB := Y) (bx := X) (m := M) [2] i p _ (h5.alloc (.cells (([2] : List Int).map (Value.int .i64)).toArray 2)) hk2 ⟨by simp; omega, by simp; omega⟩ (by simp) G.out hs H0.out H1.out HK.out hM hbx hp0 (Nat.lt_trans hps2 hs) ho hsb hMw
          have HCS := Lib.hid CS
          have HF := Lib.hid hfold
          have ON6 := Lib.hid (on5.alloc (.cells (([2] : List Int).map (Value.int .i64)).toArray 2))
          clear CS hfold hMw hM hsg ho hsb hk2 h5 on5 RY hbx
          go_wp2_with fail
          refine (CL2.out _).mono ?_
          rintro en wx ⟨rfl, rfl⟩
          go_wp2_with fail
          refine HCS.out.mono ?_
          rintro en w7 ⟨rfl, on7, k7, hc7, hi7, hb7⟩
          have X7 := Lib.hid (show Prs e ob xs (.slice (some ⟨bl, ol, none⟩) xs.length cl) Fl gp gb gt gn N (updF K s k7) w7 ∧ k7.box = X ∧ ∃ M, RcIs k7 M ∧ (((List.range xs.length).drop (i + 1)).flatMap (signO xs s)).foldl (stepI xs (cellAt xs)) M = cellAt xs s from ⟨hc7, hb7, _, hi7, HF.out⟩)
          have ON7 := Lib.hid (ON6.out.trans (on7.mono (by simp)))
          clear hc7 hi7 hb7 on7
          go_wp2_with fail
          go_roundw
          case rel => exact ⟨i + 1, k7, by go_num, by omega, X7, ON7⟩
          case measure => simp [intOf]; omega
        · have y1 : (L.toList == ([45] : List UInt8)) = false := by rw [← HBY2, str_eq]; simpa using hm
          rw [if_neg hm] at hsg
          by_cases hr : L = root1
          · have y2 : (L.toList == ([114] : List UInt8)) = true := by rw [hr, HBY5]; rfl
            rw [if_pos hr] at hsg
            have HHR : Hid (hasS xs s i root1 = true) := by rw [← hr]; exact HHA
            rw [hsg] at hMw hfold
            simp only [List.foldl_cons, List.foldl_nil] at hMw hfold
            have hsb : handS xs ⟨5, i, p, 0⟩ = Y := by unfold handS; rw [if_pos (.inr rfl)]; exact HY.out
            have CS := impl_ptry_c (bx := X) (m := M) ⟨5, i, p, 0⟩ 0 w6 h5 G.out hs H0.out H1.out (.inr (.inr ⟨rfl, HHR.out, HP.out.symm, rfl⟩)) HK.out hM hbx (Nat.le_trans (stepI_ways xs (cellAt xs) _ _) hMw)
            rw [hsb] at CS
            have CS' : Calls Try.prog 70 #[.pointer (some ⟨gp, 0, none⟩), .int .i64 (s : Int), .agg #[.int .i64 5, .int .i64 (i : Int), .int .i64 (p : Int), .int .i64 0, .int .i64 0], .agg #[.int .i64 Y.x1, .int .i64 Y.y1, .int .i64 Y.x2, .int .i64 Y.y2]] w6 (FilPostI e ob xs (.slice (some ⟨bl, ol, none⟩) xs.length cl) Fl gp gb gt gn N K s X (stepI xs (cellAt xs) M ⟨5, i, p, 0⟩) w6) := CS
            have HCS := Lib.hid CS'
            have HF := Lib.hid hfold
            have ON6 := Lib.hid on5
            clear CS CS' hfold hMw hM hsg hsb h5 on5 RY hbx hr hm
            go_wp2_with fail
            refine (CL2.out _).mono ?_
            rintro en wx ⟨rfl, rfl⟩
            go_wp2_with fail
            refine (CL5.out _).mono ?_
            rintro en wx ⟨rfl, rfl⟩
            go_wp2_with fail
            refine HCS.out.mono ?_
            rintro en w7 ⟨rfl, on7, k7, hc7, hi7, hb7⟩
            have X7 := Lib.hid (show Prs e ob xs (.slice (some ⟨bl, ol, none⟩) xs.length cl) Fl gp gb gt gn N (updF K s k7) w7 ∧ k7.box = X ∧ ∃ M, RcIs k7 M ∧ (((List.range xs.length).drop (i + 1)).flatMap (signO xs s)).foldl (stepI xs (cellAt xs)) M = cellAt xs s from ⟨hc7, hb7, _, hi7, HF.out⟩)
            have ON7 := Lib.hid (ON6.out.trans (on7.mono (by simp)))
            clear hc7 hi7 hb7 on7
            go_wp2_with fail
            go_roundw
            case rel => exact ⟨i + 1, k7, by go_num, by omega, X7, ON7⟩
            case measure => simp [intOf]; omega
          · have y2 : (L.toList == ([114] : List UInt8)) = false := by rw [← HBY5, str_eq]; simpa using hr
            rw [if_neg hr] at hsg
            rw [hsg] at hfold
            have HX5 := Lib.hid (show Prs e ob xs (.slice (some ⟨bl, ol, none⟩) xs.length cl) Fl gp gb gt gn N (updF K s k') w6 ∧ k'.box = X ∧ ∃ M, RcIs k' M ∧ (((List.range xs.length).drop (i + 1)).flatMap (signO xs s)).foldl (stepI xs (cellAt xs)) M = cellAt xs s from ⟨h5, hbx, M, hM, hfold⟩)
            have ON5 := Lib.hid on5
            clear hsg hfold hMw hM h5 on5 RY hbx hr hm
            go_wp2_with fail
            refine (CL2.out _).mono ?_
            rintro en wx ⟨rfl, rfl⟩
            go_wp2_with fail
            refine (CL5.out _).mono ?_
            rintro en wx ⟨rfl, rfl⟩
            go_wp2_with fail
            go_roundw
            case rel => exact ⟨i + 1, k', by go_num, by omega, HX5, ON5⟩
            case measure => simp [intOf]; omega
    · obtain rfl : i = xs.length := by omega
      have g1 : ¬ ((xs.length : Int) < (xs.length : Int)) := by omega
      obtain ⟨hpr, hbx, M, hM, hfold⟩ := hh.out
      have hd : (List.range xs.length).drop xs.length = [] := by rw [List.drop_eq_nil_iff]; simp
      rw [hd] at hfold
      have X7 := Lib.hid (show Prs e ob xs (.slice AL xs.length cl) Fl gp gb gt gn N (updF K s k') wr ∧ RcIs (fixS s k') (cellAt xs s) ∧ k'.box = boxS xs s from ⟨hpr, by unfold fixS; rw [if_neg H1.out, ← hfold]; exact hM, by rw [HX.out]; exact hbx⟩)
      clear hpr hbx hM hfold hd hh
      go_wp2_with fail
      refine bodyPost_end (v := .tuple #[]) (by simp [results, Try.results51, go_sem]) rfl ⟨rfl, on.out, k', X7.out⟩
theorem infoB : (Try.prog.info? 48).map (fun i => (i.zero, i.size, i.bytes)) = some (some (.agg #[.int .i64 0, .int .i64 0, .int .i64 0, .int .i64 0]), 4, 32) := by kernel_rfl
theorem infoT : (Try.prog.info? 65).map (fun i => (i.zero, i.size, i.bytes)) = some (some (.agg #[.int .i64 0, .int .i64 0, .int .i64 0, .int .i64 0, .int .i64 0]), 5, 40) := by kernel_rfl
theorem infoI6 : (Try.prog.info? 2).map (fun i => (i.zero, i.size, i.bytes)) = some (some (.int .i64 0), 1, 8) := by kernel_rfl
def mkB (N : Nat) : Obj := .cells (madeCells #[.int .i64 0, .int .i64 0, .int .i64 0, .int .i64 0] (N * 4)) 48
def mkT (N : Nat) : Obj := .cells (madeCells #[.int .i64 0, .int .i64 0, .int .i64 0, .int .i64 0, .int .i64 0] (N * 5)) 65
def mkI (N : Nat) : Obj := .cells (madeCells #[.int .i64 0] N) 2
theorem new_b (w : World) (N : Nat) : Row (w.alloc (mkB N)) w.heap.size 48 (rowF icBox (fun _ => rc0) N) := by
 have := Row.new w 48 (madeCells #[.int .i64 0, .int .i64 0, .int .i64 0, .int .i64 0] (N * 4))
 rwa [show (madeCells #[.int .i64 0, .int .i64 0, .int .i64 0, .int .i64 0] (N * 4)).toList = rowF icBox (fun _ => rc0) N from by rw [rowF_const]; exact madeCells_toList (icBox rc0) N (by decide)] at this
theorem new_t (w : World) (N : Nat) : Row (w.alloc (mkT N)) w.heap.size 65 (rowF icBest (fun _ => rc0) N) := by
 have := Row.new w 65 (madeCells #[.int .i64 0, .int .i64 0, .int .i64 0, .int .i64 0, .int .i64 0] (N * 5))
 rwa [show (madeCells #[.int .i64 0, .int .i64 0, .int .i64 0, .int .i64 0, .int .i64 0] (N * 5)).toList = rowF icBest (fun _ => rc0) N from by rw [rowF_const]; exact madeCells_toList (icBest rc0) N (by decide)] at this
theorem new_n (w : World) (N : Nat) : Row (w.alloc (mkI N)) w.heap.size 2 (rowF icN (fun _ => rc0) N) := by
 have := Row.new w 2 (madeCells #[.int .i64 0] N)
 rwa [show (madeCells #[.int .i64 0] N).toList = rowF icN (fun _ => rc0) N from by rw [rowF_const]; have := madeCells_toList (icN rc0) N (by decide); rwa [show N * (icN rc0).length = N from Nat.mul_one N] at this] at this
def NewPost (e : TypeId) (ob : Bool) (xs : List PSymbol) (vl : Value) (Fl : List Nat) (N : Nat) (w : World) (s4 : Value) (wx : World) : Prop :=
 ∃ gp gb gt gn, s4 = .pointer (some ⟨gp, 0, none⟩) ∧ Prs e ob xs vl Fl gp gb gt gn N (fun _ => rc0) wx ∧ Below w.heap.size w wx ∧ w.heap.size ≤ gp ∧ w.heap.size ≤ gb ∧ w.heap.size ≤ gt ∧ w.heap.size ≤ gn
theorem prs_new {e : TypeId} {ob : Bool} {xs : List PSymbol} {vl : Value} {Fl : List Nat} {N gb gt gn gp' gb' gt' gn' : Nat} {w W : World} (hFl : ∀ b ∈ Fl, b < w.heap.size) (rb : Row W gb 48 (rowF icBox (fun _ => rc0) N)) (rt : Row W gt 65 (rowF icBest (fun _ => rc0) N)) (rn : Row W gn 2 (rowF icN (fun _ => rc0) N)) (sy : (pSymbols e).rep ob W xs [vl] Fl) (hb : Below w.heap.size w W) (h1 : w.heap.size ≤ gb ∧ w.heap.size ≤ gt ∧ w.heap.size ≤ gn) (h2 : gb ≠ gt ∧ gb ≠ gn ∧ gt ≠ gn) (h3 : gp' = W.heap.size ∧ gb' = gb ∧ gt' = gt ∧ gn' = gn) :
 NewPost e ob xs vl Fl N w (.pointer (some ⟨gp', 0, none⟩)) (W.alloc (.cells #[vl, .slice (some ⟨gb', 0, none⟩) N N, .slice (some ⟨gt', 0, none⟩) N N, .slice (some ⟨gn', 0, none⟩) N N] 61)).drew := by
 obtain ⟨rfl, rfl, rfl, rfl⟩ := h3
 have l1 := rb.lt
 have l2 := rt.lt
 have l3 := rn.lt
 refine ⟨W.heap.size, gb', gt', gn', rfl, ⟨(Row.new W _ _).drew, (sy.alloc _).drew, (rb.alloc _).drew, (rt.alloc _).drew, (rn.alloc _).drew, ?_, fun b hb' => ?_⟩, (hb.alloc hb.size _).drew, hb.size, h1⟩
 · simp only [List.nodup_cons, List.mem_cons, List.not_mem_nil, or_false, not_or, List.nodup_nil, and_true, not_false_eq_true]
   omega
 · have := hFl b hb'
   have := hb.size
   simp only [List.mem_cons, List.not_mem_nil, or_false]
   omega
theorem fixK_zero (t : Nat) (h : t = 0) : fixK (fun _ => rc0) t = rc0 := by subst h; unfold fixK; rw [if_neg (by decide)]
theorem fix_next {xs : List PSymbol} {K : Nat → RC} {s : Nat} (h : RcOk xs (fixK K) s) (h0 : s ≠ 0) {k : RC} (hb : k.box = boxS xs s) (hi : RcIs (fixS s k) (cellAt xs s)) : RcOk xs (fixK (updF K s k)) (s + 1) := by
 have e : fixK (updF K s k) = updF (fixK K) s (fixS s k) := by
  funext t
  unfold fixK fixS
  by_cases ht : t = s
  · subst ht; simp only [updF_same]
  · simp only [updF_other _ _ ht]
 rw [e]
 refine h.next h0 ?_ hi
 unfold fixS; split <;> exact hb
def PrsPost (e : TypeId) (ob : Bool) (xs : List PSymbol) (vl : Value) (Fl : List Nat) (N : Nat) (w : World) (en : Ending) (w' : World) : Prop :=
 ∃ gp gb gt gn K, en = .returned (.pointer (some ⟨gp, 0, none⟩)) ∧ Prs e ob xs vl Fl gp gb gt gn N K w' ∧ RcOk xs (fixK K) N ∧ K 0 = rc0 ∧ Below w.heap.size w w' ∧ w.heap.size ≤ gp ∧ w.heap.size ≤ gb ∧ w.heap.size ≤ gt ∧ w.heap.size ≤ gn
set_option maxRecDepth 100000 in
set_option maxHeartbeats 8000000 in
theorem impl_solved_c {e : TypeId} {ob : Bool} {xs : List PSymbol} {vl : Value} {Fl : List Nat} {N : Nat} (w : World) (h : (pSymbols e).rep ob w xs [vl] Fl) (g : Grd xs N) :
 Calls Try.prog 30 #[vl] w (PrsPost e ob xs vl Fl N w) := by
 have hN := g.le
 have hn8 := g.few
 have hN1 : 1 ≤ N := by rw [g.size]; exact Nat.one_le_two_pow
 have hsh := i64_shl xs.length (by omega)
 rw [← g.size] at hsh
 have n64 : (xs.length : Int) ≤ 64 := by omega
 have hm1 := make_run (P := Try.prog) (t := 38) (e := 48) Try.underlying38 infoB N (N : Int) rfl (by omega) (by unfold maxLen; omega)
 have hm2 := make_run (P := Try.prog) (t := 59) (e := 65) Try.underlying59 infoT N (N : Int) rfl (by omega) (by unfold maxLen; omega)
 have hm3 := make_run (P := Try.prog) (t := 41) (e := 2) Try.underlying41 infoI6 N (N : Int) rfl (by omega) (by unfold maxLen; omega)
 have G := Lib.hid g
 have hFl : ∀ b ∈ Fl, b < w.heap.size := fun b hb => (pSymbols e).lt h b hb
 have H := Lib.hid h
 obtain ⟨AL, cl, rfl⟩ := slice_len h
 clear h g
 go_enter Try.func30, Try.ntmps30
 go_upto_region 2 with fail
 go_cut [4] from 9 to 17 (fun s4 wx => NewPost e ob xs (.slice AL xs.length cl) Fl N w s4 wx)
 case first =>
  have hS := trivial
  refine wp_region_held_drew (S := fun _ => True) (by kernel_rfl) trivial (fun _ => ?_)
  refine tJ 0 hS ?_
  refine tJ 1 hS ?_
  refine tJ 3 hS ?_
  refine tJ 5 hS ?_
  refine wpAnyH_ready (rs := [2, 4, 6]) (by kernel_rfl) (by simp) ?_
  refine aJ (fun K hK => ?_) (aJ (fun K hK => ?_) (aJ (fun K hK => ?_) .nil))
  · skip
    go_simp
    refine hK.out _ _ trivial (fun _ => ?_)
    clear hK K
    refine wpAnyH_ready (rs := [4, 6]) (by kernel_rfl) (by simp) ?_
    refine aJ (fun K hK => ?_) (aJ (fun K hK => ?_) .nil)
    · skip
      go_simp
      refine hK.out _ _ trivial (fun _ => ?_)
      clear hK K
      refine rJ 6 fun K hK => ?_
      go_simp
      refine hK.out _ _ trivial (fun _ => ?_)
      clear hK K
      refine tJ 7 hS ?_
      refine rJ 8 fun K hK => ?_
      go_simp
      refine hK.out _ _ trivial (fun _ => ?_)
      clear hK K
      refine tJ 9 hS ?_
      refine wpAnyH_done (by kernel_rfl) ?_ _
      go_wp2_with fail
      go_meet
      refine prs_new hFl (((new_b w N).alloc (mkT N)).alloc (mkI N)) ((new_t (w.alloc (mkB N)) N).alloc (mkI N)) (new_n ((w.alloc (mkB N)).alloc (mkT N)) N) (((H.out.alloc (mkB N)).alloc (mkT N)).alloc (mkI N)) (((Below.refl _ _).alloc (Nat.le_refl _) _).alloc (by simp) _ |>.alloc (by simp; omega) _) (by simp; omega) (by simp; omega) (by simp)
    · skip
      go_simp
      refine hK.out _ _ trivial (fun _ => ?_)
      clear hK K
      refine rJ 4 fun K hK => ?_
      go_simp
      refine hK.out _ _ trivial (fun _ => ?_)
      clear hK K
      refine tJ 7 hS ?_
      refine rJ 8 fun K hK => ?_
      go_simp
      refine hK.out _ _ trivial (fun _ => ?_)
      clear hK K
      refine tJ 9 hS ?_
      refine wpAnyH_done (by kernel_rfl) ?_ _
      go_wp2_with fail
      go_meet
      refine prs_new hFl (((new_b w N).alloc (mkI N)).alloc (mkT N)) (new_t ((w.alloc (mkB N)).alloc (mkI N)) N) ((new_n (w.alloc (mkB N)) N).alloc (mkT N)) (((H.out.alloc (mkB N)).alloc (mkI N)).alloc (mkT N)) (((Below.refl _ _).alloc (Nat.le_refl _) _).alloc (by simp) _ |>.alloc (by simp; omega) _) (by simp; omega) (by simp; omega) (by simp)
  · skip
    go_simp
    refine hK.out _ _ trivial (fun _ => ?_)
    clear hK K
    refine wpAnyH_ready (rs := [2, 6]) (by kernel_rfl) (by simp) ?_
    refine aJ (fun K hK => ?_) (aJ (fun K hK => ?_) .nil)
    · skip
      go_simp
      refine hK.out _ _ trivial (fun _ => ?_)
      clear hK K
      refine rJ 6 fun K hK => ?_
      go_simp
      refine hK.out _ _ trivial (fun _ => ?_)
      clear hK K
      refine tJ 7 hS ?_
      refine rJ 8 fun K hK => ?_
      go_simp
      refine hK.out _ _ trivial (fun _ => ?_)
      clear hK K
      refine tJ 9 hS ?_
      refine wpAnyH_done (by kernel_rfl) ?_ _
      go_wp2_with fail
      go_meet
      refine prs_new hFl ((new_b (w.alloc (mkT N)) N).alloc (mkI N)) (((new_t w N).alloc (mkB N)).alloc (mkI N)) (new_n ((w.alloc (mkT N)).alloc (mkB N)) N) (((H.out.alloc (mkT N)).alloc (mkB N)).alloc (mkI N)) (((Below.refl _ _).alloc (Nat.le_refl _) _).alloc (by simp) _ |>.alloc (by simp; omega) _) (by simp; omega) (by simp; omega) (by simp)
    · skip
      go_simp
      refine hK.out _ _ trivial (fun _ => ?_)
      clear hK K
      refine rJ 2 fun K hK => ?_
      go_simp
      refine hK.out _ _ trivial (fun _ => ?_)
      clear hK K
      refine tJ 7 hS ?_
      refine rJ 8 fun K hK => ?_
      go_simp
      refine hK.out _ _ trivial (fun _ => ?_)
      clear hK K
      refine tJ 9 hS ?_
      refine wpAnyH_done (by kernel_rfl) ?_ _
      go_wp2_with fail
      go_meet
      refine prs_new hFl (new_b ((w.alloc (mkT N)).alloc (mkI N)) N) (((new_t w N).alloc (mkI N)).alloc (mkB N)) ((new_n (w.alloc (mkT N)) N).alloc (mkB N)) (((H.out.alloc (mkT N)).alloc (mkI N)).alloc (mkB N)) (((Below.refl _ _).alloc (Nat.le_refl _) _).alloc (by simp) _ |>.alloc (by simp; omega) _) (by simp; omega) (by simp; omega) (by simp)
  · skip
    go_simp
    refine hK.out _ _ trivial (fun _ => ?_)
    clear hK K
    refine wpAnyH_ready (rs := [2, 4]) (by kernel_rfl) (by simp) ?_
    refine aJ (fun K hK => ?_) (aJ (fun K hK => ?_) .nil)
    · skip
      go_simp
      refine hK.out _ _ trivial (fun _ => ?_)
      clear hK K
      refine rJ 4 fun K hK => ?_
      go_simp
      refine hK.out _ _ trivial (fun _ => ?_)
      clear hK K
      refine tJ 7 hS ?_
      refine rJ 8 fun K hK => ?_
      go_simp
      refine hK.out _ _ trivial (fun _ => ?_)
      clear hK K
      refine tJ 9 hS ?_
      refine wpAnyH_done (by kernel_rfl) ?_ _
      go_wp2_with fail
      go_meet
      refine prs_new hFl ((new_b (w.alloc (mkI N)) N).alloc (mkT N)) (new_t ((w.alloc (mkI N)).alloc (mkB N)) N) (((new_n w N).alloc (mkB N)).alloc (mkT N)) (((H.out.alloc (mkI N)).alloc (mkB N)).alloc (mkT N)) (((Below.refl _ _).alloc (Nat.le_refl _) _).alloc (by simp) _ |>.alloc (by simp; omega) _) (by simp; omega) (by simp; omega) (by simp)
    · skip
      go_simp
      refine hK.out _ _ trivial (fun _ => ?_)
      clear hK K
      refine rJ 2 fun K hK => ?_
      go_simp
      refine hK.out _ _ trivial (fun _ => ?_)
      clear hK K
      refine tJ 7 hS ?_
      refine rJ 8 fun K hK => ?_
      go_simp
      refine hK.out _ _ trivial (fun _ => ?_)
      clear hK K
      refine tJ 9 hS ?_
      refine wpAnyH_done (by kernel_rfl) ?_ _
      go_wp2_with fail
      go_meet
      refine prs_new hFl (new_b ((w.alloc (mkI N)).alloc (mkT N)) N) ((new_t (w.alloc (mkI N)) N).alloc (mkB N)) (((new_n w N).alloc (mkT N)).alloc (mkB N)) (((H.out.alloc (mkI N)).alloc (mkT N)).alloc (mkB N)) (((Below.refl _ _).alloc (Nat.le_refl _) _).alloc (by simp) _ |>.alloc (by simp; omega) _) (by simp; omega) (by simp; omega) (by simp)
 case rest =>
  obtain ⟨w1, hw1⟩ : ∃ W, W = wc := ⟨_, rfl⟩
  subst hw1
  obtain ⟨gp, gb, gt, gn, rfl, hpr, hb0, l1, l2, l3, l4⟩ := hcut
  have HC0 := Lib.hid (show Prs e ob xs (.slice AL xs.length cl) Fl gp gb gt gn N (fun _ => rc0) w1 ∧ RcOk xs (fixK (fun _ => rc0)) 1 ∧ (fun _ => rc0) 0 = rc0 ∧ ∀ t, 1 ≤ t → (fun _ => rc0) t = rc0 from ⟨hpr, ⟨fixK_zero 0 rfl, fun t h1 h2 => by omega, fun t h1 h2 => by omega⟩, rfl, fun _ _ => rfl⟩)
  clear hpr hm1 hm2 hm3
  go_wp2_with fail
  go_loopw [5] (fun sv wr => ∃ (s : Nat) (K : Nat → RC), sv = .int .i64 (s : Int) ∧ 1 ≤ s ∧ s ≤ N ∧ Hid (Prs e ob xs (.slice AL xs.length cl) Fl gp gb gt gn N K wr ∧ RcOk xs (fixK K) s ∧ K 0 = rc0 ∧ ∀ t, s ≤ t → K t = rc0) ∧ Below w.heap.size w wr) (fun sv _ => N - (intOf sv).toNat)
  case atStart => exact ⟨1, fun _ => rc0, rfl, Nat.le_refl _, hN1, Lib.hid ⟨HC0.out.1, HC0.out.2.1, rfl, fun _ _ => rfl⟩, hb0⟩
  case round =>
   obtain ⟨s, K, rfl, hs1, hsN, hh, hb⟩ := hrel
   by_cases hlt : s < N
   · have g1 : (s : Int) < (N : Int) := by omega
     have kw := IntWalk.i64_in ((s : Int) + 1) (by omega)
     have CF := Lib.hid (impl_psolve_c wr hh.out.1 G.out hlt (by omega) hh.out.2.1 (hh.out.2.2.2 s (Nat.le_refl _)))
     go_wp2_with fail
     refine CF.out.mono ?_
     rintro en w2 ⟨rfl, on2, k2, hc2, hi2, hb2⟩
     have X := Lib.hid (show Prs e ob xs (.slice AL xs.length cl) Fl gp gb gt gn N (updF K s k2) w2 ∧ RcOk xs (fixK (updF K s k2)) (s + 1) ∧ updF K s k2 0 = rc0 ∧ ∀ t, s + 1 ≤ t → updF K s k2 t = rc0 from ⟨hc2, fix_next hh.out.2.1 (by omega) hb2 hi2, by rw [updF_other K k2 (by omega)]; exact hh.out.2.2.1, fun t ht => by rw [updF_other K k2 (by omega)]; exact hh.out.2.2.2 t (by omega)⟩)
     have B2 := Lib.hid (hb.trans (on2.below hb.size (by intro x hx; simp only [List.mem_cons, List.not_mem_nil, or_false] at hx; omega)))
     clear hc2 hi2 hb2 on2
     go_wp2_with fail
     go_roundw
     case rel => exact ⟨s + 1, _, by go_num, by omega, by omega, X, B2.out⟩
     case measure => simp [intOf]; omega
   · obtain rfl : s = N := by omega
     have g1 : ¬ ((s : Int) < (s : Int)) := by omega
     go_wp2_with fail
     go_ret
     exact ⟨gp, gb, gt, gn, K, rfl, hh.out.1, hh.out.2.1, hh.out.2.2.1, hb, l1, l2, l3, l4⟩
end Go.Proofs.Ytmopioaojdlnkaa
