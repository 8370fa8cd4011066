/- The reference's chart: signs. Conditions: none. -/
import Derived.Test.YtmopioaojdlnkaaTkt
import Derived.Test.YtmopioaojdlnkaaPsFt
namespace Go.Proofs.Ytmopioaojdlnkaa
open Go Go.RowKit
theorem wayN {xs : List PSymbol} {c : Nat → Cell} {f : Nat → List Opt} {m : Cell} {i n : Nat} (h : i < n) : ((f i).foldl (stepO xs c) (((List.range i).flatMap f).foldl (stepO xs c) m)).ways ≤ (((List.range n).flatMap f).foldl (stepO xs c) m).ways := by
 obtain ⟨d, rfl⟩ : ∃ d, n = i + 1 + d := ⟨n - i - 1, by omega⟩
 clear h
 induction d with
 | zero => rw [Nat.add_zero, List.range_succ, List.flatMap_append, List.foldl_append]; simp
 | succ d ih =>
   refine Nat.le_trans ih ?_
   show _ ≤ (((List.range ((i + 1 + d) + 1)).flatMap f).foldl (stepO xs c) m).ways
   rw [List.range_succ (n := i + 1 + d), List.flatMap_append, List.foldl_append]
   exact foldO_ways xs c _ _
theorem xor_bit {s i : Nat} (h : s.testBit i = true) (j : Nat) : (s ^^^ 2 ^ i).testBit j = true ↔ s.testBit j = true ∧ j ≠ i := by
 rw [Nat.testBit_xor, Nat.testBit_two_pow]
 by_cases e : i = j
 · subst e; simp [h]
 · simp [e, Ne.symm e]
theorem rest_zero {s i : Nat} (h : s.testBit i = true) (h0 : s ^^^ 2 ^ i = 0) : s = 2 ^ s.log2 := by
 have : s = 2 ^ i := by
  apply Nat.eq_of_testBit_eq
  intro j
  have h1 := xor_bit h j
  rw [h0] at h1
  rw [Nat.testBit_two_pow]
  by_cases e : i = j
  · subst e; simp [h]
  · simp only [e, decide_false]
    simp at h1
    cases hj : s.testBit j with
    | false => rfl
    | true => exact absurd (h1 hj).symm e
 exact single_log this
set_option maxRecDepth 100000 in
set_option maxHeartbeats 4000000 in
theorem spec_csigns2_c {e : TypeId} {ob : Bool} {xs : List PSymbol} {vl : Value} {Fl : List Nat} {gp gc N : Nat} {K : Nat → RC} {s : Nat} {bx : PBox} {m : Cell} {k : RC} (w : World) (h : Cht e ob xs vl Fl gp gc N (updF K s k) w) (g : Grd xs N) (hs : s < N) (h0 : s ≠ 0) (h1 : s ≠ 2 ^ s.log2) (hk : RcOk xs K s) (hm : RcIs k m) (hbx : k.box = bx) (hmw : ((overO xs s).foldl (stepO xs (cellAt xs)) m).ways ≤ 10000000000000000) :
 Calls Try.prog 73 #[.pointer (some ⟨gp, 0, none⟩), .int .i64 (s : Int), .int .i64 2] w (FilPost e ob xs vl Fl gp gc N K s bx ((overO xs s).foldl (stepO xs (cellAt xs)) m) w) := by
 have G := Lib.hid g
 have H1 := Lib.hid h1
 have HK := Lib.hid hk
 have HW := Lib.hid hmw
 obtain ⟨AL, cl, rfl⟩ := slice_len h.syms
 have HH := Lib.hid (show Cht e ob xs (.slice AL xs.length cl) Fl gp gc N (updF K s k) w ∧ RcIs k m ∧ k.box = bx from ⟨h, hm, hbx⟩)
 have p0 := h.row.c0
 have hN := g.le
 have H0 := Lib.hid h0
 have hn8 := g.few
 have CL : ∀ w : World, Calls Try.prog 40 #[.int .i64 2] w fun e w' => e = .returned (.string ⟨#[45]⟩) ∧ w' = w := fun w => spec_l21Label_c 2 w
 have CL := Lib.hid CL
 have HBY : Hid ((minus1 : ByteArray).toList = ([45] : List UInt8)) := Lib.hid (by unfold minus1; simp)
 clear g h1 hk hmw h hm hbx h0 p0
 go_enter Try.func73, Try.ntmps73
 go_wp2_with fail
 go_loopw [6] (fun f wr => ∃ (i : Nat) (k' : RC), f = .int .i64 i ∧ i ≤ xs.length ∧ Hid (Cht e ob xs (.slice AL xs.length cl) Fl gp gc N (updF K s k') wr ∧ RcIs k' (((List.range i).flatMap (fun i => if hasS xs s i minus1 then splitO 2 i (s ^^^ 2 ^ i) else [])).foldl (stepO xs (cellAt xs)) m) ∧ k'.box = bx) ∧ Only [gc] w wr) (fun f _ => xs.length - (intOf f).toNat)
 case atStart => exact ⟨0, k, rfl, Nat.zero_le _, HH, Only.refl _ _⟩
 case round =>
  obtain ⟨i, k', rfl, hi, hh, on⟩ := hrel
  have p0 := hh.out.1.row.c0
  by_cases hlt : i < xs.length
  · have g1 : (i : Int) < (xs.length : Int) := by omega
    have i0 : (0 : Int) ≤ (i : Int) := by omega
    have i64 : (i : Int) ≤ 64 := by omega
    have kw := IntWalk.i64_in ((i : Int) + 1) (by omega)
    have hpw : 2 ^ i < 256 := Nat.lt_of_le_of_lt (Nat.pow_le_pow_right (n := 2) (by decide) (show i ≤ 7 by omega)) (by decide)
    have hsh := i64_shl i (by omega)
    have hnot := i64_andNot s (2 ^ i) (by omega) hpw
    have hpre : ((List.range (i + 1)).flatMap (fun i => if hasS xs s i minus1 then splitO 2 i (s ^^^ 2 ^ i) else [])) = ((List.range i).flatMap (fun i => if hasS xs s i minus1 then splitO 2 i (s ^^^ 2 ^ i) else [])) ++ (fun i => if hasS xs s i minus1 then splitO 2 i (s ^^^ 2 ^ i) else []) i := by rw [List.range_succ, List.flatMap_append]; simp
    have HPRE := Lib.hid hpre
    have hbase : (fun i => if hasS xs s i minus1 then splitO 2 i (s ^^^ 2 ^ i) else []) i = if hasS xs s i minus1 then splitO 2 i (s ^^^ 2 ^ i) else [] := rfl
    rw [hbase] at HPRE
    clear hbase hpre
    cases hbit : s.testBit i with
    | false =>
      have hand : s &&& 2 ^ i = 0 := by rw [and_pow, hbit]; rfl
      rw [hand, Nat.xor_zero] at hnot
      have hno : hasS xs s i minus1 = false := by unfold hasS; rw [hbit]; rfl
      rw [hno] at HPRE
      obtain ⟨P2, hP2⟩ : ∃ p, 2 ^ i = p := ⟨_, rfl⟩
      rw [hP2] at hsh hnot
      clear hP2 hand hno hbit
      go_upto_region 4 with fail
      refine wp_region_held_drew (S := fun _ => True) (by kernel_rfl) trivial (fun hS => ?_)
      have hS := trivial
      refine tJ 0 hS ?_
      refine tJ 1 hS ?_
      refine tJ 2 hS ?_
      refine tJ 3 hS ?_
      refine tJ0 4 hS ?_
      refine tJ0 5 hS ?_
      refine tJ0 6 hS ?_
      refine tJ0 7 hS ?_
      refine tJ0 8 hS ?_
      refine tJ0 9 hS ?_
      refine tJ0 10 hS ?_
      refine tJ0 11 hS ?_
      refine tJ0 12 hS ?_
      refine tJ0 13 hS ?_
      refine tJ0 14 hS ?_
      refine tJ 15 hS ?_
      refine wpAnyH_done (by kernel_rfl) ?_ _
      go_wp2_with fail
      go_roundw
      case rel => exact ⟨i + 1, k', by go_num, by omega, Lib.hid ⟨hh.out.1.drew, by rw [HPRE.out]; simpa using hh.out.2.1, hh.out.2.2⟩, on.drew⟩
      case measure => simp [intOf]; omega
    | true =>
      have hand : s &&& 2 ^ i = 2 ^ i := by rw [and_pow, hbit]; rfl
      rw [hand] at hnot
      have hyes : hasS xs s i minus1 = decide (xs[i].label = minus1) := by unfold hasS symAt; rw [hbit, Int.toNat_natCast, List.getD_eq_getElem?_getD, List.getElem?_eq_getElem hlt]; rfl
      rw [hyes] at HPRE
      have hps : s ^^^ 2 ^ i ≠ s := fun h => by
       have := congrArg (fun x => x.testBit i) h
       simp [Nat.testBit_xor, hbit, Nat.testBit_two_pow_self] at this
      obtain ⟨AL', cl', hvl, _, _, hsy⟩ := pSymbols_open hh.out.1.syms
      rw [Value.slice.injEq] at hvl
      obtain ⟨rfl, -, rfl⟩ := hvl
      obtain ⟨bl, ol, rfl, hbl, hblF, z0, -, -, -, -, _⟩ := hsy i hlt
      have HB := Lib.hid hbit
      have HIL := Lib.hid hlt
      obtain ⟨p, hp⟩ : ∃ p, s ^^^ 2 ^ i = p := ⟨_, rfl⟩
      have HP := Lib.hid hp
      have HY := Lib.hid hyes
      rw [hp] at hnot hps
      obtain ⟨P2, hP2⟩ : ∃ p, 2 ^ i = p := ⟨_, rfl⟩
      rw [hP2] at hsh hnot
      have y0 : ((p : Int) == (s : Int)) = false := by simp only [beq_eq_false_iff_ne]; omega
      generalize hL : (xs[i]'hlt).label = L at z0 HPRE HY
      clear hP2 hand hbit hsy hyes hp hL hps
      by_cases hl : L = minus1
      · have y1 : (L.toList == ([45] : List UInt8)) = true := by rw [hl, HBY.out]; rfl
        have HL := Lib.hid hl
        clear hl
        go_upto_region 4 with fail
        have hS : (fun w' : World => w'.cell? ⟨gp, 0, none⟩ = some (.slice (some ⟨bl, ol, none⟩) xs.length cl) ∧ w'.cell? ⟨bl, ol + i * 5, none⟩ = some (.string L)) wr.drew := ⟨p0, z0⟩
        dsimp only at hS
        refine wp_region_held_drew (S := (fun w' : World => w'.cell? ⟨gp, 0, none⟩ = some (.slice (some ⟨bl, ol, none⟩) xs.length cl) ∧ w'.cell? ⟨bl, ol + i * 5, none⟩ = some (.string L))) (by kernel_rfl) hS (fun _ => ?_)
        refine tJ 0 hS ?_
        refine tJ 1 hS ?_
        refine tJ 2 hS ?_
        refine tJ 3 hS ?_
        refine tJ 4 hS ?_
        refine tJ 5 hS ?_
        refine tJ 6 hS ?_
        refine tJ 7 hS ?_
        refine tJ 8 hS ?_
        refine tJ 9 hS ?_
        refine tJ 10 hS ?_
        refine tJ 11 hS ?_
        refine tJ 12 hS ?_
        refine tC (i := 13) 40 #[Go.Operand.tmp 33] #[.int .i64 2] Try.call40 (fun w => CL.out w) hS ?_
        simp only [Act.put, pA, pB, pC]
        refine tJ 14 hS ?_
        refine tJ 15 hS ?_
        refine wpAnyH_done (by kernel_rfl) ?_ _
        have hd := hh.out.1.drew
        have hh' := hh.out.2
        have hyes2 : hasS xs s i minus1 = true := by rw [HY.out]; simpa using HL.out
        have hway : ((splitO 2 i p).foldl (stepO xs (cellAt xs)) (((List.range i).flatMap (fun i => if hasS xs s i minus1 then splitO 2 i (s ^^^ 2 ^ i) else [])).foldl (stepO xs (cellAt xs)) m)).ways ≤ 10000000000000000 := by
         refine Nat.le_trans ?_ HW.out
         have := wayN (xs := xs) (c := cellAt xs) (f := fun i => if hasS xs s i minus1 then splitO 2 i (s ^^^ 2 ^ i) else []) (m := m) HIL.out
         simp only [hyes2, if_true, HP.out] at this
         exact this
        have hbits : ∀ j, p.testBit j = true ↔ s.testBit j = true ∧ j ≠ i := fun j => by
         rw [← HP.out]
         exact xor_bit HB.out j
        have hp0 : 0 < p := Nat.pos_of_ne_zero (fun h0 => H1.out (rest_zero HB.out (by rw [HP.out]; exact h0)))
        have hps2 : p < s := bits_lt (fun j hj => ((hbits j).1 hj).1) (fun e => by have := (hbits i).1 (by rw [e]; exact HB.out); exact this.2 rfl)
        have CS := spec_csplit_c 2 i p wr.drew hd G.out hs H0.out H1.out HK.out hh'.1 hh'.2 hp0 (Nat.lt_trans hps2 hs) (fun a ha => .inr (.inl ⟨rfl, hyes2, by rw [HP.out]; exact ha, by rw [HP.out]⟩)) hway
        have HCS := Lib.hid CS
        have ND := Lib.hid on.drew
        clear CS hd hh' hh on p0 z0 hS
        go_wp2_with fail
        refine HCS.out.mono ?_
        rintro en w2 ⟨rfl, on2, k2, hc2, hi2, hb2⟩
        have HH2 := Lib.hid (show Cht e ob xs (.slice (some ⟨bl, ol, none⟩) xs.length cl) Fl gp gc N (updF K s k2) w2 ∧ RcIs k2 (((List.range (i + 1)).flatMap (fun i => if hasS xs s i minus1 then splitO 2 i (s ^^^ 2 ^ i) else [])).foldl (stepO xs (cellAt xs)) m) ∧ k2.box = bx from ⟨hc2, by rw [HPRE.out, List.foldl_append, if_pos (by simpa using HL.out), HP.out]; exact hi2, hb2⟩)
        have ON2 := Lib.hid (ND.out.trans on2)
        clear hc2 hi2 hb2 on2
        go_wp2_with fail
        go_roundw
        case rel => exact ⟨i + 1, k2, by go_num, by omega, HH2, ON2.out⟩
        case measure => simp [intOf]; omega
      · have y1 : (L.toList == ([45] : List UInt8)) = false := by rw [← HBY.out, str_eq]; simpa using hl
        have HL := Lib.hid hl
        clear hl
        go_upto_region 4 with fail
        have hS : (fun w' : World => w'.cell? ⟨gp, 0, none⟩ = some (.slice (some ⟨bl, ol, none⟩) xs.length cl) ∧ w'.cell? ⟨bl, ol + i * 5, none⟩ = some (.string L)) wr.drew := ⟨p0, z0⟩
        dsimp only at hS
        refine wp_region_held_drew (S := (fun w' : World => w'.cell? ⟨gp, 0, none⟩ = some (.slice (some ⟨bl, ol, none⟩) xs.length cl) ∧ w'.cell? ⟨bl, ol + i * 5, none⟩ = some (.string L))) (by kernel_rfl) hS (fun _ => ?_)
        refine tJ 0 hS ?_
        refine tJ 1 hS ?_
        refine tJ 2 hS ?_
        refine tJ 3 hS ?_
        refine tJ 4 hS ?_
        refine tJ 5 hS ?_
        refine tJ 6 hS ?_
        refine tJ 7 hS ?_
        refine tJ 8 hS ?_
        refine tJ 9 hS ?_
        refine tJ 10 hS ?_
        refine tJ 11 hS ?_
        refine tJ 12 hS ?_
        refine tC (i := 13) 40 #[Go.Operand.tmp 33] #[.int .i64 2] Try.call40 (fun w => CL.out w) hS ?_
        simp only [Act.put, pA, pB, pC]
        refine tJ 14 hS ?_
        refine tJ 15 hS ?_
        refine wpAnyH_done (by kernel_rfl) ?_ _
        go_wp2_with fail
        go_roundw
        case rel => exact ⟨i + 1, k', by go_num, by omega, Lib.hid ⟨hh.out.1.drew, by rw [HPRE.out, if_neg (by simpa using HL.out)]; simpa using hh.out.2.1, hh.out.2.2⟩, on.drew⟩
        case measure => simp [intOf]; omega
  · obtain rfl : i = xs.length := by omega
    have g1 : ¬ ((xs.length : Int) < (xs.length : Int)) := by omega
    go_wp2_with fail
    refine bodyPost_end (v := .tuple #[]) (by simp [results, Try.results73, go_sem]) rfl ⟨rfl, on, k', hh.out.1, hh.out.2.1, hh.out.2.2⟩
set_option maxRecDepth 100000 in
set_option maxHeartbeats 4000000 in
theorem spec_csigns5_c {e : TypeId} {ob : Bool} {xs : List PSymbol} {vl : Value} {Fl : List Nat} {gp gc N : Nat} {K : Nat → RC} {s : Nat} {bx : PBox} {m : Cell} {k : RC} (w : World) (h : Cht e ob xs vl Fl gp gc N (updF K s k) w) (g : Grd xs N) (hs : s < N) (h0 : s ≠ 0) (h1 : s ≠ 2 ^ s.log2) (hk : RcOk xs K s) (hm : RcIs k m) (hbx : k.box = bx) (hmw : ((rootO xs s).foldl (stepO xs (cellAt xs)) m).ways ≤ 10000000000000000) :
 Calls Try.prog 73 #[.pointer (some ⟨gp, 0, none⟩), .int .i64 (s : Int), .int .i64 5] w (FilPost e ob xs vl Fl gp gc N K s bx ((rootO xs s).foldl (stepO xs (cellAt xs)) m) w) := by
 have G := Lib.hid g
 have H1 := Lib.hid h1
 have HK := Lib.hid hk
 have HW := Lib.hid hmw
 obtain ⟨AL, cl, rfl⟩ := slice_len h.syms
 have HH := Lib.hid (show Cht e ob xs (.slice AL xs.length cl) Fl gp gc N (updF K s k) w ∧ RcIs k m ∧ k.box = bx from ⟨h, hm, hbx⟩)
 have p0 := h.row.c0
 have hN := g.le
 have H0 := Lib.hid h0
 have hn8 := g.few
 have CL : ∀ w : World, Calls Try.prog 40 #[.int .i64 5] w fun e w' => e = .returned (.string ⟨#[114]⟩) ∧ w' = w := fun w => spec_l21Label_c 5 w
 have CL := Lib.hid CL
 have HBY : Hid ((root1 : ByteArray).toList = ([114] : List UInt8)) := Lib.hid (by unfold root1; simp)
 clear g h1 hk hmw h hm hbx h0 p0
 go_enter Try.func73, Try.ntmps73
 go_wp2_with fail
 go_loopw [6] (fun f wr => ∃ (i : Nat) (k' : RC), f = .int .i64 i ∧ i ≤ xs.length ∧ Hid (Cht e ob xs (.slice AL xs.length cl) Fl gp gc N (updF K s k') wr ∧ RcIs k' (((List.range i).flatMap (fun i => if hasS xs s i root1 then [(⟨5, i, s ^^^ 2 ^ i, 0⟩ : Opt)] else [])).foldl (stepO xs (cellAt xs)) m) ∧ k'.box = bx) ∧ Only [gc] w wr) (fun f _ => xs.length - (intOf f).toNat)
 case atStart => exact ⟨0, k, rfl, Nat.zero_le _, HH, Only.refl _ _⟩
 case round =>
  obtain ⟨i, k', rfl, hi, hh, on⟩ := hrel
  have p0 := hh.out.1.row.c0
  by_cases hlt : i < xs.length
  · have g1 : (i : Int) < (xs.length : Int) := by omega
    have i0 : (0 : Int) ≤ (i : Int) := by omega
    have i64 : (i : Int) ≤ 64 := by omega
    have kw := IntWalk.i64_in ((i : Int) + 1) (by omega)
    have hpw : 2 ^ i < 256 := Nat.lt_of_le_of_lt (Nat.pow_le_pow_right (n := 2) (by decide) (show i ≤ 7 by omega)) (by decide)
    have hsh := i64_shl i (by omega)
    have hnot := i64_andNot s (2 ^ i) (by omega) hpw
    have hpre : ((List.range (i + 1)).flatMap (fun i => if hasS xs s i root1 then [(⟨5, i, s ^^^ 2 ^ i, 0⟩ : Opt)] else [])) = ((List.range i).flatMap (fun i => if hasS xs s i root1 then [(⟨5, i, s ^^^ 2 ^ i, 0⟩ : Opt)] else [])) ++ (fun i => if hasS xs s i root1 then [(⟨5, i, s ^^^ 2 ^ i, 0⟩ : Opt)] else []) i := by rw [List.range_succ, List.flatMap_append]; simp
    have HPRE := Lib.hid hpre
    have hbase : (fun i => if hasS xs s i root1 then [(⟨5, i, s ^^^ 2 ^ i, 0⟩ : Opt)] else []) i = if hasS xs s i root1 then [(⟨5, i, s ^^^ 2 ^ i, 0⟩ : Opt)] else [] := rfl
    rw [hbase] at HPRE
    clear hbase hpre
    cases hbit : s.testBit i with
    | false =>
      have hand : s &&& 2 ^ i = 0 := by rw [and_pow, hbit]; rfl
      rw [hand, Nat.xor_zero] at hnot
      have hno : hasS xs s i root1 = false := by unfold hasS; rw [hbit]; rfl
      rw [hno] at HPRE
      obtain ⟨P2, hP2⟩ : ∃ p, 2 ^ i = p := ⟨_, rfl⟩
      rw [hP2] at hsh hnot
      clear hP2 hand hno hbit
      go_upto_region 4 with fail
      refine wp_region_held_drew (S := fun _ => True) (by kernel_rfl) trivial (fun hS => ?_)
      have hS := trivial
      refine tJ 0 hS ?_
      refine tJ 1 hS ?_
      refine tJ 2 hS ?_
      refine tJ 3 hS ?_
      refine tJ0 4 hS ?_
      refine tJ0 5 hS ?_
      refine tJ0 6 hS ?_
      refine tJ0 7 hS ?_
      refine tJ0 8 hS ?_
      refine tJ0 9 hS ?_
      refine tJ0 10 hS ?_
      refine tJ0 11 hS ?_
      refine tJ0 12 hS ?_
      refine tJ0 13 hS ?_
      refine tJ0 14 hS ?_
      refine tJ 15 hS ?_
      refine wpAnyH_done (by kernel_rfl) ?_ _
      go_wp2_with fail
      go_roundw
      case rel => exact ⟨i + 1, k', by go_num, by omega, Lib.hid ⟨hh.out.1.drew, by rw [HPRE.out]; simpa using hh.out.2.1, hh.out.2.2⟩, on.drew⟩
      case measure => simp [intOf]; omega
    | true =>
      have hand : s &&& 2 ^ i = 2 ^ i := by rw [and_pow, hbit]; rfl
      rw [hand] at hnot
      have hyes : hasS xs s i root1 = decide (xs[i].label = root1) := by unfold hasS symAt; rw [hbit, Int.toNat_natCast, List.getD_eq_getElem?_getD, List.getElem?_eq_getElem hlt]; rfl
      rw [hyes] at HPRE
      have hps : s ^^^ 2 ^ i ≠ s := fun h => by
       have := congrArg (fun x => x.testBit i) h
       simp [Nat.testBit_xor, hbit, Nat.testBit_two_pow_self] at this
      obtain ⟨AL', cl', hvl, _, _, hsy⟩ := pSymbols_open hh.out.1.syms
      rw [Value.slice.injEq] at hvl
      obtain ⟨rfl, -, rfl⟩ := hvl
      obtain ⟨bl, ol, rfl, hbl, hblF, z0, -, -, -, -, _⟩ := hsy i hlt
      have HB := Lib.hid hbit
      have HIL := Lib.hid hlt
      obtain ⟨p, hp⟩ : ∃ p, s ^^^ 2 ^ i = p := ⟨_, rfl⟩
      have HP := Lib.hid hp
      have HY := Lib.hid hyes
      rw [hp] at hnot hps
      obtain ⟨P2, hP2⟩ : ∃ p, 2 ^ i = p := ⟨_, rfl⟩
      rw [hP2] at hsh hnot
      have y0 : ((p : Int) == (s : Int)) = false := by simp only [beq_eq_false_iff_ne]; omega
      generalize hL : (xs[i]'hlt).label = L at z0 HPRE HY
      clear hP2 hand hbit hsy hyes hp hL hps
      by_cases hl : L = root1
      · have y1 : (L.toList == ([114] : List UInt8)) = true := by rw [hl, HBY.out]; rfl
        have HL := Lib.hid hl
        clear hl
        go_upto_region 4 with fail
        have hS : (fun w' : World => w'.cell? ⟨gp, 0, none⟩ = some (.slice (some ⟨bl, ol, none⟩) xs.length cl) ∧ w'.cell? ⟨bl, ol + i * 5, none⟩ = some (.string L)) wr.drew := ⟨p0, z0⟩
        dsimp only at hS
        refine wp_region_held_drew (S := (fun w' : World => w'.cell? ⟨gp, 0, none⟩ = some (.slice (some ⟨bl, ol, none⟩) xs.length cl) ∧ w'.cell? ⟨bl, ol + i * 5, none⟩ = some (.string L))) (by kernel_rfl) hS (fun _ => ?_)
        refine tJ 0 hS ?_
        refine tJ 1 hS ?_
        refine tJ 2 hS ?_
        refine tJ 3 hS ?_
        refine tJ 4 hS ?_
        refine tJ 5 hS ?_
        refine tJ 6 hS ?_
        refine tJ 7 hS ?_
        refine tJ 8 hS ?_
        refine tJ 9 hS ?_
        refine tJ 10 hS ?_
        refine tJ 11 hS ?_
        refine tJ 12 hS ?_
        refine tC (i := 13) 40 #[Go.Operand.tmp 33] #[.int .i64 5] Try.call40 (fun w => CL.out w) hS ?_
        simp only [Act.put, pA, pB, pC]
        refine tJ 14 hS ?_
        refine tJ 15 hS ?_
        refine wpAnyH_done (by kernel_rfl) ?_ _
        have hd := hh.out.1.drew
        have hh' := hh.out.2
        have hyes2 : hasS xs s i root1 = true := by rw [HY.out]; simpa using HL.out
        have hway : (([(⟨5, i, p, 0⟩ : Opt)]).foldl (stepO xs (cellAt xs)) (((List.range i).flatMap (fun i => if hasS xs s i root1 then [(⟨5, i, s ^^^ 2 ^ i, 0⟩ : Opt)] else [])).foldl (stepO xs (cellAt xs)) m)).ways ≤ 10000000000000000 := by
         refine Nat.le_trans ?_ HW.out
         have := wayN (xs := xs) (c := cellAt xs) (f := fun i => if hasS xs s i root1 then [(⟨5, i, s ^^^ 2 ^ i, 0⟩ : Opt)] else []) (m := m) HIL.out
         simp only [hyes2, if_true, HP.out] at this
         exact this
        have hbits : ∀ j, p.testBit j = true ↔ s.testBit j = true ∧ j ≠ i := fun j => by
         rw [← HP.out]
         exact xor_bit HB.out j
        have hp0 : 0 < p := Nat.pos_of_ne_zero (fun h0 => H1.out (rest_zero HB.out (by rw [HP.out]; exact h0)))
        have hps2 : p < s := bits_lt (fun j hj => ((hbits j).1 hj).1) (fun e => by have := (hbits i).1 (by rw [e]; exact HB.out); exact this.2 rfl)
        have CS := (show Calls Try.prog 86 #[.pointer (some ⟨gp, 0, none⟩), .int .i64 (s : Int), .int .i64 5, .int .i64 (i : Int), .int .i64 (p : Int), .int .i64 0] wr.drew (FilPost e ob xs _ Fl gp gc N K s bx (stepO xs (cellAt xs) _ ⟨5, i, p, 0⟩) wr.drew) from spec_ctry_c ⟨5, i, p, 0⟩ wr.drew hd G.out hs H0.out H1.out (.inr (.inr ⟨rfl, hyes2, HP.out.symm, rfl⟩)) HK.out hh'.1 hh'.2 (Nat.le_trans (stepO_ways xs (cellAt xs) _ _) hway))
        have HCS := Lib.hid CS
        have ND := Lib.hid on.drew
        clear CS hd hh' hh on p0 z0 hS
        go_wp2_with fail
        refine HCS.out.mono ?_
        rintro en w2 ⟨rfl, on2, k2, hc2, hi2, hb2⟩
        have HH2 := Lib.hid (show Cht e ob xs (.slice (some ⟨bl, ol, none⟩) xs.length cl) Fl gp gc N (updF K s k2) w2 ∧ RcIs k2 (((List.range (i + 1)).flatMap (fun i => if hasS xs s i root1 then [(⟨5, i, s ^^^ 2 ^ i, 0⟩ : Opt)] else [])).foldl (stepO xs (cellAt xs)) m) ∧ k2.box = bx from ⟨hc2, by rw [HPRE.out, List.foldl_append, if_pos (by simpa using HL.out), HP.out]; exact hi2, hb2⟩)
        have ON2 := Lib.hid (ND.out.trans on2)
        clear hc2 hi2 hb2 on2
        go_wp2_with fail
        go_roundw
        case rel => exact ⟨i + 1, k2, by go_num, by omega, HH2, ON2.out⟩
        case measure => simp [intOf]; omega
      · have y1 : (L.toList == ([114] : List UInt8)) = false := by rw [← HBY.out, str_eq]; simpa using hl
        have HL := Lib.hid hl
        clear hl
        go_upto_region 4 with fail
        have hS : (fun w' : World => w'.cell? ⟨gp, 0, none⟩ = some (.slice (some ⟨bl, ol, none⟩) xs.length cl) ∧ w'.cell? ⟨bl, ol + i * 5, none⟩ = some (.string L)) wr.drew := ⟨p0, z0⟩
        dsimp only at hS
        refine wp_region_held_drew (S := (fun w' : World => w'.cell? ⟨gp, 0, none⟩ = some (.slice (some ⟨bl, ol, none⟩) xs.length cl) ∧ w'.cell? ⟨bl, ol + i * 5, none⟩ = some (.string L))) (by kernel_rfl) hS (fun _ => ?_)
        refine tJ 0 hS ?_
        refine tJ 1 hS ?_
        refine tJ 2 hS ?_
        refine tJ 3 hS ?_
        refine tJ 4 hS ?_
        refine tJ 5 hS ?_
        refine tJ 6 hS ?_
        refine tJ 7 hS ?_
        refine tJ 8 hS ?_
        refine tJ 9 hS ?_
        refine tJ 10 hS ?_
        refine tJ 11 hS ?_
        refine tJ 12 hS ?_
        refine tC (i := 13) 40 #[Go.Operand.tmp 33] #[.int .i64 5] Try.call40 (fun w => CL.out w) hS ?_
        simp only [Act.put, pA, pB, pC]
        refine tJ 14 hS ?_
        refine tJ 15 hS ?_
        refine wpAnyH_done (by kernel_rfl) ?_ _
        go_wp2_with fail
        go_roundw
        case rel => exact ⟨i + 1, k', by go_num, by omega, Lib.hid ⟨hh.out.1.drew, by rw [HPRE.out, if_neg (by simpa using HL.out)]; simpa using hh.out.2.1, hh.out.2.2⟩, on.drew⟩
        case measure => simp [intOf]; omega
  · obtain rfl : i = xs.length := by omega
    have g1 : ¬ ((xs.length : Int) < (xs.length : Int)) := by omega
    go_wp2_with fail
    refine bodyPost_end (v := .tuple #[]) (by simp [results, Try.results73, go_sem]) rfl ⟨rfl, on, k', hh.out.1, hh.out.2.1, hh.out.2.2⟩
end Go.Proofs.Ytmopioaojdlnkaa
