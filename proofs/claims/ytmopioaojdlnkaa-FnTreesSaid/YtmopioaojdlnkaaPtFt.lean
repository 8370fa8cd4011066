/- The program's parser: split. Conditions: none. -/
import Derived.Test.YtmopioaojdlnkaaPsMt
namespace Go.Proofs.Ytmopioaojdlnkaa
open Go Go.RowKit
def remA (r a : Nat) : List Nat := if a = 0 then [] else a :: downF r a
theorem remA_next {r a : Nat} (h : a &&& r = a) : downF r a = remA r ((a - 1) &&& r) := by
 rw [down_step h]; unfold remA
 split <;> rename_i h1 <;> simp []
theorem remA_all (r : Nat) : remA r ((r - 1) &&& r) = subsD r := by
 rw [← remA_next (Nat.and_self r), down_all]
def waysA (i r : Nat) (ks : List Int) (a : Nat) : List Opt := ks.map fun k => ⟨k, i, a, r ^^^ a⟩
set_option maxRecDepth 100000 in
set_option maxHeartbeats 4000000 in
theorem impl_psplit_c {e ek : TypeId} {ob okk : Bool} {xs : List PSymbol} {vl vk : Value} {Fl Fk : List Nat} {gp gb gt gn N : Nat} {K : Nat → RC} {s : Nat} {bx SB : PBox} {m : Cell} {k : RC} (ks : List Int) (i r : Nat) (w : World) (h : Prs e ob xs vl Fl gp gb gt gn N (updF K s k) w) (hks : (nums ek).rep okk w ks [vk] Fk) (hkF : gt ∉ Fk ∧ gn ∉ Fk) (hk3 : ks.length ≤ 100) (g : Grd xs N) (hs : s < N) (h0 : s ≠ 0) (h1 : s ≠ 2 ^ s.log2) (hk : RcOk xs (fixK K) s) (hm : RcIs k m) (hbx : k.box = bx) (hr : 0 < r) (hrN : r < N) (hopt : ∀ a ∈ subs r, ∀ k ∈ ks, IsOpt xs s ⟨k, i, a, r ^^^ a⟩) (hSB : ∀ a, ∀ k ∈ ks, handS xs ⟨k, i, a, r ^^^ a⟩ = SB) (hmw : (((subsD r).flatMap (waysA i r ks)).foldl (stepI xs (cellAt xs)) m).ways ≤ 10000000000000000) :
 Calls Try.prog 69 #[.pointer (some ⟨gp, 0, none⟩), .int .i64 (s : Int), .int .i64 (r : Int), vk, .int .i64 (i : Int), .agg #[.int .i64 SB.x1, .int .i64 SB.y1, .int .i64 SB.x2, .int .i64 SB.y2]] w (FilPostI e ob xs vl Fl gp gb gt gn N K s bx (((subsD r).flatMap (waysA i r ks)).foldl (stepI xs (cellAt xs)) m) w) := by
 have G := Lib.hid g
 have H1 := Lib.hid h1
 have HK := Lib.hid hk
 have HO := Lib.hid hopt
 have HSB := Lib.hid hSB
 have hN := g.le
 have H0 := Lib.hid h0
 obtain ⟨T, hT⟩ : ∃ T, ((subsD r).flatMap (waysA i r ks)).foldl (stepI xs (cellAt xs)) m = T := ⟨_, rfl⟩
 rw [hT] at hmw ⊢
 have HW := Lib.hid hmw
 have hgs : ∀ x ∈ [gp, gb, gt, gn], x < w.heap.size := fun x hx => by
  simp only [List.mem_cons, List.not_mem_nil, or_false] at hx
  rcases hx with rfl | rfl | rfl | rfl
  · exact h.row.lt
  · exact h.boxes.lt
  · exact h.best.lt
  · exact h.count.lt
 have hgt := hgs gt (by simp)
 have hgn := hgs gn (by simp)
 have h2 := h.alloc (.cells #[.int .i64 SB.x1, .int .i64 SB.y1, .int .i64 SB.x2, .int .i64 SB.y2] 48)
 have RS := Row.new w 48 #[.int .i64 SB.x1, .int .i64 SB.y1, .int .i64 SB.x2, .int .i64 SB.y2]
 have HKS := hks.alloc (.cells #[.int .i64 SB.x1, .int .i64 SB.y1, .int .i64 SB.x2, .int .i64 SB.y2] 48)
 have on : Only [gt, gn] w (w.alloc (.cells #[.int .i64 SB.x1, .int .i64 SB.y1, .int .i64 SB.x2, .int .i64 SB.y2] 48)) := Only.of_below ((Below.refl _ _).alloc (Nat.le_refl _) _)
 obtain ⟨Ak, ck, rfl⟩ := slice_len hks
 have hall : ((remA r ((r - 1) &&& r)).flatMap (waysA i r ks)).foldl (stepI xs (cellAt xs)) m = T := by rw [remA_all]; exact hT
 have HH := Lib.hid (show (Prs e ob xs vl Fl gp gb gt gn N (updF K s k) (w.alloc (.cells #[.int .i64 SB.x1, .int .i64 SB.y1, .int .i64 SB.x2, .int .i64 SB.y2] 48)) ∧ Row (w.alloc (.cells #[.int .i64 SB.x1, .int .i64 SB.y1, .int .i64 SB.x2, .int .i64 SB.y2] 48)) w.heap.size 48 [.int .i64 SB.x1, .int .i64 SB.y1, .int .i64 SB.x2, .int .i64 SB.y2] ∧ (nums ek).rep okk (w.alloc (.cells #[.int .i64 SB.x1, .int .i64 SB.y1, .int .i64 SB.x2, .int .i64 SB.y2] 48)) ks [.slice Ak ks.length ck] Fk) ∧ k.box = bx ∧ ∃ M, RcIs k M ∧ ((remA r ((r - 1) &&& r)).flatMap (waysA i r ks)).foldl (stepI xs (cellAt xs)) M = T from ⟨⟨h2, RS, HKS⟩, hbx, m, hm, hall⟩)
 have e1 : IntKind.i64.wrap ((r : Int) - 1) = ((r - 1 : Nat) : Int) := by rw [IntWalk.i64_in _ (by omega)]; omega
 have hband := i64_and (r - 1) r (by omega) (by omega)
 have hsub : ((r - 1) &&& r) &&& r = (r - 1) &&& r := by rw [Nat.and_assoc, Nat.and_self]
 have hlt0 : ((r - 1) &&& r) < r := Nat.lt_of_le_of_lt Nat.and_le_left (by omega)
 obtain ⟨a0, ha0⟩ : ∃ a0, (r - 1) &&& r = a0 := ⟨_, rfl⟩
 rw [ha0] at hband hsub hlt0 HH
 have HSU := Lib.hid hsub
 clear g h1 hk hopt hmw h hm hbx h0 hT hSB hks hall h2 RS HKS ha0 hsub
 go_enter Try.func69, Try.ntmps69
 go_wp2_with fail
 generalize w.alloc (.cells #[.int .i64 SB.x1, .int .i64 SB.y1, .int .i64 SB.x2, .int .i64 SB.y2] 48) = w1 at HH on ⊢
 go_loopw [12] (fun f wr => ∃ (a : Nat) (k' : RC), f = .int .i64 a ∧ a < r ∧ Hid (a &&& r = a) ∧ Hid ((Prs e ob xs vl Fl gp gb gt gn N (updF K s k') wr ∧ Row wr w.heap.size 48 [.int .i64 SB.x1, .int .i64 SB.y1, .int .i64 SB.x2, .int .i64 SB.y2] ∧ (nums ek).rep okk wr ks [.slice Ak ks.length ck] Fk) ∧ k'.box = bx ∧ ∃ M, RcIs k' M ∧ ((remA r a).flatMap (waysA i r ks)).foldl (stepI xs (cellAt xs)) M = T) ∧ Only [gt, gn] w wr) (fun f _ => (intOf f).toNat)
 case atStart => exact ⟨a0, k, rfl, hlt0, HSU, HH, on⟩
 case round =>
  obtain ⟨a, k', rfl, har, hsu, hh, on2⟩ := hrel
  by_cases ha : 0 < a
  · have g1 : (a : Int) > 0 := by omega
    have g1' : (0 : Int) < (a : Int) := by omega
    have e2 : IntKind.i64.wrap ((a : Int) - 1) = ((a - 1 : Nat) : Int) := by rw [IntWalk.i64_in _ (by omega)]; omega
    have hband2 := i64_and (a - 1) r (by omega) (by omega)
    have hnot := i64_andNot r a (by omega) (by omega)
    rw [show r &&& a = a by rw [Nat.and_comm]; exact hsu.out] at hnot
    obtain ⟨p, hp⟩ : ∃ p, r ^^^ a = p := ⟨_, rfl⟩
    rw [hp] at hnot
    have HP := Lib.hid hp
    obtain ⟨b, hb⟩ : ∃ b, (a - 1) &&& r = b := ⟨_, rfl⟩
    rw [hb] at hband2
    have hbr : b < a := by rw [← hb]; exact Nat.lt_of_le_of_lt Nat.and_le_left (by omega)
    have HB := Lib.hid hb
    have hbs : Hid (b &&& r = b) := Lib.hid (by rw [← hb, Nat.and_assoc, Nat.and_self])
    have hin : a ∈ subs r := mem_subs.2 ⟨by omega, by omega, sub_iff.1 hsu.out⟩
    have hrem : (remA r a).flatMap (waysA i r ks) = waysA i r ks a ++ (remA r b).flatMap (waysA i r ks) := by
     unfold remA
     rw [if_neg (by omega), List.flatMap_cons, remA_next hsu.out, hb]
     rfl
    obtain ⟨hmem, hbx2, M, hM, hfold⟩ := hh.out
    rw [hrem, List.foldl_append] at hfold
    have HF := Lib.hid hfold
    have HIN := Lib.hid hin
    have HH2 := Lib.hid (show (Prs e ob xs vl Fl gp gb gt gn N (updF K s k') wr ∧ Row wr w.heap.size 48 [.int .i64 SB.x1, .int .i64 SB.y1, .int .i64 SB.x2, .int .i64 SB.y2] ∧ (nums ek).rep okk wr ks [.slice Ak ks.length ck] Fk) ∧ k'.box = bx ∧ ∃ M1, RcIs k' M1 ∧ (((ks.drop 0).map fun k => (⟨k, i, a, p⟩ : Opt)).foldl (stepI xs (cellAt xs)) M1) = (waysA i r ks a).foldl (stepI xs (cellAt xs)) M from ⟨hmem, hbx2, M, hM, by rw [List.drop_zero, ← hp]; rfl⟩)
    obtain ⟨wo, hwo⟩ : ∃ x, x = wr := ⟨_, rfl⟩
    subst hwo
    clear hmem hbx2 hfold hrem hin hb hp hh
    go_wp2_with fail
    go_loopw [27] (fun jv wx => ∃ (j : Nat) (k2 : RC), jv = .int .i64 j ∧ j ≤ ks.length ∧ Hid ((Prs e ob xs vl Fl gp gb gt gn N (updF K s k2) wx ∧ Row wx w.heap.size 48 [.int .i64 SB.x1, .int .i64 SB.y1, .int .i64 SB.x2, .int .i64 SB.y2] ∧ (nums ek).rep okk wx ks [.slice Ak ks.length ck] Fk) ∧ k2.box = bx ∧ ∃ M1, RcIs k2 M1 ∧ (((ks.drop j).map fun k => (⟨k, i, a, p⟩ : Opt)).foldl (stepI xs (cellAt xs)) M1) = (waysA i r ks a).foldl (stepI xs (cellAt xs)) M) ∧ Only [gt, gn] w wx) (fun jv _ => ks.length - (intOf jv).toNat)
    case atStart => exact ⟨0, k', rfl, Nat.zero_le _, HH2, on2⟩
    case round =>
     obtain ⟨j, k2, rfl, hj, hh2, on3⟩ := hrel
     by_cases hlt : j < ks.length
     · have g2 : (j : Int) < (ks.length : Int) := by omega
       have j0 : (0 : Int) ≤ (j : Int) := by omega
       have kw := IntWalk.i64_in ((j : Int) + 1) (by omega)
       obtain ⟨⟨hpr, hrs, hnu⟩, hbx3, M1, hM1, hf1⟩ := hh2.out
       obtain ⟨A', c', hv, _, _, hcl⟩ := nums_open hnu
       rw [Value.slice.injEq] at hv
       obtain ⟨rfl, -, rfl⟩ := hv
       obtain ⟨bk, ok2, rfl, hbk, hbF, z0, _⟩ := hcl j hlt
       have s0 := hrs.c0
       have s1 := hrs.c1
       have s2 := hrs.c2
       have s3 := hrs.c3
       have hmemk : ks[j] ∈ ks := List.getElem_mem hlt
       rw [List.drop_eq_getElem_cons hlt, List.map_cons, List.foldl_cons] at hf1
       have hoo := HO.out a HIN.out _ hmemk
       have hsb := HSB.out a _ hmemk
       rw [HP.out] at hoo hsb
       have hmw1 : M1.ways ≤ 10000000000000000 := by
        refine Nat.le_trans (Nat.le_trans (stepI_ways xs (cellAt xs) M1 ⟨ks[j], i, a, p⟩) ?_) HW.out
        rw [← HF.out, ← hf1]
        exact Nat.le_trans (foldI_ways xs (cellAt xs) _ _) (foldI_ways xs (cellAt xs) _ _)
       have CT := impl_ptry_c ⟨ks[j], i, a, p⟩ 0 wr hpr G.out hs H0.out H1.out hoo HK.out hM1 hbx3 hmw1
       rw [hsb] at CT
       dsimp only at CT
       generalize hkj : ks[j] = kj at CT hf1 z0
       have HCT := Lib.hid CT
       have HF1 := Lib.hid hf1
       have HRS := Lib.hid hrs
       have HNU := Lib.hid hnu
       clear CT hf1 hpr hrs hnu hcl hkj hh2 hoo hsb hM1 hmw1 hbx3 hmemk
       go_wp2_with fail
       refine HCT.out.mono ?_
       rintro en w2 ⟨rfl, on4, k3, hc3, hi3, hb3⟩
       have X := Lib.hid (show (Prs e ob xs vl Fl gp gb gt gn N (updF K s k3) w2 ∧ Row w2 w.heap.size 48 [.int .i64 SB.x1, .int .i64 SB.y1, .int .i64 SB.x2, .int .i64 SB.y2] ∧ (nums ek).rep okk w2 ks [.slice (some ⟨bk, ok2, none⟩) ks.length ck] Fk) ∧ k3.box = bx ∧ ∃ M2, RcIs k3 M2 ∧ (((ks.drop (j + 1)).map fun k => (⟨k, i, a, p⟩ : Opt)).foldl (stepI xs (cellAt xs)) M2) = (waysA i r ks a).foldl (stepI xs (cellAt xs)) M from ⟨⟨hc3, row_only HRS.out on4 (by simp; omega), HNU.out.only on4 (fun x hx hin => by simp only [List.mem_cons, List.not_mem_nil, or_false] at hin; rcases hin with rfl | rfl; exact hkF.1 hx; exact hkF.2 hx)⟩, hb3, _, hi3, HF1.out⟩)
       have ON4 := Lib.hid (on3.trans on4)
       clear hc3 hi3 hb3 on4
       go_wp2_with fail
       go_roundw
       case rel => exact ⟨j + 1, k3, by go_num, by omega, X, ON4.out⟩
       case measure => simp [intOf]; omega
     · obtain rfl : j = ks.length := by omega
       have g2 : ¬ ((ks.length : Int) < (ks.length : Int)) := by omega
       obtain ⟨hmm, hbx3, M1, hM1, hf1⟩ := hh2.out
       rw [List.drop_length] at hf1
       have X := Lib.hid (show (Prs e ob xs vl Fl gp gb gt gn N (updF K s k2) wr ∧ Row wr w.heap.size 48 [.int .i64 SB.x1, .int .i64 SB.y1, .int .i64 SB.x2, .int .i64 SB.y2] ∧ (nums ek).rep okk wr ks [.slice Ak ks.length ck] Fk) ∧ k2.box = bx ∧ ∃ M, RcIs k2 M ∧ ((remA r b).flatMap (waysA i r ks)).foldl (stepI xs (cellAt xs)) M = T from ⟨hmm, hbx3, M1, hM1, by rw [← HF.out, ← hf1]; rfl⟩)
       clear hmm hbx3 hM1 hf1 hh2
       go_wp2_with fail
       go_roundw
       case rel => exact ⟨b, k2, by go_num, by omega, hbs, X, on3⟩
       case measure => simp [intOf]; omega
  · obtain rfl : a = 0 := by omega
    obtain ⟨⟨hpr, -, -⟩, hbx2, M, hM, hfold⟩ := hh.out
    have X := Lib.hid (show Prs e ob xs vl Fl gp gb gt gn N (updF K s k') wr ∧ RcIs k' T ∧ k'.box = bx from ⟨hpr, by rw [← hfold]; exact hM, hbx2⟩)
    clear hpr hbx2 hM hfold hh
    go_wp2_with fail
    refine bodyPost_end (v := .tuple #[]) (by simp [results, Try.results69, go_sem]) rfl ⟨rfl, on2, k', X.out⟩
theorem fillC_full (xs : List PSymbol) (s : Nat) (h : elems xs.length s ≠ []) : (fillC xs s xs.length).box = boxS xs s := by
 unfold fillC boxS; rw [if_neg (by intro h'; exact h (List.eq_nil_of_length_eq_zero h'))]
theorem elems_ne {n s : Nat} (hs : s < 2 ^ n) (h0 : s ≠ 0) : elems n s ≠ [] := by
 obtain ⟨i, hi⟩ := ne_zero_bit h0
 intro e
 have := (mem_elems hs).2 hi
 rw [e] at this
 cases this
theorem box_next (xs : List PSymbol) {s i : Nat} (h : s.testBit i = true) : (fillC xs s (i + 1)).box = if (elems i s).length = 0 then sbox xs i else joinB (fillC xs s i).box (sbox xs i) := by rw [fillC_yes h]
set_option maxRecDepth 100000 in
set_option maxHeartbeats 4000000 in
theorem impl_boxOfSet_c {e : TypeId} {ob : Bool} {xs : List PSymbol} {vl : Value} {Fl : List Nat} {s : Nat} (w : World) (h : (pSymbols e).rep ob w xs [vl] Fl) (h8 : xs.length ≤ 8) (hs : s < 2 ^ xs.length) (h0 : s ≠ 0) :
 Calls Try.prog 68 #[vl, .int .i64 (s : Int)] w fun en w' => en = .returned (.agg #[.int .i64 (boxS xs s).x1, .int .i64 (boxS xs s).y1, .int .i64 (boxS xs s).x2, .int .i64 (boxS xs s).y2]) ∧ Below w.heap.size w w' := by
 have hN : s < 256 := Nat.lt_of_lt_of_le hs (Nat.le_trans (Nat.pow_le_pow_right (by decide) h8) (by decide))
 have hFl : ∀ b ∈ Fl, b < w.heap.size := fun b hb => (pSymbols e).lt h b hb
 obtain ⟨A, c, rfl, hc1, hc2, hsy⟩ := pSymbols_open h
 have R4 := (Row.new w 48 #[.int .i64 0, .int .i64 0, .int .i64 0, .int .i64 0]).alloc (.cells #[.int .i64 0, .int .i64 0, .int .i64 0, .int .i64 0] 48)
 have R5 := Row.new (w.alloc (.cells #[.int .i64 0, .int .i64 0, .int .i64 0, .int .i64 0] 48)) 48 #[.int .i64 0, .int .i64 0, .int .i64 0, .int .i64 0]
 rw [World.size_alloc] at R5
 have B0 : Below w.heap.size w ((w.alloc (.cells #[.int .i64 0, .int .i64 0, .int .i64 0, .int .i64 0] 48)).alloc (.cells #[.int .i64 0, .int .i64 0, .int .i64 0, .int .i64 0] 48)) := ((Below.refl _ _).alloc (Nat.le_refl _) _).alloc (by simp) _
 have HSZ := Lib.hid hs
 have HNE := Lib.hid (elems_ne hs h0)
 have ROWS := Lib.hid (show Row _ w.heap.size 48 [.int .i64 0, .int .i64 0, .int .i64 0, .int .i64 0] ∧ Row _ (w.heap.size + 1) 48 [.int .i64 (fillC xs s 0).box.x1, .int .i64 (fillC xs s 0).box.y1, .int .i64 (fillC xs s 0).box.x2, .int .i64 (fillC xs s 0).box.y2] from ⟨R4, R5⟩)
 clear R4 R5 h hs h0
 go_enter Try.func68, Try.ntmps68
 go_wp2_with fail
 generalize (w.alloc (.cells #[.int .i64 0, .int .i64 0, .int .i64 0, .int .i64 0] 48)).alloc (.cells #[.int .i64 0, .int .i64 0, .int .i64 0, .int .i64 0] 48) = w1 at ROWS B0 ⊢
 go_loopw [6, 11] (fun fv iv wr => ∃ (i : Nat) (fb : Bool), fv = .bool fb ∧ Hid (fb = !decide ((elems i s).length = 0)) ∧ iv = .int .i64 (i : Int) ∧ i ≤ xs.length ∧ Hid (Row wr w.heap.size 48 [.int .i64 0, .int .i64 0, .int .i64 0, .int .i64 0] ∧ Row wr (w.heap.size + 1) 48 [.int .i64 (fillC xs s i).box.x1, .int .i64 (fillC xs s i).box.y1, .int .i64 (fillC xs s i).box.x2, .int .i64 (fillC xs s i).box.y2]) ∧ Below w.heap.size w wr) (fun _ iv _ => xs.length - (intOf iv).toNat)
 case atStart => exact ⟨0, false, rfl, Lib.hid rfl, rfl, Nat.zero_le _, ROWS, B0⟩
 case round =>
  obtain ⟨i, fb, rfl, hfb, rfl, hi, hh, hb⟩ := hrel
  have hbs := hb.size
  by_cases hlt : i < xs.length
  · have g1 : (i : Int) < (xs.length : Int) := by omega
    have i0 : (0 : Int) ≤ (i : Int) := by omega
    have i64 : (i : Int) ≤ 64 := by omega
    have kw := IntWalk.i64_in ((i : Int) + 1) (by omega)
    have hband := bit_is s i hN
    have hcast : (s : Int) / 2 ^ i = ((s / 2 ^ i : Nat) : Int) := by simp
    obtain ⟨bl, ol, rfl, hbl, hblF, z0, z1, z2, z3, z4, _⟩ := hsy i hlt
    rw [← hb.cell (p := ⟨bl, _, none⟩) hbl] at z0 z1 z2 z3 z4
    obtain ⟨Y, hY⟩ : ∃ Y, sbox xs i = Y := ⟨_, rfl⟩
    have hYb : boxOf xs[i] = Y := by rw [← hY]; exact (sbox_at hlt).symm
    have ex1 : xs[i].x1 = Y.x1 := by rw [← hYb]; rfl
    have ex2 : xs[i].y1 = Y.y1 := by rw [← hYb]; rfl
    have ex3 : xs[i].x2 = Y.x2 := by rw [← hYb]; rfl
    have ex4 : xs[i].y2 = Y.y2 := by rw [← hYb]; rfl
    rw [ex1] at z1
    rw [ex2] at z2
    rw [ex3] at z3
    rw [ex4] at z4
    generalize (xs[i]'hlt).label = L at z0
    have HY := Lib.hid hY
    obtain ⟨X, hX⟩ : ∃ X, (fillC xs s i).box = X := ⟨_, rfl⟩
    have HX := Lib.hid hX
    have X0 := hh.out.1.alloc (.cells #[.string L, .int .i64 Y.x1, .int .i64 Y.y1, .int .i64 Y.x2, .int .i64 Y.y2] 50)
    have X1 := hh.out.2.alloc (.cells #[.string L, .int .i64 Y.x1, .int .i64 Y.y1, .int .i64 Y.x2, .int .i64 Y.y2] 50)
    rw [hX] at X1
    have RY := Row.new wr 50 #[.string L, .int .i64 Y.x1, .int .i64 Y.y1, .int .i64 Y.x2, .int .i64 Y.y2]
    have hb2 := hb.alloc hbs (.cells #[.string L, .int .i64 Y.x1, .int .i64 Y.y1, .int .i64 Y.x2, .int .i64 Y.y2] 50)
    have hl1 := hh.out.2.lt
    clear hY hYb ex1 ex2 ex3 ex4 hX hsy hh hb
    go_upto_region 6 with fail
    generalize wr.alloc (.cells #[.string L, .int .i64 Y.x1, .int .i64 Y.y1, .int .i64 Y.x2, .int .i64 Y.y2] 50) = w2 at X0 X1 RY hb2 ⊢
    generalize wr.heap.size = bs at RY hl1 ⊢
    clear z0 z1 z2 z3 z4
    have y1 := RY.c1
    have y2 := RY.c2
    have y3 := RY.c3
    have y4 := RY.c4
    have v0 := X1.c0
    have v1 := X1.c1
    have v2 := X1.c2
    have v3 := X1.c3
    have vF := X1.frozen
    cases hbit : s.testBit i with
    | false =>
      rw [hbit] at hband
      simp only [Bool.false_eq_true, if_false] at hband
      have HE := Lib.hid (elems_no hbit)
      have HF := Lib.hid (fillC_no (xs := xs) hbit)
      generalize s / 2 ^ i = q at hband hcast
      clear hbit
      go_wp2_with fail
      go_roundw
      case rel => exact ⟨i + 1, fb, rfl, by rw [HE.out]; exact hfb, by go_num, by omega, Lib.hid ⟨X0, by rw [HF.out, HX.out]; exact X1⟩, hb2⟩
      case measure => simp [intOf]; omega
    | true =>
      rw [hbit] at hband
      simp only [if_true] at hband
      have HE := Lib.hid (elems_yes hbit)
      have HF := Lib.hid (box_next xs hbit)
      generalize s / 2 ^ i = q at hband hcast
      clear hbit
      by_cases hm : (elems i s).length = 0
      · obtain rfl : fb = false := by rw [hfb.out, decide_eq_true hm]; rfl
        have HM := Lib.hid hm
        have Z0 := X0.far4 (t := w.heap.size + 1) (by omega) (.int .i64 Y.x1) (.int .i64 Y.y1) (.int .i64 Y.x2) (.int .i64 Y.y2)
        have Z1 := four_cells X1 rfl (.int .i64 Y.x1) (.int .i64 Y.y1) (.int .i64 Y.x2) (.int .i64 Y.y2)
        have hb3 := (((hb2.setCell (p := ⟨w.heap.size + 1, 0, none⟩) (by show _ ≤ w.heap.size + 1; omega) (.int .i64 Y.x1)).setCell (p := ⟨w.heap.size + 1, 1, none⟩) (by show _ ≤ w.heap.size + 1; omega) (.int .i64 Y.y1)).setCell (p := ⟨w.heap.size + 1, 2, none⟩) (by show _ ≤ w.heap.size + 1; omega) (.int .i64 Y.x2)).setCell (p := ⟨w.heap.size + 1, 3, none⟩) (by show _ ≤ w.heap.size + 1; omega) (.int .i64 Y.y2)
        have HZ := Lib.hid (⟨Z0, Z1⟩ : _ ∧ _)
        have HB3 := Lib.hid hb3
        clear hm Z0 Z1 hb3 X0 X1 hb2
        go_wp2_with fail
        go_roundw
        case rel => exact ⟨i + 1, true, rfl, Lib.hid (by rw [HE.out]; simp), by go_num, by omega, Lib.hid ⟨HZ.out.1, by rw [HF.out, if_pos HM.out, HY.out]; exact HZ.out.2⟩, HB3.out⟩
        case measure => simp [intOf]; omega
      · obtain rfl : fb = true := by rw [hfb.out, decide_eq_false hm]; rfl
        have HM := Lib.hid hm
        have CJ := Lib.hid (impl_joinBoxes_c X Y w2)
        clear hm
        go_wp2_with fail
        refine CJ.out.mono ?_
        rintro en w3 ⟨rfl, b3⟩
        replace X0 := X0.later b3
        replace X1 := X1.later b3
        replace hb2 := hb2.trans (b3.mono hb2.size)
        clear v0 v1 v2 v3 vF y1 y2 y3 y4 RY
        have v0 := X1.c0
        have v1 := X1.c1
        have v2 := X1.c2
        have v3 := X1.c3
        have vF := X1.frozen
        obtain ⟨J, hJ⟩ : ∃ J, joinB X Y = J := ⟨_, rfl⟩
        have HJ := Lib.hid hJ
        rw [hJ]
        simp only [boxV]
        have Z0 := X0.far4 (t := w.heap.size + 1) (by omega) (.int .i64 J.x1) (.int .i64 J.y1) (.int .i64 J.x2) (.int .i64 J.y2)
        have Z1 := four_cells X1 rfl (.int .i64 J.x1) (.int .i64 J.y1) (.int .i64 J.x2) (.int .i64 J.y2)
        have hb3 := (((hb2.setCell (p := ⟨w.heap.size + 1, 0, none⟩) (by show _ ≤ w.heap.size + 1; omega) (.int .i64 J.x1)).setCell (p := ⟨w.heap.size + 1, 1, none⟩) (by show _ ≤ w.heap.size + 1; omega) (.int .i64 J.y1)).setCell (p := ⟨w.heap.size + 1, 2, none⟩) (by show _ ≤ w.heap.size + 1; omega) (.int .i64 J.x2)).setCell (p := ⟨w.heap.size + 1, 3, none⟩) (by show _ ≤ w.heap.size + 1; omega) (.int .i64 J.y2)
        have HZ := Lib.hid (⟨Z0, Z1⟩ : _ ∧ _)
        have HB3 := Lib.hid hb3
        clear Z0 Z1 hb3 X0 X1 hb2 hJ b3
        go_wp2_with fail
        go_roundw
        case rel => exact ⟨i + 1, true, rfl, Lib.hid (by rw [HE.out]; simp), by go_num, by omega, Lib.hid ⟨HZ.out.1, by rw [HF.out, if_neg HM.out, HY.out, HX.out, HJ.out]; exact HZ.out.2⟩, HB3.out⟩
        case measure => simp [intOf]; omega
  · obtain rfl : i = xs.length := by omega
    have g1 : ¬ ((xs.length : Int) < (xs.length : Int)) := by omega
    have HFU := Lib.hid (fillC_full xs s HNE.out)
    obtain ⟨X0, X1⟩ := hh.out
    rw [HFU.out] at X1
    obtain ⟨J, hJ⟩ : ∃ J, boxS xs s = J := ⟨_, rfl⟩
    rw [hJ] at X1
    have HJ := Lib.hid hJ
    have v0 := X1.c0
    have v1 := X1.c1
    have v2 := X1.c2
    have v3 := X1.c3
    have u0 := X0.c0
    have u1 := X0.c1
    have u2 := X0.c2
    have u3 := X0.c3
    have uF := X0.frozen
    have R6 := four_cells X0 rfl (.int .i64 J.x1) (.int .i64 J.y1) (.int .i64 J.x2) (.int .i64 J.y2)
    have d0 := R6.c0
    have d1 := R6.c1
    have d2 := R6.c2
    have d3 := R6.c3
    have hb3 := (((hb.setCell (p := ⟨w.heap.size, 0, none⟩) (Nat.le_refl _) (.int .i64 J.x1)).setCell (p := ⟨w.heap.size, 1, none⟩) (Nat.le_refl _) (.int .i64 J.y1)).setCell (p := ⟨w.heap.size, 2, none⟩) (Nat.le_refl _) (.int .i64 J.x2)).setCell (p := ⟨w.heap.size, 3, none⟩) (Nat.le_refl _) (.int .i64 J.y2)
    have HB3 := Lib.hid hb3
    clear hh hJ hsy hb3 R6 X0 X1 hb
    go_wp2_with fail
    refine bodyPost_ret (v := .agg #[.int .i64 J.x1, .int .i64 J.y1, .int .i64 J.x2, .int .i64 J.y2]) (by simp [results, Try.results68, go_sem, d0, d1, d2, d3]) rfl ⟨by rw [HJ.out], HB3.out⟩
end Go.Proofs.Ytmopioaojdlnkaa
