/- Trees: LeavesOf of the program and of the reference. Conditions: none. -/
import Derived.Test.YtmopioaojdlnkaaRd6t
import Derived.Test.YtmopioaojdlnkaaRdEt
import Derived.Test.YtmopioaojdlnkaaSymst
namespace Go.Proofs.Ytmopioaojdlnkaa
open Go Go.RowKit
set_option maxRecDepth 100000 in
set_option maxHeartbeats 4000000 in
theorem impl_LeavesOf_c {e et : TypeId} {o ot : Bool} {xs : List PSymbol} {ns : List PNode} {vl vt : Value} {Fl Ft : List Nat} (w : World) (h : (pSymbols e).rep o w xs [vl] Fl) (ht : (pNodes et).rep ot w ns [vt] Ft) (hx : xs.length ≤ 1048576) (hsz : ∀ c ∈ xs, c.label.size ≤ 1048576) :
 Calls Try.prog 19 #[vl, .agg #[vt]] w (GivesL (nums 2) (leavesR xs ns) (askF xs ns) w) := by
 have CK := Lib.hid (fun w' q q' => impl_checked_c (e := e) (et := et) (o := o) (ot := ot) (xs := xs) (ns := ns) (vl := vl) (vt := vt) (Fl := Fl) (Ft := Ft) w' q q' hx hsz)
 have H := Lib.hid h
 have HT := Lib.hid ht
 obtain ⟨A, c, rfl⟩ := slice_len h
 obtain ⟨B, d, rfl, hd1, hd2, hr⟩ := pNodes_open ht
 clear h ht
 have R := Row.new w 28 #[.slice B ns.length d]
 have t0 := R.c0
 go_enter Try.func19, Try.ntmps19
 go_wp2_with fail
 refine (CK.out _ (H.out.alloc _) (HT.out.alloc _)).mono ?_
 rintro en w1 ⟨b1, p, rfl, hp⟩
 have b0 : Below w.heap.size w w1 := ((Below.refl _ _).alloc (Nat.le_refl _) _).trans (b1.mono (by simp))
 clear hp
 by_cases h0 : askF xs ns = 0
 · have HC : Hid (leavesR xs ns = symsF ns 0 ns.length) := by show _ = _; rw [leavesR, if_pos h0]
   have HA := Lib.hid h0
   have htr := (ask_zero h0).2
   have hn2 := tree_few htr
   rw [h0]
   clear t0
   replace R := R.later b1
   have t0 := R.c0
   clear h0 htr
   go_wp2_with fail
   go_loopw [8, 23] (fun lv i wr => ∃ (k : Nat) (u : Value) (G : List Nat), k ≤ ns.length ∧ i = .int .i64 k ∧ u = lv ∧ (nums 2).rep true wr (symsF ns 0 k) [u] G ∧ Fresh (w.heap.size) G ∧ Below w.heap.size w wr) (fun _ i _ => ns.length - (intOf i).toNat)
   case atStart => exact ⟨0, _, [], Nat.zero_le _, rfl, rfl, by rw [symsF_self]; exact slice_nil _ _ _ _, Fresh.nil _, b0⟩
   case round =>
    obtain ⟨k, u, G, hk, rfl, rfl, hrep, hfr, hb⟩ := hrel
    have hbs := hb.size
    by_cases hlt : k < ns.length
    · obtain ⟨b, off, rfl, hbb, _, q0, q1, q2, q3, j0, j1, j2, j3⟩ := hr k hlt
      rw [← hb.cell (p := ⟨b, _, none⟩) hbb] at q0 q1 q2 q3
      have hE : symsF ns 0 (k + 1) = symsF ns 0 k ++ symOf (nodeAt ns k) := symsF_succ ns (Nat.zero_le _)
      rw [nodeAt_get hlt] at hE
      obtain ⟨⟨kd, za, zb, zs⟩, hnk⟩ : ∃ n, ns[k] = n := ⟨_, rfl⟩
      rw [hnk] at q0 q1 q2 q3 j0 j1 j2 j3 hE
      dsimp only at q0 q1 q2 q3 j0 j1 j2 j3 hE
      have i1 : (k : Int) < (ns.length : Int) := by omega
      have i2 := IntWalk.i64_in ((k : Int) + 1) (by omega)
      have i3 : (0 : Int) ≤ (k : Int) := by omega
      have HLEN := Lib.hid (show (symsF ns 0 k).length ≤ 15 by have := symsF_few ns k; omega)
      have HREP := Lib.hid hrep
      obtain ⟨U, uc, rfl⟩ := slice_len hrep
      clear hr hrep hnk
      by_cases h0 : kd = 0
      · subst h0
        have HE := Lib.hid (show symsF ns 0 (k + 1) = symsF ns 0 k ++ [za] from hE)
        clear hE
        go_wp2_with (at_builtin; refine wpList_append_repX (T := int64) (e := 2) (ys := [za]) (ec := [.int .i64 za]) rfl (.tmp 30) (.tmp 33) rfl Try.underlying41 infoI rfl (by decide) rfl ((HREP.out.alloc _).alloc _) rfl (repL_nums _ (by intro s hs; simp at hs; subst hs; assumption)) (cellsAt_in _ _ _ (by simp)) trivial (by rw [List.append_nil]; exact hfr.1) (by have := HLEN.out; simp only [List.length_singleton, maxLen]; omega) (by have := HLEN.out; simp only [List.length_singleton]; omega) ?_; intro v2 w4 F2 r2 o2 q2 x2)
        have hb4 : Below w.heap.size w w4 := ((hb.alloc hbs _).alloc (by simp; omega) _).trans (o2.below (by simp; omega) (fun b hb => by have := hfr.2 b hb; omega))
        have hf4 : Fresh (w.heap.size) F2 := q2 _ (by rw [List.append_nil]; exact hfr) (by simp; omega)
        skip
        go_roundw
        case rel =>
         refine ⟨k + 1, v2, F2, by omega, by go_num, rfl, ?_, hf4, hb4⟩
         rw [HE.out]
         exact r2
        case measure => simp [intOf]; omega
      · have g0 : (kd == 0) = false := by simp [h0]
        by_cases hs : kd = 2 ∨ kd = 5
        · have HE : Hid (symsF ns 0 (k + 1) = symsF ns 0 k ++ [zs]) := by
           show _ = _; rw [hE]; simp [symOf, h0, signed, hs]
          have CL : ∀ w : World, Calls Try.prog 39 #[.int .i64 kd] w fun e w' => e = .returned (.string (labelF kd)) ∧ w' = w := impl_signOf_c kd
          obtain ⟨lb, hlb, hl0⟩ : ∃ b, labelF kd = ⟨#[b]⟩ ∧ True := by rcases hs with rfl | rfl <;> exact ⟨_, rfl, trivial⟩
          rw [hlb] at CL
          have HCL := Lib.hid CL
          clear hE CL hs h0 hlb hl0
          go_wp2_with fail
          refine (HCL.out _).mono ?_
          rintro en w3 ⟨rfl, rfl⟩
          go_wp2_with (at_builtin; refine wpList_append_repX (T := int64) (e := 2) (ys := [zs]) (ec := [.int .i64 zs]) rfl (.tmp 39) (.tmp 42) rfl Try.underlying41 infoI rfl (by decide) rfl ((HREP.out.alloc _).alloc _) rfl (repL_nums _ (by intro s hs; simp at hs; subst hs; assumption)) (cellsAt_in _ _ _ (by simp)) trivial (by rw [List.append_nil]; exact hfr.1) (by have := HLEN.out; simp only [List.length_singleton, maxLen]; omega) (by have := HLEN.out; simp only [List.length_singleton]; omega) ?_; intro v2 w4 F2 r2 o2 q2 x2)
          have hb4 : Below w.heap.size w w4 := ((hb.alloc hbs _).alloc (by simp; omega) _).trans (o2.below (by simp; omega) (fun b hb => by have := hfr.2 b hb; omega))
          have hf4 : Fresh (w.heap.size) F2 := q2 _ (by rw [List.append_nil]; exact hfr) (by simp; omega)
          skip
          go_roundw
          case rel =>
           refine ⟨k + 1, v2, F2, by omega, by go_num, rfl, ?_, hf4, hb4⟩
           rw [HE.out]
           exact r2
          case measure => simp [intOf]; omega
        · have HE : Hid (symsF ns 0 (k + 1) = symsF ns 0 k) := by
           show _ = _; rw [hE]; simp [symOf, h0, signed, hs]
          have CL : ∀ w : World, Calls Try.prog 39 #[.int .i64 kd] w fun e w' => e = .returned (.string (labelF kd)) ∧ w' = w := impl_signOf_c kd
          rw [show labelF kd = ⟨#[]⟩ from by unfold labelF; rw [if_neg (by omega), if_neg (by omega)]; rfl] at CL
          have HCL := Lib.hid CL
          clear hE CL hs h0
          go_wp2_with fail
          refine (HCL.out _).mono ?_
          rintro en w3 ⟨rfl, rfl⟩
          go_wp2_with fail
          skip
          go_roundw
          case rel =>
           refine ⟨k + 1, _, G, by omega, by go_num, rfl, ?_, hfr, hb.alloc hbs _⟩
           · rw [HE.out]
             exact HREP.out.alloc _
          case measure => simp [intOf]; omega
    · obtain rfl : k = ns.length := by omega
      have i1 : ¬ ((ns.length : Int) < (ns.length : Int)) := by omega
      obtain ⟨U, uc, rfl⟩ := slice_len hrep
      have HREP := Lib.hid hrep
      clear hr hrep
      go_wp2_with fail
      refine bodyPost_ret (v := .tuple #[_, .int .i64 0]) (by simp [results, Try.results19, go_sem]; rfl) rfl ⟨_, G, by rw [HA.out], by rw [HC.out]; exact HREP.out, hfr.mono (by omega), hb⟩
 · have HC : Hid (leavesR xs ns = []) := by show _ = _; rw [leavesR, if_neg h0]
   have g : (askF xs ns != 0) = true := by simp [h0]
   clear h0
   go_wp2_with fail
   refine bodyPost_ret (v := .tuple #[.slice none 0 0, .int .i64 (askF xs ns)]) (by simp [results, Try.results19, go_sem]) rfl ⟨_, [], rfl, by rw [HC.out]; exact slice_nil _ _ _ _, Fresh.nil _, b0⟩
set_option maxRecDepth 100000 in
set_option maxHeartbeats 4000000 in
theorem spec_LeavesOf_c {e et : TypeId} {o ot : Bool} {xs : List PSymbol} {ns : List PNode} {vl vt : Value} {Fl Ft : List Nat} (w : World) (h : (pSymbols e).rep o w xs [vl] Fl) (ht : (pNodes et).rep ot w ns [vt] Ft) (hx : xs.length ≤ 1048576) (hsz : ∀ c ∈ xs, c.label.size ≤ 1048576) :
 Calls Try.prog 20 #[vl, .agg #[vt]] w (GivesL (nums 2) (leavesR xs ns) (askF xs ns) w) := by
 have R := Row.new w 28 #[vt]
 have bA : Below w.heap.size w (w.alloc (.cells #[vt] 28)) := (Below.refl _ _).alloc (Nat.le_refl _) _
 have CR := Lib.hid (spec_l21Ask_c (w.alloc (.cells #[vt] 28)) (h.alloc _) (ht.alloc _) R hx hsz)
 have BA := Lib.hid bA
 have HR := Lib.hid R
 obtain ⟨B, d, rfl, hd1, hd2, hr⟩ := pNodes_open ht
 clear h ht R bA
 go_enter Try.func20, Try.ntmps20
 go_wp2_with fail
 refine CR.out.mono ?_
 rintro en w1 ⟨b1, p, rfl, hp⟩
 have b0 := BA.out.trans (b1.mono (by simp))
 clear hp
 by_cases h0 : askF xs ns = 0
 · have HC : Hid (leavesR xs ns = symsF ns 0 ns.length) := by show _ = _; rw [leavesR, if_pos h0]
   have HA := Lib.hid h0
   have htr := (ask_zero h0).2
   have hn2 := tree_few htr
   rw [h0]
   have R1 := HR.out.later b1
   have t0 := R1.c0
   have lR := R1.lt
   clear h0 htr b1
   go_wp2_with fail
   go_loopw [8, 9] (fun lv i wr => ∃ (k : Nat) (u : Value) (G : List Nat), k ≤ ns.length ∧ i = .int .i64 k ∧ u = lv ∧ (nums 2).rep true wr (symsF ns 0 k) [u] G ∧ Fresh (w.heap.size + 1) G ∧ Below w.heap.size w wr ∧ wr.cell? ⟨w.heap.size, 0, none⟩ = some (.slice B ns.length d) ∧ w.heap.size < wr.heap.size) (fun _ i _ => ns.length - (intOf i).toNat)
   case atStart => 
    have R2 := Row.new w1 2 #[]
    have S := slice_of_row (T := int64) (xs := ([] : List Int)) R2 (repL_nums [] (by simp)) (by simp [maxLen])
    refine ⟨0, _, [w1.heap.size], Nat.zero_le _, rfl, rfl, by rw [symsF_self]; exact S, ⟨by simp, fun b hb => by simp at hb; omega⟩, b0.alloc b0.size _, (World.cell?_alloc_past _ _ _ lR).trans t0, by simp; omega⟩
   case round =>
    obtain ⟨k, u, G, hk, rfl, rfl, hrep, hfr, hb, t0, hsz⟩ := hrel
    have hbs := hb.size
    by_cases hlt : k < ns.length
    · obtain ⟨b, off, rfl, hbb, _, q0, q1, q2, q3, j0, j1, j2, j3⟩ := hr k hlt
      rw [← hb.cell (p := ⟨b, _, none⟩) hbb] at q0 q1 q2 q3
      have hE : symsF ns 0 (k + 1) = symsF ns 0 k ++ symOf (nodeAt ns k) := symsF_succ ns (Nat.zero_le _)
      rw [nodeAt_get hlt] at hE
      obtain ⟨⟨kd, za, zb, zs⟩, hnk⟩ : ∃ n, ns[k] = n := ⟨_, rfl⟩
      rw [hnk] at q0 q1 q2 q3 j0 j1 j2 j3 hE
      dsimp only at q0 q1 q2 q3 j0 j1 j2 j3 hE
      have i1 : (k : Int) < (ns.length : Int) := by omega
      have i2 := IntWalk.i64_in ((k : Int) + 1) (by omega)
      have i3 : (0 : Int) ≤ (k : Int) := by omega
      have HLEN := Lib.hid (show (symsF ns 0 k).length ≤ 15 by have := symsF_few ns k; omega)
      have HREP := Lib.hid hrep
      obtain ⟨U, uc, rfl⟩ := slice_len hrep
      clear hr hrep hnk
      by_cases h0 : kd = 0
      · subst h0
        have HE := Lib.hid (show symsF ns 0 (k + 1) = symsF ns 0 k ++ [za] from hE)
        clear hE
        go_wp2_with (at_builtin; refine wpList_append_repX (T := int64) (e := 2) (ys := [za]) (ec := [.int .i64 za]) rfl (.tmp 35) (.tmp 38) rfl Try.underlying41 infoI rfl (by decide) rfl ((HREP.out.alloc _).alloc _) rfl (repL_nums _ (by intro s hs; simp at hs; subst hs; assumption)) (cellsAt_in _ _ _ (by simp)) trivial (by rw [List.append_nil]; exact hfr.1) (by have := HLEN.out; simp only [List.length_singleton, maxLen]; omega) (by have := HLEN.out; simp only [List.length_singleton]; omega) ?_; intro v2 w4 F2 r2 o2 q2 x2)
        have hb4 : Below w.heap.size w w4 := ((hb.alloc hbs _).alloc (by simp; omega) _).trans (o2.below (by simp; omega) (fun b hb => by have := hfr.2 b hb; omega))
        have hf4 : Fresh (w.heap.size + 1) F2 := q2 _ (by rw [List.append_nil]; exact hfr) (by simp; omega)
        have t4 : w4.cell? ⟨w.heap.size, 0, none⟩ = some (.slice _ ns.length d) := (only_cellC o2 (by simp; omega) (fun hin => by have := hfr.2 _ hin; omega)).trans ((World.cell?_alloc_past _ _ _ (by simp; omega)).trans ((World.cell?_alloc_past _ _ _ hsz).trans t0))
        have hsz4 := o2.size
        simp only [World.size_alloc] at hsz4
        go_roundw
        case rel =>
         refine ⟨k + 1, v2, F2, by omega, by go_num, rfl, ?_, hf4, hb4, t4, by omega⟩
         rw [HE.out]
         exact r2
        case measure => simp [intOf]; omega
      · have g0 : (kd == 0) = false := by simp [h0]
        by_cases hs : kd = 2 ∨ kd = 5
        · have HE : Hid (symsF ns 0 (k + 1) = symsF ns 0 k ++ [zs]) := by
           show _ = _; rw [hE]; simp [symOf, h0, signed, hs]
          have CL : ∀ w : World, Calls Try.prog 40 #[.int .i64 kd] w fun e w' => e = .returned (.string (labelF kd)) ∧ w' = w := spec_l21Label_c kd
          obtain ⟨lb, hlb, hl0⟩ : ∃ b, labelF kd = ⟨#[b]⟩ ∧ True := by rcases hs with rfl | rfl <;> exact ⟨_, rfl, trivial⟩
          rw [hlb] at CL
          have HCL := Lib.hid CL
          clear hE CL hs h0 hlb hl0
          go_wp2_with fail
          refine (HCL.out _).mono ?_
          rintro en w3 ⟨rfl, rfl⟩
          go_wp2_with (at_builtin; refine wpList_append_repX (T := int64) (e := 2) (ys := [zs]) (ec := [.int .i64 zs]) rfl (.tmp 44) (.tmp 47) rfl Try.underlying41 infoI rfl (by decide) rfl ((HREP.out.alloc _).alloc _) rfl (repL_nums _ (by intro s hs; simp at hs; subst hs; assumption)) (cellsAt_in _ _ _ (by simp)) trivial (by rw [List.append_nil]; exact hfr.1) (by have := HLEN.out; simp only [List.length_singleton, maxLen]; omega) (by have := HLEN.out; simp only [List.length_singleton]; omega) ?_; intro v2 w4 F2 r2 o2 q2 x2)
          have hb4 : Below w.heap.size w w4 := ((hb.alloc hbs _).alloc (by simp; omega) _).trans (o2.below (by simp; omega) (fun b hb => by have := hfr.2 b hb; omega))
          have hf4 : Fresh (w.heap.size + 1) F2 := q2 _ (by rw [List.append_nil]; exact hfr) (by simp; omega)
          have t4 : w4.cell? ⟨w.heap.size, 0, none⟩ = some (.slice _ ns.length d) := (only_cellC o2 (by simp; omega) (fun hin => by have := hfr.2 _ hin; omega)).trans ((World.cell?_alloc_past _ _ _ (by simp; omega)).trans ((World.cell?_alloc_past _ _ _ hsz).trans t0))
          have hsz4 := o2.size
          simp only [World.size_alloc] at hsz4
          go_roundw
          case rel =>
           refine ⟨k + 1, v2, F2, by omega, by go_num, rfl, ?_, hf4, hb4, t4, by omega⟩
           rw [HE.out]
           exact r2
          case measure => simp [intOf]; omega
        · have HE : Hid (symsF ns 0 (k + 1) = symsF ns 0 k) := by
           show _ = _; rw [hE]; simp [symOf, h0, signed, hs]
          have CL : ∀ w : World, Calls Try.prog 40 #[.int .i64 kd] w fun e w' => e = .returned (.string (labelF kd)) ∧ w' = w := spec_l21Label_c kd
          rw [show labelF kd = ⟨#[]⟩ from by unfold labelF; rw [if_neg (by omega), if_neg (by omega)]; rfl] at CL
          have HCL := Lib.hid CL
          clear hE CL hs h0
          go_wp2_with fail
          refine (HCL.out _).mono ?_
          rintro en w3 ⟨rfl, rfl⟩
          go_wp2_with fail
          skip
          go_roundw
          case rel =>
           refine ⟨k + 1, _, G, by omega, by go_num, rfl, ?_, hfr, hb.alloc hbs _, ?_, by simp; omega⟩
           · rw [HE.out]
             exact HREP.out.alloc _
           · exact (World.cell?_alloc_past _ _ _ hsz).trans t0
          case measure => simp [intOf]; omega
    · obtain rfl : k = ns.length := by omega
      have i1 : ¬ ((ns.length : Int) < (ns.length : Int)) := by omega
      obtain ⟨U, uc, rfl⟩ := slice_len hrep
      have HREP := Lib.hid hrep
      clear hr hrep
      go_wp2_with fail
      refine bodyPost_ret (v := .tuple #[_, .int .i64 0]) (by simp [results, Try.results20, go_sem]; rfl) rfl ⟨_, G, by rw [HA.out], by rw [HC.out]; exact HREP.out, hfr.mono (by omega), hb⟩
 · have HC : Hid (leavesR xs ns = []) := by show _ = _; rw [leavesR, if_neg h0]
   have g : (askF xs ns != 0) = true := by simp [h0]
   clear h0
   go_wp2_with fail
   refine bodyPost_ret (v := .tuple #[.slice none 0 0, .int .i64 (askF xs ns)]) (by simp [results, Try.results20, go_sem]) rfl ⟨_, [], rfl, by rw [HC.out]; exact slice_nil _ _ _ _, Fresh.nil _, b0⟩
set_option maxRecDepth 100000 in
set_option maxHeartbeats 400000 in
theorem f6ints_c {oa ob : Bool} {ea eb : TypeId} {xs ys : List Int} {v u : Value} {F G : List Nat} (w : World) (h : (nums ea).rep oa w xs [v] F) (h' : (nums eb).rep ob w ys [u] G) (hx : xs.length ≤ 1048576) (hy : ys.length ≤ 1048576) :
 Calls Try.prog 24 #[v, u] w fun e w' => e = .returned (.bool (decide (xs = ys))) ∧ Below w.heap.size w w' := by
 obtain ⟨A, c, rfl, hc1, hc2, hr⟩ := nums_open h
 obtain ⟨B, d, rfl, hd1, hd2, hs⟩ := nums_open h'
 clear h h'
 by_cases hl : xs.length = ys.length
 · have hne : ((xs.length : Int) != (ys.length : Int)) = false := by simp [hl]
   have HL := Lib.hid hl
   clear hl
   go_enter Try.func24, Try.ntmps24
   go_wp2_with fail
   go_loopw [5] (fun i wr => ∃ k : Nat, k ≤ xs.length ∧ i = .int .i64 k ∧ (∀ j (hj : j < xs.length) (hj' : j < ys.length), j < k → xs[j] = ys[j]) ∧ Below w.heap.size w wr) (fun i _ => xs.length - (intOf i).toNat)
   case atStart => exact ⟨0, Nat.zero_le _, rfl, fun _ _ _ h => by omega, Below.refl _ _⟩
   case round =>
    obtain ⟨k, hk, rfl, hall, hb⟩ := hrel
    have hbs := hb.size
    by_cases hlt : k < xs.length
    · have hlt' : k < ys.length := by have := HL.out; omega
      obtain ⟨b, off, rfl, hbb, _, h0, _⟩ := hr k hlt
      obtain ⟨b', off', rfl, hbb', _, h0', _⟩ := hs k hlt'
      rw [← hb.cell (p := ⟨b, _, none⟩) hbb] at h0
      rw [← hb.cell (p := ⟨b', _, none⟩) hbb'] at h0'
      have HA := Lib.hid hall
      clear hr hs hall
      by_cases heq : xs[k] = ys[k]
      · have hq : (xs[k] != ys[k]) = false := by rw [heq]; simp
        have HE := Lib.hid heq
        clear heq
        go_wp2_with fail
        go_quiet (fail)
        go_wp2_with fail
        go_roundw
        case rel =>
         refine ⟨k + 1, by omega, by go_num, fun j hj hj' hjk => ?_, below_drewN hb nq⟩
         by_cases e : j = k
         · subst e; exact HE.out
         · exact HA.out j hj hj' (by omega)
        case measure => simp [intOf]; omega
      · have hq : (xs[k] != ys[k]) = true := by rw [bne_iff_ne]; exact heq
        have hne : ¬ xs = ys := fun e => by subst e; exact heq rfl
        have HE := Lib.hid hne
        clear heq hne
        go_wp2_with fail
        go_quiet (fail)
        go_wp2_with fail
        go_ret
        exact ⟨by simp [HE.out], below_drewN hb nq⟩
    · obtain rfl : k = xs.length := by omega
      have heq : xs = ys := List.ext_getElem HL.out (fun j h1 h2 => hall j h1 h2 h1)
      clear hall
      go_wp2_with fail
      go_ret
      exact ⟨by simp [heq], hb⟩
 · have hne : ((xs.length : Int) != (ys.length : Int)) = true := by rw [bne_iff_ne]; omega
   have hxy : ¬ xs = ys := fun e => hl (by rw [e])
   have HL := Lib.hid hxy
   clear hl hxy
   go_enter Try.func24, Try.ntmps24
   go_wp2_with fail
   go_ret
   exact ⟨by simp [HL.out], Below.refl _ _⟩
end Go.Proofs.Ytmopioaojdlnkaa
