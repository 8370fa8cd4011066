/- The program's best tree: build. Conditions: none. -/
import Derived.Test.YtmopioaojdlnkaaTkt
import Derived.Test.YtmopioaojdlnkaaPtHt
import Derived.Test.YtmopioaojdlnkaaStepAppt
namespace Go.Proofs.Ytmopioaojdlnkaa
open Go Go.RowKit
theorem Prs.only {e : TypeId} {o : Bool} {xs : List PSymbol} {vl : Value} {Fl : List Nat} {gp gb gt gn N : Nat} {K : Nat → RC} {w w' : World} {F : List Nat} (h : Prs e o xs vl Fl gp gb gt gn N K w) (b : Only F w w') (hd : ∀ x ∈ F, x ∉ [gp, gb, gt, gn] ∧ x ∉ Fl) : Prs e o xs vl Fl gp gb gt gn N K w' :=
 ⟨row_only h.row b (fun hin => (hd _ hin).1 (by simp)), h.syms.only b (fun x hx hin => (hd x hin).2 hx), row_only h.boxes b (fun hin => (hd _ hin).1 (by simp)), row_only h.best b (fun hin => (hd _ hin).1 (by simp)), row_only h.count b (fun hin => (hd _ hin).1 (by simp)), h.nd, h.dis⟩
theorem cellsAt_drew {w : World} {A : Option Addr} {cs : List Value} (h : CellsAt w A cs) : CellsAt w.drew A cs := h
def BuildPost (tb : Nat) (ns : List PNode) (F : List Nat) (T : AT) (w : World) (en : Ending) (w' : World) : Prop :=
 en = .returned (.int .i64 ((ns.length + T.sz : Nat) - 1 : Int)) ∧ ∃ v' F', Row w' tb 28 [v'] ∧ (pNodes 76).rep true w' (ns ++ T.nodes ns.length) [v'] F' ∧ Only (tb :: F) w w' ∧ (∀ B, Fresh B F → B ≤ w.heap.size → Fresh B F') ∧ ∀ b ∈ F', b ∈ F ∨ w.heap.size ≤ b
set_option maxRecDepth 100000 in
set_option maxHeartbeats 8000000 in
theorem impl_build_c {e : TypeId} {ob : Bool} {xs : List PSymbol} {vl : Value} {Fl : List Nat} {gp gb gt gn N B tb : Nat} {K : Nat → RC} (g : Grd xs N) (hk : RcOk xs (fixK K) N) (hB4 : ∀ x ∈ [gp, gb, gt, gn], x < B ∧ x ≠ tb) (htB : tb < B) (htl : tb ∉ Fl) (hl : ∀ b ∈ Fl, b < B) : ∀ (s : Nat), s ≠ 0 → s < N → (cellAt xs s).ways ≠ 0 → ∀ (ns : List PNode) (v : Value) (F : List Nat) (w : World), Prs e ob xs vl Fl gp gb gt gn N K w → Row w tb 28 [v] → (pNodes 76).rep true w ns [v] F → Fresh B F → B ≤ w.heap.size → ns.length + (treeAt xs s).sz ≤ 1000 →
 Calls Try.prog 31 #[.pointer (some ⟨gp, 0, none⟩), .pointer (some ⟨tb, 0, none⟩), .int .i64 (s : Int)] w (BuildPost tb ns F (treeAt xs s) w) := by
 intro s
 induction s using Nat.strongRecOn with
 | _ s ih =>
 intro h0 hs hw ns v F w h hT hr hf hB hsz
 have hs' : s < 2 ^ xs.length := g.size ▸ hs
 have hN := g.le
 obtain ⟨m0, m1, m2, m3, m4⟩ := h.bestCell hs
 obtain ⟨C, hC⟩ : ∃ C, K s = C := ⟨_, rfl⟩
 rw [hC] at m0 m1 m2 m3 m4
 have p2 := h.row.c2
 have i5 : (0 : Int) ≤ (s : Int) := by omega
 have i6 : (s : Int) < (N : Int) := by omega
 have e1 : IntKind.i64.wrap ((s : Int) - 1) = ((s - 1 : Nat) : Int) := by rw [IntWalk.i64_in _ (by omega)]; omega
 have hband := i64_and s (s - 1) (by omega) (by omega)
 have htest := pow_test s (by omega) h0
 have H := Lib.hid h
 have HR := Lib.hid hr
 have HF := Lib.hid hf
 have IH := Lib.hid ih
 have HL := Lib.hid hl
 have HB4 := Lib.hid hB4
 have hgF : ∀ b ∈ F, b < w.heap.size := fun b hb => (pNodes _).lt hr b hb
 have htw := hT.lt
 have hlgp := h.row.lt
 have hlgt := h.best.lt
 obtain ⟨A, c, rfl⟩ := slice_len hr
 by_cases h1 : s = 2 ^ s.log2
 · rw [htest.2 h1] at hband
   have hTr := Lib.hid (treeAt_single xs h1)
   rw [hTr.out] at hsz
   have hq : s.log2 ≤ 7 := by
    have : s.log2 < xs.length := bit_lt hs' (by rw [h1, Nat.log2_two_pow, Nat.testBit_two_pow]; simp)
    have := g.few
    omega
   dsimp only [AT.sz] at hsz
   obtain ⟨q, hqq⟩ : ∃ q, s.log2 = q := ⟨_, rfl⟩
   rw [hqq] at hTr hq h1
   have RN := (Row.new w 76 #[.int .i64 0, .int .i64 0, .int .i64 0, .int .i64 0]).alloc (.cells #[.int .i64 C.kind, .int .i64 C.sign, .int .i64 C.first, .int .i64 C.rest, .int .i64 C.cost] 65)
   have bb : Below w.heap.size w ((w.alloc (.cells #[.int .i64 0, .int .i64 0, .int .i64 0, .int .i64 0] 76)).alloc (.cells #[.int .i64 C.kind, .int .i64 C.sign, .int .i64 C.first, .int .i64 C.rest, .int .i64 C.cost] 65)) := ((Below.refl _ _).alloc (Nat.le_refl _) _).alloc (by simp) _
   have HS := Lib.hid h1
   clear hC h1 h hr hf ih hl hk hqq htest hB4
   go_enter Try.func31, Try.ntmps31
   go_upto_region 4 with fail
   generalize (w.alloc (.cells #[.int .i64 0, .int .i64 0, .int .i64 0, .int .i64 0] 76)).alloc (.cells #[.int .i64 C.kind, .int .i64 C.sign, .int .i64 C.first, .int .i64 C.rest, .int .i64 C.cost] 65) = w1 at RN bb ⊢
   have RNH := Lib.hid (show Row w1 w.heap.size 76 [.int .i64 0, .int .i64 ((0 : Nat) : Int), .int .i64 0, .int .i64 0] from RN)
   clear RN
   go_loopw [] (fun wr => ∃ (a : Nat), a ≤ q ∧ Hid (Row wr w.heap.size 76 [.int .i64 0, .int .i64 (a : Int), .int .i64 0, .int .i64 0]) ∧ Below w.heap.size w wr) (fun wr => q - (intOf ((wr.cell? ⟨w.heap.size, 1, none⟩).getD (.int .i64 0))).toNat)
   case atStart => exact ⟨0, Nat.zero_le _, RNH, bb⟩
   case round =>
    obtain ⟨a, haq, hRN, hb⟩ := hrel
    have n1 := hRN.out.c1
    have nF := hRN.out.frozen
    have a0 : (0 : Int) ≤ (a : Int) := by omega
    have a64 : (a : Int) ≤ 64 := by omega
    have hsh := i64_shl a (by omega)
    have kw := IntWalk.i64_in ((a : Int) + 1) (by omega)
    by_cases hlt : a < q
    · have hne : 2 ^ a ≠ s := by rw [HS.out]; exact Nat.ne_of_lt (Nat.pow_lt_pow_right (by decide) hlt)
      obtain ⟨P2, hP2⟩ : ∃ p, 2 ^ a = p := ⟨_, rfl⟩
      rw [hP2] at hsh hne
      have y1 : ((P2 : Int) != (s : Int)) = true := by simp only [bne_iff_ne, ne_eq]; omega
      have R2 := hRN.out.set 1 (.int .i64 ((a : Int) + 1))
      have ea : ((a + 1 : Nat) : Int) = (a : Int) + 1 := by omega
      have HR2 : Hid (Row (wr.setCell ⟨w.heap.size, 1, none⟩ (.int .i64 ((a : Int) + 1))) w.heap.size 76 [.int .i64 0, .int .i64 ((a + 1 : Nat) : Int), .int .i64 0, .int .i64 0]) := Lib.hid (by rw [ea]; exact R2)
      clear ea
      have hb2 := Lib.hid (hb.setCell (p := ⟨w.heap.size, 1, none⟩) (Nat.le_refl _) (.int .i64 ((a : Int) + 1)))
      clear R2 hb hP2 hne
      go_wp2_with fail
      go_roundw
      case rel => exact ⟨a + 1, by omega, HR2, hb2.out⟩
      case measure =>
       have n2 := HR2.out.c1
       rw [n1, n2]
       simp [intOf]
       omega
    · obtain rfl : a = q := by omega
      have hP2 : 2 ^ a = s := HS.out.symm
      rw [hP2] at hsh
      clear hlt hP2 n1 nF
      have RN := hRN.out
      have R2 := Lib.hid (HR.out.below hb)
      have RT := hT.later hb
      have OX : Only (tb :: F) w wr := Only.of_below hb
      have H2 := Lib.hid (H.out.below hb)
      have n1 := RN.c1
      have HLEN : Hid (ns.length = ns.length) := Lib.hid rfl
      have kw1 : IntKind.i64.wrap (ns.length : Int) = (ns.length : Int) := IntWalk.i64_in _ (by omega)
      have kw2 : IntKind.i64.wrap ((ns.length : Int) + 1 - 1) = (ns.length : Int) := by rw [Int.add_sub_cancel]; exact kw1
      have hok : ∀ x ∈ [(⟨0, (a : Int), 0, 0⟩ : PNode)], pNodeOk x := fun x hx => by simp only [List.mem_singleton] at hx; subst hx; unfold pNodeOk I64; dsimp only; omega
      have HOK := Lib.hid hok
      clear hok
      have u0 := RN.c0
      have u1 := RN.c1
      have u2 := RN.c2
      have u3 := RN.c3
      have t0 := RT.c0
      have tF := RT.frozen
      have hbn := RN.lt
      have htb := RT.lt
      go_upto_region 10 with fail
      have hS : (fun w' : World => w'.cell? ⟨w.heap.size, 0, none⟩ = some (.int .i64 0) ∧ w'.cell? ⟨w.heap.size, 1, none⟩ = some (.int .i64 (a : Int)) ∧ w'.cell? ⟨w.heap.size, 2, none⟩ = some (.int .i64 0) ∧ w'.cell? ⟨w.heap.size, 3, none⟩ = some (.int .i64 0)) wr.drew := ⟨u0, u1, u2, u3⟩
      dsimp only at hS
      refine wp_region_held_drew (S := (fun w' : World => w'.cell? ⟨w.heap.size, 0, none⟩ = some (.int .i64 0) ∧ w'.cell? ⟨w.heap.size, 1, none⟩ = some (.int .i64 (a : Int)) ∧ w'.cell? ⟨w.heap.size, 2, none⟩ = some (.int .i64 0) ∧ w'.cell? ⟨w.heap.size, 3, none⟩ = some (.int .i64 0))) (by kernel_rfl) hS (fun _ => ?_)
      have past : ∀ (x : Obj) (i : Nat) (u : Value), w.heap.size < wr.heap.size → wr.cell? ⟨w.heap.size, i, none⟩ = some u → (wr.alloc x).drew.cell? ⟨w.heap.size, i, none⟩ = some u := fun x i u hg hc => (World.cell?_alloc_past (w := wr) _ _ _ hg).trans hc
      refine tJ 0 hS ?_
      refine tJ 1 hS ?_
      refine tJ 2 hS ?_
      refine tJ 3 hS ?_
      refine tJ 5 hS ?_
      refine rJ2 4 6 (fun K hK => ?_) (fun K hK => ?_)
      · skip
        go_simp
        refine hK.out _ _ hS (fun _ => ?_)
        clear hK K
        refine rJ 6 fun K hK => ?_
        go_simp
        refine hK.out _ _ ⟨past _ _ _ hbn u0, past _ _ _ hbn u1, past _ _ _ hbn u2, past _ _ _ hbn u3⟩ (fun _ => ?_)
        clear hK K
        replace hS := (⟨past _ _ _ hbn u0, past _ _ _ hbn u1, past _ _ _ hbn u2, past _ _ _ hbn u3⟩ : (wr.alloc (.cells #[.int .i64 0, .int .i64 (a : Int), .int .i64 0, .int .i64 0] 76)).drew.cell? ⟨w.heap.size, 0, none⟩ = some (.int .i64 0) ∧ (wr.alloc (.cells #[.int .i64 0, .int .i64 (a : Int), .int .i64 0, .int .i64 0] 76)).drew.cell? ⟨w.heap.size, 1, none⟩ = some (.int .i64 (a : Int)) ∧ (wr.alloc (.cells #[.int .i64 0, .int .i64 (a : Int), .int .i64 0, .int .i64 0] 76)).drew.cell? ⟨w.heap.size, 2, none⟩ = some (.int .i64 0) ∧ (wr.alloc (.cells #[.int .i64 0, .int .i64 (a : Int), .int .i64 0, .int .i64 0] 76)).drew.cell? ⟨w.heap.size, 3, none⟩ = some (.int .i64 0))
        refine rJ 7 fun K hK => ?_
        refine step_append_repX (T := pNode) (e := 76) (ys := [⟨0, (a : Int), 0, 0⟩]) (ec := [.int .i64 0, .int .i64 (a : Int), .int .i64 0, .int .i64 0]) rfl (.tmp 54) (.tmp 56) rfl Try.underlying26 infoNode rfl (by decide) rfl (R2.out.alloc _).drew rfl (repL_pNode [⟨0, (a : Int), 0, 0⟩] HOK.out) (cellsAt_drew (cellsAt_new _ _ _)) (by rw [List.append_nil]; exact HF.out.1) (by rw [HLEN.out]; simp [maxLen]; omega) (by rw [HLEN.out]; simp; omega) ?_
        intro v6 w6 F6 r6 o6 q6 x6
        have R6 := Lib.hid r6
        obtain ⟨A6, c6, hv6⟩ := slice_len r6
        rw [List.length_append, List.length_singleton, HLEN.out] at hv6
        subst hv6
        have RN6 := row_only ((RN.alloc (.cells #[.int .i64 0, .int .i64 (a : Int), .int .i64 0, .int .i64 0] 76)).drew) o6 (fun hb => by have := hgF _ hb; omega)
        have RT6 := row_only ((RT.alloc (.cells #[.int .i64 0, .int .i64 (a : Int), .int .i64 0, .int .i64 0] 76)).drew) o6 (fun hb => by have := HF.out.2 _ hb; omega)
        have O6 := Lib.hid o6
        have Q6 := Lib.hid q6
        have X6 := Lib.hid x6
        clear r6 o6 q6 x6
        have w0 := RN6.c0
        have w1' := RN6.c1
        have w2' := RN6.c2
        have w3' := RN6.c3
        have t6 := RT6.c0
        have t6F := RT6.frozen
        refine hK.out _ _ ⟨w0, w1', w2', w3'⟩ (fun _ => ?_)
        clear hK K
        replace hS := (⟨w0, w1', w2', w3'⟩ : w6.cell? ⟨w.heap.size, 0, none⟩ = some (.int .i64 0) ∧ w6.cell? ⟨w.heap.size, 1, none⟩ = some (.int .i64 (a : Int)) ∧ w6.cell? ⟨w.heap.size, 2, none⟩ = some (.int .i64 0) ∧ w6.cell? ⟨w.heap.size, 3, none⟩ = some (.int .i64 0))
        refine tJ 8 hS ?_
        refine tJ 9 hS ?_
        refine rJ 10 fun K hK => ?_
        go_simp
        have tne : w.heap.size ≠ tb := by omega
        refine hK.out _ _ ⟨(cell_far1 tne _).trans w0, (cell_far1 tne _).trans w1', (cell_far1 tne _).trans w2', (cell_far1 tne _).trans w3'⟩ (fun _ => ?_)
        clear hK K hS
        refine wpAnyH_done (by kernel_rfl) ?_ _
        have RT7 := RT6.set 0 (.slice A6 (ns.length + 1) c6)
        have ON7 := Lib.hid ((only_more (OX.trans (Only.of_below (((Below.refl wr.heap.size wr).alloc (Nat.le_refl _) _).drew))) O6.out (fun x hx => .inl (by simp [hx]))).set (p := ⟨tb, 0, none⟩) (by simp) (.slice A6 (ns.length + 1) c6))
        have HT7 := Lib.hid RT7
        have R7 := Lib.hid (R6.out.setCell (p := ⟨tb, 0, none⟩) (fun hb => by rcases X6.out.1 tb hb with hb | hb; exact absurd (HF.out.2 tb (by simpa using hb)) (by omega); simp at hb; omega) (.slice A6 (ns.length + 1) c6))
        have t7 := RT7.c0
        clear w0 w1' w2' w3' t6 t6F RT7
        generalize w6.setCell ⟨tb, 0, none⟩ (.slice A6 (ns.length + 1) c6) = w7 at ON7 HT7 R7 t7 ⊢
        go_wp2_with fail
        go_ret
        exact ⟨by rw [hTr.out]; simp [AT.sz], _, F6, HT7.out, by rw [hTr.out]; exact R7.out, ON7.out, fun B' hB' hle => Q6.out B' (by simpa using hB') (by have := hb.size; simp; omega), fun x hx => by
         rcases X6.out.1 x hx with hx | hx
         · exact .inl (by simpa using hx)
         · exact .inr (by have := hb.size; simp at hx; omega)⟩
      · skip
        go_simp
        refine hK.out _ _ ⟨past _ _ _ hbn u0, past _ _ _ hbn u1, past _ _ _ hbn u2, past _ _ _ hbn u3⟩ (fun _ => ?_)
        clear hK K
        have t1 : (wr.alloc (.cells #[.int .i64 0, .int .i64 (a : Int), .int .i64 0, .int .i64 0] 76)).drew.cell? ⟨tb, 0, none⟩ = some (.slice A ns.length c) := (World.cell?_alloc_past (w := wr) _ _ _ htb).trans t0
        refine rJ 4 fun K hK => ?_
        go_simp
        refine hK.out _ _ ⟨past _ _ _ hbn u0, past _ _ _ hbn u1, past _ _ _ hbn u2, past _ _ _ hbn u3⟩ (fun _ => ?_)
        clear hK K
        replace hS := (⟨past _ _ _ hbn u0, past _ _ _ hbn u1, past _ _ _ hbn u2, past _ _ _ hbn u3⟩ : (wr.alloc (.cells #[.int .i64 0, .int .i64 (a : Int), .int .i64 0, .int .i64 0] 76)).drew.cell? ⟨w.heap.size, 0, none⟩ = some (.int .i64 0) ∧ (wr.alloc (.cells #[.int .i64 0, .int .i64 (a : Int), .int .i64 0, .int .i64 0] 76)).drew.cell? ⟨w.heap.size, 1, none⟩ = some (.int .i64 (a : Int)) ∧ (wr.alloc (.cells #[.int .i64 0, .int .i64 (a : Int), .int .i64 0, .int .i64 0] 76)).drew.cell? ⟨w.heap.size, 2, none⟩ = some (.int .i64 0) ∧ (wr.alloc (.cells #[.int .i64 0, .int .i64 (a : Int), .int .i64 0, .int .i64 0] 76)).drew.cell? ⟨w.heap.size, 3, none⟩ = some (.int .i64 0))
        refine rJ 7 fun K hK => ?_
        refine step_append_repX (T := pNode) (e := 76) (ys := [⟨0, (a : Int), 0, 0⟩]) (ec := [.int .i64 0, .int .i64 (a : Int), .int .i64 0, .int .i64 0]) rfl (.tmp 54) (.tmp 56) rfl Try.underlying26 infoNode rfl (by decide) rfl (R2.out.alloc _).drew rfl (repL_pNode [⟨0, (a : Int), 0, 0⟩] HOK.out) (cellsAt_drew (cellsAt_new _ _ _)) (by rw [List.append_nil]; exact HF.out.1) (by rw [HLEN.out]; simp [maxLen]; omega) (by rw [HLEN.out]; simp; omega) ?_
        intro v6 w6 F6 r6 o6 q6 x6
        have R6 := Lib.hid r6
        obtain ⟨A6, c6, hv6⟩ := slice_len r6
        rw [List.length_append, List.length_singleton, HLEN.out] at hv6
        subst hv6
        have RN6 := row_only ((RN.alloc (.cells #[.int .i64 0, .int .i64 (a : Int), .int .i64 0, .int .i64 0] 76)).drew) o6 (fun hb => by have := hgF _ hb; omega)
        have RT6 := row_only ((RT.alloc (.cells #[.int .i64 0, .int .i64 (a : Int), .int .i64 0, .int .i64 0] 76)).drew) o6 (fun hb => by have := HF.out.2 _ hb; omega)
        have O6 := Lib.hid o6
        have Q6 := Lib.hid q6
        have X6 := Lib.hid x6
        clear r6 o6 q6 x6
        have w0 := RN6.c0
        have w1' := RN6.c1
        have w2' := RN6.c2
        have w3' := RN6.c3
        have t6 := RT6.c0
        have t6F := RT6.frozen
        refine hK.out _ _ ⟨w0, w1', w2', w3'⟩ (fun _ => ?_)
        clear hK K
        replace hS := (⟨w0, w1', w2', w3'⟩ : w6.cell? ⟨w.heap.size, 0, none⟩ = some (.int .i64 0) ∧ w6.cell? ⟨w.heap.size, 1, none⟩ = some (.int .i64 (a : Int)) ∧ w6.cell? ⟨w.heap.size, 2, none⟩ = some (.int .i64 0) ∧ w6.cell? ⟨w.heap.size, 3, none⟩ = some (.int .i64 0))
        refine tJ 8 hS ?_
        refine tJ 9 hS ?_
        refine rJ 10 fun K hK => ?_
        go_simp
        have tne : w.heap.size ≠ tb := by omega
        refine hK.out _ _ ⟨(cell_far1 tne _).trans w0, (cell_far1 tne _).trans w1', (cell_far1 tne _).trans w2', (cell_far1 tne _).trans w3'⟩ (fun _ => ?_)
        clear hK K hS
        refine wpAnyH_done (by kernel_rfl) ?_ _
        have RT7 := RT6.set 0 (.slice A6 (ns.length + 1) c6)
        have ON7 := Lib.hid ((only_more (OX.trans (Only.of_below (((Below.refl wr.heap.size wr).alloc (Nat.le_refl _) _).drew))) O6.out (fun x hx => .inl (by simp [hx]))).set (p := ⟨tb, 0, none⟩) (by simp) (.slice A6 (ns.length + 1) c6))
        have HT7 := Lib.hid RT7
        have R7 := Lib.hid (R6.out.setCell (p := ⟨tb, 0, none⟩) (fun hb => by rcases X6.out.1 tb hb with hb | hb; exact absurd (HF.out.2 tb (by simpa using hb)) (by omega); simp at hb; omega) (.slice A6 (ns.length + 1) c6))
        have t7 := RT7.c0
        clear w0 w1' w2' w3' t6 t6F RT7
        generalize w6.setCell ⟨tb, 0, none⟩ (.slice A6 (ns.length + 1) c6) = w7 at ON7 HT7 R7 t7 ⊢
        go_wp2_with fail
        go_ret
        exact ⟨by rw [hTr.out]; simp [AT.sz], _, F6, HT7.out, by rw [hTr.out]; exact R7.out, ON7.out, fun B' hB' hle => Q6.out B' (by simpa using hB') (by have := hb.size; simp; omega), fun x hx => by
         rcases X6.out.1 x hx with hx | hx
         · exact .inl (by simpa using hx)
         · exact .inr (by have := hb.size; simp at hx; omega)⟩
 · obtain ⟨k, q, a, b, T⟩ := cell_tree hs' h1 hw
   have his := hk.is s hs h0
   rw [fixK_many h1, hC] at his
   obtain ⟨f1, f2, f3, f4, f5⟩ := his.2 hw
   rw [T.kind] at f2
   rw [T.sign] at f3
   rw [T.pa] at f4
   rw [T.pb] at f5
   rw [f2] at m0
   rw [f3] at m1
   rw [f4] at m2
   rw [f5] at m3
   have hk1 := T.k1
   have hal := T.al
   have hq8 : q ≤ 8 := Nat.le_trans T.q8 g.few
   have IHA := Lib.hid (IH.out a hal T.a0 (by omega) T.wa)
   have HT := Lib.hid T
   obtain ⟨tq, htq⟩ : ∃ q, s &&& (s - 1) = q := ⟨_, rfl⟩
   have hq0 : tq ≠ 0 := by rw [← htq]; exact fun h => h1 (htest.1 h)
   rw [htq] at hband
   have yq : ((tq : Int) == 0) = false := by simp only [beq_eq_false_iff_ne]; omega
   have HTW := Lib.hid hT
   clear hC his f1 f2 f3 f4 f5 h1 h hr hf ih hl hk htest htq hq0 hB4 T
   by_cases hb0 : b = 0
   · obtain ⟨hk5, hT5⟩ := HT.out.root hb0
     subst hk5
     rw [hT5] at hsz
     dsimp only [AT.sz] at hsz
     have HT5 := Lib.hid hT5
     have y1 : ((b : Int) != 0) = false := by simp [hb0]
     clear hT5 hb0
     have RN := (Row.new w 76 #[.int .i64 5, .int .i64 0, .int .i64 0, .int .i64 (q : Int)]).alloc (.cells #[.int .i64 5, .int .i64 (q : Int), .int .i64 (a : Int), .int .i64 (b : Int), .int .i64 C.cost] 65)
     have RC := Row.new (w.alloc (.cells #[.int .i64 5, .int .i64 0, .int .i64 0, .int .i64 (q : Int)] 76)) 65 #[.int .i64 5, .int .i64 (q : Int), .int .i64 (a : Int), .int .i64 (b : Int), .int .i64 C.cost]
     rw [World.size_alloc] at RC
     have bb : Below w.heap.size w ((w.alloc (.cells #[.int .i64 5, .int .i64 0, .int .i64 0, .int .i64 (q : Int)] 76)).alloc (.cells #[.int .i64 5, .int .i64 (q : Int), .int .i64 (a : Int), .int .i64 (b : Int), .int .i64 C.cost] 65)) := ((Below.refl _ _).alloc (Nat.le_refl _) _).alloc (by simp) _
     go_enter Try.func31, Try.ntmps31
     go_upto_region 7 with fail
     generalize (w.alloc (.cells #[.int .i64 5, .int .i64 0, .int .i64 0, .int .i64 (q : Int)] 76)).alloc (.cells #[.int .i64 5, .int .i64 (q : Int), .int .i64 (a : Int), .int .i64 (b : Int), .int .i64 C.cost] 65) = w2 at RN RC bb ⊢
     clear p2 m0 m1 m2 m3 m4
     have hlN := RN.lt
     have hlC := RC.lt
     have H2 := Lib.hid (H.out.below bb)
     have c2 := RC.c2
     have hdis : ∀ x ∈ tb :: F, x ∉ [gp, gb, gt, gn] ∧ x ∉ Fl := fun x hx => by
      rcases List.mem_cons.1 hx with rfl | hx
      · exact ⟨fun hin => (HB4.out _ hin).2 rfl, htl⟩
      · have hxB := HF.out.2 x hx
        exact ⟨fun hin => by have := (HB4.out _ hin).1; omega, fun hin => by have := HL.out _ hin; omega⟩
     have CA := Lib.hid (IHA.out ns (.slice A ns.length c) F w2 H2.out (HTW.out.later bb) (HR.out.below bb) HF.out (by omega) (by omega))
     go_wp2_with fail
     refine CA.out.mono ?_
     rintro en w3 ⟨rfl, v3, F3, RT3, r3, o3, q3, z3⟩
     have hlen : (ns ++ (treeAt xs a).nodes ns.length).length = ns.length + (treeAt xs a).sz := by rw [List.length_append, AT.nodes_len]
     have hsp := (treeAt xs a).sz_pos
     obtain ⟨A3, c3, hv3⟩ := slice_len r3
     rw [hlen] at hv3
     subst hv3
     have nN : w.heap.size ∉ tb :: F := fun hin => by
      rcases List.mem_cons.1 hin with h | h
      · omega
      · have := hgF _ h; omega
     have nC : w.heap.size + 1 ∉ tb :: F := fun hin => by
      rcases List.mem_cons.1 hin with h | h
      · omega
      · have := hgF _ h; omega
     replace RN := row_only RN o3 nN
     replace RC := row_only RC o3 nC
     have H3 := Lib.hid (H2.out.only o3 hdis)
     have hs3 := o3.size
     have O3 := Lib.hid ((Only.of_below (F := tb :: F) bb).trans o3)
     have Q3 := Lib.hid q3
     have ZZ3 : Hid (∀ x ∈ F3, x ∈ F ∨ w.heap.size + 2 ≤ x) := Lib.hid (fun x hx => by
      rcases z3 x hx with h | h
      · exact .inl h
      · exact .inr (by omega))
     have FR3 := Lib.hid (q3 B HF.out (by omega))
     have R3 := Lib.hid r3
     have HLEN := Lib.hid hlen
     obtain ⟨n, hn⟩ : ∃ n, ns.length + (treeAt xs a).sz = n := ⟨_, rfl⟩
     have HN := Lib.hid hn
     have hn1000 : n + 1 ≤ 1000 := by omega
     rw [hn] at HLEN R3 RT3
     rw [hn]
     have hnz : 1 ≤ n := by omega
     have n1 := RN.c1
     have nF := RN.frozen
     clear c2 hsz hn hlen q3 z3 r3 o3
     go_upto_region 8 with fail
     have hNF3 : w.heap.size ∉ F3 := fun hin => by
      rcases ZZ3.out _ hin with h | h
      · have := hgF _ h; omega
      · omega
     have hNP : w.heap.size ∉ [gp, gb, gt, gn] := fun hin => by have := (HB4.out _ hin).1; omega
     have hNL : w.heap.size ∉ Fl := fun hin => by have := HL.out _ hin; omega
     replace RN := RN.set 1 (.int .i64 ((n : Int) - 1))
     replace RC := RC.far (p := ⟨w.heap.size, 1, none⟩) (by show w.heap.size + 1 ≠ w.heap.size; omega) (.int .i64 ((n : Int) - 1))
     have RT := RT3.far (p := ⟨w.heap.size, 1, none⟩) (by show tb ≠ w.heap.size; omega) (.int .i64 ((n : Int) - 1))
     have R4 := Lib.hid (R3.out.setCell (p := ⟨w.heap.size, 1, none⟩) hNF3 (.int .i64 ((n : Int) - 1)))
     have H4 := Lib.hid (H3.out.far (p := ⟨w.heap.size, 1, none⟩) hNP hNL (.int .i64 ((n : Int) - 1)))
     have O4 := Lib.hid (O3.out.set_new (p := ⟨w.heap.size, 1, none⟩) (Nat.le_refl _) (.int .i64 ((n : Int) - 1)))
     have hs4 : (w3.setCell ⟨w.heap.size, 1, none⟩ (.int .i64 ((n : Int) - 1))).heap.size = w3.heap.size := by simp [World.setCell]
     have hs4' : w3.heap.size ≤ (w3.setCell ⟨w.heap.size, 1, none⟩ (.int .i64 ((n : Int) - 1))).heap.size := by omega
     clear n1 nF RT3 hs4
     generalize w3.setCell ⟨w.heap.size, 1, none⟩ (.int .i64 ((n : Int) - 1)) = w4 at RN RC RT R4 H4 O4 hs4' ⊢
     have cc3 := RC.c3
     have kw1 : IntKind.i64.wrap (n : Int) = (n : Int) := IntWalk.i64_in _ (by omega)
     have kw2 : IntKind.i64.wrap ((n : Int) + 1 - 1) = (n : Int) := by rw [Int.add_sub_cancel]; exact kw1
     have hok : ∀ x ∈ [(⟨5, ((n : Int) - 1), 0, (q : Int)⟩ : PNode)], pNodeOk x := fun x hx => by simp only [List.mem_singleton] at hx; subst hx; unfold pNodeOk I64; dsimp only; omega
     have HOK := Lib.hid hok
     clear hok
     have u0 := RN.c0
     have u1 := RN.c1
     have u2 := RN.c2
     have u3 := RN.c3
     have t0 := RT.c0
     have tF := RT.frozen
     have hbn := RN.lt
     have htb := RT.lt
     go_upto_region 10 with fail
     have hS : (fun w' : World => w'.cell? ⟨w.heap.size, 0, none⟩ = some (.int .i64 5) ∧ w'.cell? ⟨w.heap.size, 1, none⟩ = some (.int .i64 ((n : Int) - 1)) ∧ w'.cell? ⟨w.heap.size, 2, none⟩ = some (.int .i64 0) ∧ w'.cell? ⟨w.heap.size, 3, none⟩ = some (.int .i64 (q : Int))) w4.drew := ⟨u0, u1, u2, u3⟩
     dsimp only at hS
     refine wp_region_held_drew (S := (fun w' : World => w'.cell? ⟨w.heap.size, 0, none⟩ = some (.int .i64 5) ∧ w'.cell? ⟨w.heap.size, 1, none⟩ = some (.int .i64 ((n : Int) - 1)) ∧ w'.cell? ⟨w.heap.size, 2, none⟩ = some (.int .i64 0) ∧ w'.cell? ⟨w.heap.size, 3, none⟩ = some (.int .i64 (q : Int)))) (by kernel_rfl) hS (fun _ => ?_)
     have past : ∀ (x : Obj) (i : Nat) (u : Value), w.heap.size < w4.heap.size → w4.cell? ⟨w.heap.size, i, none⟩ = some u → (w4.alloc x).drew.cell? ⟨w.heap.size, i, none⟩ = some u := fun x i u hg hc => (World.cell?_alloc_past (w := w4) _ _ _ hg).trans hc
     refine tJ 0 hS ?_
     refine tJ 1 hS ?_
     refine tJ 2 hS ?_
     refine tJ 3 hS ?_
     refine tJ 5 hS ?_
     refine rJ2 4 6 (fun K hK => ?_) (fun K hK => ?_)
     · skip
       go_simp
       refine hK.out _ _ hS (fun _ => ?_)
       clear hK K
       refine rJ 6 fun K hK => ?_
       go_simp
       refine hK.out _ _ ⟨past _ _ _ hbn u0, past _ _ _ hbn u1, past _ _ _ hbn u2, past _ _ _ hbn u3⟩ (fun _ => ?_)
       clear hK K
       replace hS := (⟨past _ _ _ hbn u0, past _ _ _ hbn u1, past _ _ _ hbn u2, past _ _ _ hbn u3⟩ : (w4.alloc (.cells #[.int .i64 5, .int .i64 ((n : Int) - 1), .int .i64 0, .int .i64 (q : Int)] 76)).drew.cell? ⟨w.heap.size, 0, none⟩ = some (.int .i64 5) ∧ (w4.alloc (.cells #[.int .i64 5, .int .i64 ((n : Int) - 1), .int .i64 0, .int .i64 (q : Int)] 76)).drew.cell? ⟨w.heap.size, 1, none⟩ = some (.int .i64 ((n : Int) - 1)) ∧ (w4.alloc (.cells #[.int .i64 5, .int .i64 ((n : Int) - 1), .int .i64 0, .int .i64 (q : Int)] 76)).drew.cell? ⟨w.heap.size, 2, none⟩ = some (.int .i64 0) ∧ (w4.alloc (.cells #[.int .i64 5, .int .i64 ((n : Int) - 1), .int .i64 0, .int .i64 (q : Int)] 76)).drew.cell? ⟨w.heap.size, 3, none⟩ = some (.int .i64 (q : Int)))
       refine rJ 7 fun K hK => ?_
       refine step_append_repX (T := pNode) (e := 76) (ys := [⟨5, ((n : Int) - 1), 0, (q : Int)⟩]) (ec := [.int .i64 5, .int .i64 ((n : Int) - 1), .int .i64 0, .int .i64 (q : Int)]) rfl (.tmp 54) (.tmp 56) rfl Try.underlying26 infoNode rfl (by decide) rfl (R4.out.alloc _).drew rfl (repL_pNode [⟨5, ((n : Int) - 1), 0, (q : Int)⟩] HOK.out) (cellsAt_drew (cellsAt_new _ _ _)) (by rw [List.append_nil]; exact FR3.out.1) (by rw [HLEN.out]; simp [maxLen]; omega) (by rw [HLEN.out]; simp; omega) ?_
       intro v6 w6 F6 r6 o6 q6 x6
       have R6 := Lib.hid r6
       obtain ⟨A6, c6, hv6⟩ := slice_len r6
       rw [List.length_append, List.length_singleton, HLEN.out] at hv6
       subst hv6
       have RN6 := row_only ((RN.alloc (.cells #[.int .i64 5, .int .i64 ((n : Int) - 1), .int .i64 0, .int .i64 (q : Int)] 76)).drew) o6 hNF3
       have RT6 := row_only ((RT.alloc (.cells #[.int .i64 5, .int .i64 ((n : Int) - 1), .int .i64 0, .int .i64 (q : Int)] 76)).drew) o6 (fun hb => by have := FR3.out.2 _ hb; omega)
       have O6 := Lib.hid o6
       have Q6 := Lib.hid q6
       have X6 := Lib.hid x6
       clear r6 o6 q6 x6
       have w0 := RN6.c0
       have w1' := RN6.c1
       have w2' := RN6.c2
       have w3' := RN6.c3
       have t6 := RT6.c0
       have t6F := RT6.frozen
       refine hK.out _ _ ⟨w0, w1', w2', w3'⟩ (fun _ => ?_)
       clear hK K
       replace hS := (⟨w0, w1', w2', w3'⟩ : w6.cell? ⟨w.heap.size, 0, none⟩ = some (.int .i64 5) ∧ w6.cell? ⟨w.heap.size, 1, none⟩ = some (.int .i64 ((n : Int) - 1)) ∧ w6.cell? ⟨w.heap.size, 2, none⟩ = some (.int .i64 0) ∧ w6.cell? ⟨w.heap.size, 3, none⟩ = some (.int .i64 (q : Int)))
       refine tJ 8 hS ?_
       refine tJ 9 hS ?_
       refine rJ 10 fun K hK => ?_
       go_simp
       have tne : w.heap.size ≠ tb := by omega
       refine hK.out _ _ ⟨(cell_far1 tne _).trans w0, (cell_far1 tne _).trans w1', (cell_far1 tne _).trans w2', (cell_far1 tne _).trans w3'⟩ (fun _ => ?_)
       clear hK K hS
       refine wpAnyH_done (by kernel_rfl) ?_ _
       have RT7 := RT6.set 0 (.slice A6 (n + 1) c6)
       have ON7 := Lib.hid ((only_more (O4.out.trans (Only.of_below (((Below.refl w4.heap.size w4).alloc (Nat.le_refl _) _).drew))) O6.out (fun x hx => by rcases ZZ3.out x hx with h | h; exact .inl (by simp [h]); exact .inr (by omega))).set (p := ⟨tb, 0, none⟩) (by simp) (.slice A6 (n + 1) c6))
       have HT7 := Lib.hid RT7
       have R7 := Lib.hid (R6.out.setCell (p := ⟨tb, 0, none⟩) (fun hb => by rcases X6.out.1 tb hb with hb | hb; exact absurd (FR3.out.2 tb (by simpa using hb)) (by omega); simp at hb; omega) (.slice A6 (n + 1) c6))
       have t7 := RT7.c0
       clear w0 w1' w2' w3' t6 t6F RT7
       generalize w6.setCell ⟨tb, 0, none⟩ (.slice A6 (n + 1) c6) = w7 at ON7 HT7 R7 t7 ⊢
       go_wp2_with fail
       go_ret
       exact ⟨by rw [HT5.out]; simp only [AT.sz, ← Nat.add_assoc, HN.out]; simp, _, F6, HT7.out, by rw [HT5.out]; simp only [AT.nodes, ← List.append_assoc, HN.out]; exact R7.out, ON7.out, fun B' hB' hle => Q6.out B' (by rw [List.append_nil]; exact Q3.out B' hB' (by omega)) (by simp; omega), fun x hx => by
        rcases X6.out.1 x hx with hx | hx
        · rcases ZZ3.out x (by simpa using hx) with h | h
          · exact .inl h
          · exact .inr (by omega)
        · exact .inr (by simp at hx; omega)⟩
     · skip
       go_simp
       refine hK.out _ _ ⟨past _ _ _ hbn u0, past _ _ _ hbn u1, past _ _ _ hbn u2, past _ _ _ hbn u3⟩ (fun _ => ?_)
       clear hK K
       have t1 : (w4.alloc (.cells #[.int .i64 5, .int .i64 ((n : Int) - 1), .int .i64 0, .int .i64 (q : Int)] 76)).drew.cell? ⟨tb, 0, none⟩ = some (.slice A3 n c3) := (World.cell?_alloc_past (w := w4) _ _ _ htb).trans t0
       refine rJ 4 fun K hK => ?_
       go_simp
       refine hK.out _ _ ⟨past _ _ _ hbn u0, past _ _ _ hbn u1, past _ _ _ hbn u2, past _ _ _ hbn u3⟩ (fun _ => ?_)
       clear hK K
       replace hS := (⟨past _ _ _ hbn u0, past _ _ _ hbn u1, past _ _ _ hbn u2, past _ _ _ hbn u3⟩ : (w4.alloc (.cells #[.int .i64 5, .int .i64 ((n : Int) - 1), .int .i64 0, .int .i64 (q : Int)] 76)).drew.cell? ⟨w.heap.size, 0, none⟩ = some (.int .i64 5) ∧ (w4.alloc (.cells #[.int .i64 5, .int .i64 ((n : Int) - 1), .int .i64 0, .int .i64 (q : Int)] 76)).drew.cell? ⟨w.heap.size, 1, none⟩ = some (.int .i64 ((n : Int) - 1)) ∧ (w4.alloc (.cells #[.int .i64 5, .int .i64 ((n : Int) - 1), .int .i64 0, .int .i64 (q : Int)] 76)).drew.cell? ⟨w.heap.size, 2, none⟩ = some (.int .i64 0) ∧ (w4.alloc (.cells #[.int .i64 5, .int .i64 ((n : Int) - 1), .int .i64 0, .int .i64 (q : Int)] 76)).drew.cell? ⟨w.heap.size, 3, none⟩ = some (.int .i64 (q : Int)))
       refine rJ 7 fun K hK => ?_
       refine step_append_repX (T := pNode) (e := 76) (ys := [⟨5, ((n : Int) - 1), 0, (q : Int)⟩]) (ec := [.int .i64 5, .int .i64 ((n : Int) - 1), .int .i64 0, .int .i64 (q : Int)]) rfl (.tmp 54) (.tmp 56) rfl Try.underlying26 infoNode rfl (by decide) rfl (R4.out.alloc _).drew rfl (repL_pNode [⟨5, ((n : Int) - 1), 0, (q : Int)⟩] HOK.out) (cellsAt_drew (cellsAt_new _ _ _)) (by rw [List.append_nil]; exact FR3.out.1) (by rw [HLEN.out]; simp [maxLen]; omega) (by rw [HLEN.out]; simp; omega) ?_
       intro v6 w6 F6 r6 o6 q6 x6
       have R6 := Lib.hid r6
       obtain ⟨A6, c6, hv6⟩ := slice_len r6
       rw [List.length_append, List.length_singleton, HLEN.out] at hv6
       subst hv6
       have RN6 := row_only ((RN.alloc (.cells #[.int .i64 5, .int .i64 ((n : Int) - 1), .int .i64 0, .int .i64 (q : Int)] 76)).drew) o6 hNF3
       have RT6 := row_only ((RT.alloc (.cells #[.int .i64 5, .int .i64 ((n : Int) - 1), .int .i64 0, .int .i64 (q : Int)] 76)).drew) o6 (fun hb => by have := FR3.out.2 _ hb; omega)
       have O6 := Lib.hid o6
       have Q6 := Lib.hid q6
       have X6 := Lib.hid x6
       clear r6 o6 q6 x6
       have w0 := RN6.c0
       have w1' := RN6.c1
       have w2' := RN6.c2
       have w3' := RN6.c3
       have t6 := RT6.c0
       have t6F := RT6.frozen
       refine hK.out _ _ ⟨w0, w1', w2', w3'⟩ (fun _ => ?_)
       clear hK K
       replace hS := (⟨w0, w1', w2', w3'⟩ : w6.cell? ⟨w.heap.size, 0, none⟩ = some (.int .i64 5) ∧ w6.cell? ⟨w.heap.size, 1, none⟩ = some (.int .i64 ((n : Int) - 1)) ∧ w6.cell? ⟨w.heap.size, 2, none⟩ = some (.int .i64 0) ∧ w6.cell? ⟨w.heap.size, 3, none⟩ = some (.int .i64 (q : Int)))
       refine tJ 8 hS ?_
       refine tJ 9 hS ?_
       refine rJ 10 fun K hK => ?_
       go_simp
       have tne : w.heap.size ≠ tb := by omega
       refine hK.out _ _ ⟨(cell_far1 tne _).trans w0, (cell_far1 tne _).trans w1', (cell_far1 tne _).trans w2', (cell_far1 tne _).trans w3'⟩ (fun _ => ?_)
       clear hK K hS
       refine wpAnyH_done (by kernel_rfl) ?_ _
       have RT7 := RT6.set 0 (.slice A6 (n + 1) c6)
       have ON7 := Lib.hid ((only_more (O4.out.trans (Only.of_below (((Below.refl w4.heap.size w4).alloc (Nat.le_refl _) _).drew))) O6.out (fun x hx => by rcases ZZ3.out x hx with h | h; exact .inl (by simp [h]); exact .inr (by omega))).set (p := ⟨tb, 0, none⟩) (by simp) (.slice A6 (n + 1) c6))
       have HT7 := Lib.hid RT7
       have R7 := Lib.hid (R6.out.setCell (p := ⟨tb, 0, none⟩) (fun hb => by rcases X6.out.1 tb hb with hb | hb; exact absurd (FR3.out.2 tb (by simpa using hb)) (by omega); simp at hb; omega) (.slice A6 (n + 1) c6))
       have t7 := RT7.c0
       clear w0 w1' w2' w3' t6 t6F RT7
       generalize w6.setCell ⟨tb, 0, none⟩ (.slice A6 (n + 1) c6) = w7 at ON7 HT7 R7 t7 ⊢
       go_wp2_with fail
       go_ret
       exact ⟨by rw [HT5.out]; simp only [AT.sz, ← Nat.add_assoc, HN.out]; simp, _, F6, HT7.out, by rw [HT5.out]; simp only [AT.nodes, ← List.append_assoc, HN.out]; exact R7.out, ON7.out, fun B' hB' hle => Q6.out B' (by rw [List.append_nil]; exact Q3.out B' hB' (by omega)) (by simp; omega), fun x hx => by
        rcases X6.out.1 x hx with hx | hx
        · rcases ZZ3.out x (by simpa using hx) with h | h
          · exact .inl h
          · exact .inr (by omega)
        · exact .inr (by simp at hx; omega)⟩
   · obtain ⟨hbs', hwb, hT5⟩ := HT.out.two hb0
     have IHB := Lib.hid (IH.out b hbs' hb0 (by omega) hwb)
     rw [hT5] at hsz
     dsimp only [AT.sz] at hsz
     have HT5 := Lib.hid hT5
     have y1 : ((b : Int) != 0) = true := by simp [hb0]
     clear hT5 hb0
     have RN := (Row.new w 76 #[.int .i64 k, .int .i64 0, .int .i64 0, .int .i64 (q : Int)]).alloc (.cells #[.int .i64 k, .int .i64 (q : Int), .int .i64 (a : Int), .int .i64 (b : Int), .int .i64 C.cost] 65)
     have RC := Row.new (w.alloc (.cells #[.int .i64 k, .int .i64 0, .int .i64 0, .int .i64 (q : Int)] 76)) 65 #[.int .i64 k, .int .i64 (q : Int), .int .i64 (a : Int), .int .i64 (b : Int), .int .i64 C.cost]
     rw [World.size_alloc] at RC
     have bb : Below w.heap.size w ((w.alloc (.cells #[.int .i64 k, .int .i64 0, .int .i64 0, .int .i64 (q : Int)] 76)).alloc (.cells #[.int .i64 k, .int .i64 (q : Int), .int .i64 (a : Int), .int .i64 (b : Int), .int .i64 C.cost] 65)) := ((Below.refl _ _).alloc (Nat.le_refl _) _).alloc (by simp) _
     go_enter Try.func31, Try.ntmps31
     go_upto_region 7 with fail
     generalize (w.alloc (.cells #[.int .i64 k, .int .i64 0, .int .i64 0, .int .i64 (q : Int)] 76)).alloc (.cells #[.int .i64 k, .int .i64 (q : Int), .int .i64 (a : Int), .int .i64 (b : Int), .int .i64 C.cost] 65) = w2 at RN RC bb ⊢
     clear p2 m0 m1 m2 m3 m4
     have hlN := RN.lt
     have hlC := RC.lt
     have H2 := Lib.hid (H.out.below bb)
     have c2 := RC.c2
     have hdis : ∀ x ∈ tb :: F, x ∉ [gp, gb, gt, gn] ∧ x ∉ Fl := fun x hx => by
      rcases List.mem_cons.1 hx with rfl | hx
      · exact ⟨fun hin => (HB4.out _ hin).2 rfl, htl⟩
      · have hxB := HF.out.2 x hx
        exact ⟨fun hin => by have := (HB4.out _ hin).1; omega, fun hin => by have := HL.out _ hin; omega⟩
     have CA := Lib.hid (IHA.out ns (.slice A ns.length c) F w2 H2.out (HTW.out.later bb) (HR.out.below bb) HF.out (by omega) (by omega))
     go_wp2_with fail
     refine CA.out.mono ?_
     rintro en w3 ⟨rfl, v3, F3, RT3, r3, o3, q3, z3⟩
     have hlen : (ns ++ (treeAt xs a).nodes ns.length).length = ns.length + (treeAt xs a).sz := by rw [List.length_append, AT.nodes_len]
     have hsp := (treeAt xs a).sz_pos
     obtain ⟨A3, c3, hv3⟩ := slice_len r3
     rw [hlen] at hv3
     subst hv3
     have nN : w.heap.size ∉ tb :: F := fun hin => by
      rcases List.mem_cons.1 hin with h | h
      · omega
      · have := hgF _ h; omega
     have nC : w.heap.size + 1 ∉ tb :: F := fun hin => by
      rcases List.mem_cons.1 hin with h | h
      · omega
      · have := hgF _ h; omega
     replace RN := row_only RN o3 nN
     replace RC := row_only RC o3 nC
     have H3 := Lib.hid (H2.out.only o3 hdis)
     have hs3 := o3.size
     have O3 := Lib.hid ((Only.of_below (F := tb :: F) bb).trans o3)
     have Q3 := Lib.hid q3
     have ZZ3 : Hid (∀ x ∈ F3, x ∈ F ∨ w.heap.size + 2 ≤ x) := Lib.hid (fun x hx => by
      rcases z3 x hx with h | h
      · exact .inl h
      · exact .inr (by omega))
     have FR3 := Lib.hid (q3 B HF.out (by omega))
     have R3 := Lib.hid r3
     have HLEN := Lib.hid hlen
     obtain ⟨n, hn⟩ : ∃ n, ns.length + (treeAt xs a).sz = n := ⟨_, rfl⟩
     have HN := Lib.hid hn
     have hn1000 : n + (treeAt xs b).sz + 1 ≤ 1000 := by omega
     rw [hn] at HLEN R3 RT3
     rw [hn]
     have hnz : 1 ≤ n := by omega
     have n1 := RN.c1
     have nF := RN.frozen
     clear c2 hsz hn hlen q3 z3 r3 o3
     go_upto_region 8 with fail
     have hNF3 : w.heap.size ∉ F3 := fun hin => by
      rcases ZZ3.out _ hin with h | h
      · have := hgF _ h; omega
      · omega
     have hNP : w.heap.size ∉ [gp, gb, gt, gn] := fun hin => by have := (HB4.out _ hin).1; omega
     have hNL : w.heap.size ∉ Fl := fun hin => by have := HL.out _ hin; omega
     replace RN := RN.set 1 (.int .i64 ((n : Int) - 1))
     replace RC := RC.far (p := ⟨w.heap.size, 1, none⟩) (by show w.heap.size + 1 ≠ w.heap.size; omega) (.int .i64 ((n : Int) - 1))
     have RT := RT3.far (p := ⟨w.heap.size, 1, none⟩) (by show tb ≠ w.heap.size; omega) (.int .i64 ((n : Int) - 1))
     have R4 := Lib.hid (R3.out.setCell (p := ⟨w.heap.size, 1, none⟩) hNF3 (.int .i64 ((n : Int) - 1)))
     have H4 := Lib.hid (H3.out.far (p := ⟨w.heap.size, 1, none⟩) hNP hNL (.int .i64 ((n : Int) - 1)))
     have O4 := Lib.hid (O3.out.set_new (p := ⟨w.heap.size, 1, none⟩) (Nat.le_refl _) (.int .i64 ((n : Int) - 1)))
     have hs4 : (w3.setCell ⟨w.heap.size, 1, none⟩ (.int .i64 ((n : Int) - 1))).heap.size = w3.heap.size := by simp [World.setCell]
     have hs4' : w3.heap.size ≤ (w3.setCell ⟨w.heap.size, 1, none⟩ (.int .i64 ((n : Int) - 1))).heap.size := by omega
     clear n1 nF RT3 hs4
     generalize w3.setCell ⟨w.heap.size, 1, none⟩ (.int .i64 ((n : Int) - 1)) = w4 at RN RC RT R4 H4 O4 hs4' ⊢
     have cc3 := RC.c3
     have hbs : w4.heap.size ≥ w.heap.size + 2 := by omega
     have CB := IHB.out _ (.slice A3 n c3) F3 w4 H4.out RT R4.out FR3.out (by omega) (by rw [HLEN.out]; omega)
     unfold BuildPost at CB
     rw [HLEN.out] at CB
     have HCB := Lib.hid CB
     have tF3 : tb ∉ F3 := fun hin => by have := FR3.out.2 _ hin; omega
     have hdis3 : ∀ x ∈ tb :: F3, x ∉ [gp, gb, gt, gn] ∧ x ∉ Fl := fun x hx => by
      rcases List.mem_cons.1 hx with rfl | hx
      · exact ⟨fun hin => (HB4.out _ hin).2 rfl, htl⟩
      · have hxB := FR3.out.2 x hx
        exact ⟨fun hin => by have := (HB4.out _ hin).1; omega, fun hin => by have := HL.out _ hin; omega⟩
     have nC3 : w.heap.size + 1 ∉ tb :: F3 := fun hin => by
      rcases List.mem_cons.1 hin with h | h
      · omega
      · rcases ZZ3.out _ h with h | h
        · have := hgF _ h; omega
        · omega
     have nN3 : w.heap.size ∉ tb :: F3 := fun hin => by
      rcases List.mem_cons.1 hin with h | h
      · omega
      · exact hNF3 h
     clear CB
     go_wp2_with fail
     refine HCB.out.mono ?_
     rintro en w5 ⟨rfl, v5, F5, RT5, r5, o5, q5, z5⟩
     have hlen5 : ((ns ++ (treeAt xs a).nodes ns.length) ++ (treeAt xs b).nodes n).length = n + (treeAt xs b).sz := by rw [List.length_append, HLEN.out, AT.nodes_len]
     have hsp5 := (treeAt xs b).sz_pos
     obtain ⟨A5, c5, hv5⟩ := slice_len r5
     rw [hlen5] at hv5
     subst hv5
     replace RN := row_only RN o5 nN3
     replace RC := row_only RC o5 nC3
     have hs5 := o5.size
     have O5 := Lib.hid (only_more O4.out o5 (fun x hx => by
      rcases List.mem_cons.1 hx with h | h
      · exact .inl (by simp [h])
      · rcases ZZ3.out x h with h | h
        · exact .inl (by simp [h])
        · exact .inr (by omega)))
     have Q5 := Lib.hid q5
     have ZZ5 : Hid (∀ x ∈ F5, x ∈ F ∨ w.heap.size + 2 ≤ x) := Lib.hid (fun x hx => by
      rcases z5 x hx with h | h
      · exact ZZ3.out x h
      · exact .inr (by omega))
     have FR5 := Lib.hid (q5 B FR3.out (by omega))
     have R5 := Lib.hid r5
     clear HLEN
     have HLEN := Lib.hid hlen5
     obtain ⟨m, hm⟩ : ∃ m, n + (treeAt xs b).sz = m := ⟨_, rfl⟩
     have HM := Lib.hid hm
     have hm1000 : m + 1 ≤ 1000 := by omega
     rw [hm] at HLEN R5 RT5
     rw [hm]
     have hmz : 1 ≤ m := by omega
     have n2 := RN.c2
     have nF := RN.frozen
     clear cc3 hm hlen5 q5 z5 r5 o5
     go_upto_region 10 with fail
     have hNF5 : w.heap.size ∉ F5 := fun hin => by
      rcases ZZ5.out _ hin with h | h
      · have := hgF _ h; omega
      · omega
     replace RN := RN.set 2 (.int .i64 ((m : Int) - 1))
     replace RT := RT5.far (p := ⟨w.heap.size, 2, none⟩) (by show tb ≠ w.heap.size; omega) (.int .i64 ((m : Int) - 1))
     have R6' := Lib.hid (R5.out.setCell (p := ⟨w.heap.size, 2, none⟩) hNF5 (.int .i64 ((m : Int) - 1)))
     have O6' := Lib.hid (O5.out.set_new (p := ⟨w.heap.size, 2, none⟩) (Nat.le_refl _) (.int .i64 ((m : Int) - 1)))
     have hs6 : (w5.setCell ⟨w.heap.size, 2, none⟩ (.int .i64 ((m : Int) - 1))).heap.size = w5.heap.size := by simp [World.setCell]
     have hs6' : w5.heap.size ≤ (w5.setCell ⟨w.heap.size, 2, none⟩ (.int .i64 ((m : Int) - 1))).heap.size := by omega
     clear n2 nF RT5 hs6
     generalize w5.setCell ⟨w.heap.size, 2, none⟩ (.int .i64 ((m : Int) - 1)) = w8 at RN RT R6' O6' hs6' ⊢
     have kw1 : IntKind.i64.wrap (m : Int) = (m : Int) := IntWalk.i64_in _ (by omega)
     have kw2 : IntKind.i64.wrap ((m : Int) + 1 - 1) = (m : Int) := by rw [Int.add_sub_cancel]; exact kw1
     have hok : ∀ x ∈ [(⟨k, ((n : Int) - 1), ((m : Int) - 1), (q : Int)⟩ : PNode)], pNodeOk x := fun x hx => by simp only [List.mem_singleton] at hx; subst hx; unfold pNodeOk I64; dsimp only; omega
     have HOK := Lib.hid hok
     clear hok
     have u0 := RN.c0
     have u1 := RN.c1
     have u2 := RN.c2
     have u3 := RN.c3
     have t0 := RT.c0
     have tF := RT.frozen
     have hbn := RN.lt
     have htb := RT.lt
     skip
     have hS : (fun w' : World => w'.cell? ⟨w.heap.size, 0, none⟩ = some (.int .i64 k) ∧ w'.cell? ⟨w.heap.size, 1, none⟩ = some (.int .i64 ((n : Int) - 1)) ∧ w'.cell? ⟨w.heap.size, 2, none⟩ = some (.int .i64 ((m : Int) - 1)) ∧ w'.cell? ⟨w.heap.size, 3, none⟩ = some (.int .i64 (q : Int))) w8.drew := ⟨u0, u1, u2, u3⟩
     dsimp only at hS
     refine wp_region_held_drew (S := (fun w' : World => w'.cell? ⟨w.heap.size, 0, none⟩ = some (.int .i64 k) ∧ w'.cell? ⟨w.heap.size, 1, none⟩ = some (.int .i64 ((n : Int) - 1)) ∧ w'.cell? ⟨w.heap.size, 2, none⟩ = some (.int .i64 ((m : Int) - 1)) ∧ w'.cell? ⟨w.heap.size, 3, none⟩ = some (.int .i64 (q : Int)))) (by kernel_rfl) hS (fun _ => ?_)
     have past : ∀ (x : Obj) (i : Nat) (u : Value), w.heap.size < w8.heap.size → w8.cell? ⟨w.heap.size, i, none⟩ = some u → (w8.alloc x).drew.cell? ⟨w.heap.size, i, none⟩ = some u := fun x i u hg hc => (World.cell?_alloc_past (w := w8) _ _ _ hg).trans hc
     refine tJ 0 hS ?_
     refine tJ 1 hS ?_
     refine tJ 2 hS ?_
     refine tJ 3 hS ?_
     refine tJ 5 hS ?_
     refine rJ2 4 6 (fun K hK => ?_) (fun K hK => ?_)
     · skip
       go_simp
       refine hK.out _ _ hS (fun _ => ?_)
       clear hK K
       refine rJ 6 fun K hK => ?_
       go_simp
       refine hK.out _ _ ⟨past _ _ _ hbn u0, past _ _ _ hbn u1, past _ _ _ hbn u2, past _ _ _ hbn u3⟩ (fun _ => ?_)
       clear hK K
       replace hS := (⟨past _ _ _ hbn u0, past _ _ _ hbn u1, past _ _ _ hbn u2, past _ _ _ hbn u3⟩ : (w8.alloc (.cells #[.int .i64 k, .int .i64 ((n : Int) - 1), .int .i64 ((m : Int) - 1), .int .i64 (q : Int)] 76)).drew.cell? ⟨w.heap.size, 0, none⟩ = some (.int .i64 k) ∧ (w8.alloc (.cells #[.int .i64 k, .int .i64 ((n : Int) - 1), .int .i64 ((m : Int) - 1), .int .i64 (q : Int)] 76)).drew.cell? ⟨w.heap.size, 1, none⟩ = some (.int .i64 ((n : Int) - 1)) ∧ (w8.alloc (.cells #[.int .i64 k, .int .i64 ((n : Int) - 1), .int .i64 ((m : Int) - 1), .int .i64 (q : Int)] 76)).drew.cell? ⟨w.heap.size, 2, none⟩ = some (.int .i64 ((m : Int) - 1)) ∧ (w8.alloc (.cells #[.int .i64 k, .int .i64 ((n : Int) - 1), .int .i64 ((m : Int) - 1), .int .i64 (q : Int)] 76)).drew.cell? ⟨w.heap.size, 3, none⟩ = some (.int .i64 (q : Int)))
       refine rJ 7 fun K hK => ?_
       refine step_append_repX (T := pNode) (e := 76) (ys := [⟨k, ((n : Int) - 1), ((m : Int) - 1), (q : Int)⟩]) (ec := [.int .i64 k, .int .i64 ((n : Int) - 1), .int .i64 ((m : Int) - 1), .int .i64 (q : Int)]) rfl (.tmp 54) (.tmp 56) rfl Try.underlying26 infoNode rfl (by decide) rfl (R6'.out.alloc _).drew rfl (repL_pNode [⟨k, ((n : Int) - 1), ((m : Int) - 1), (q : Int)⟩] HOK.out) (cellsAt_drew (cellsAt_new _ _ _)) (by rw [List.append_nil]; exact FR5.out.1) (by rw [HLEN.out]; simp [maxLen]; omega) (by rw [HLEN.out]; simp; omega) ?_
       intro v6 w6 F6 r6 o6 q6 x6
       have R6 := Lib.hid r6
       obtain ⟨A6, c6, hv6⟩ := slice_len r6
       rw [List.length_append, List.length_singleton, HLEN.out] at hv6
       subst hv6
       have RN6 := row_only ((RN.alloc (.cells #[.int .i64 k, .int .i64 ((n : Int) - 1), .int .i64 ((m : Int) - 1), .int .i64 (q : Int)] 76)).drew) o6 hNF5
       have RT6 := row_only ((RT.alloc (.cells #[.int .i64 k, .int .i64 ((n : Int) - 1), .int .i64 ((m : Int) - 1), .int .i64 (q : Int)] 76)).drew) o6 (fun hb => by have := FR5.out.2 _ hb; omega)
       have O6 := Lib.hid o6
       have Q6 := Lib.hid q6
       have X6 := Lib.hid x6
       clear r6 o6 q6 x6
       have w0 := RN6.c0
       have w1' := RN6.c1
       have w2' := RN6.c2
       have w3' := RN6.c3
       have t6 := RT6.c0
       have t6F := RT6.frozen
       refine hK.out _ _ ⟨w0, w1', w2', w3'⟩ (fun _ => ?_)
       clear hK K
       replace hS := (⟨w0, w1', w2', w3'⟩ : w6.cell? ⟨w.heap.size, 0, none⟩ = some (.int .i64 k) ∧ w6.cell? ⟨w.heap.size, 1, none⟩ = some (.int .i64 ((n : Int) - 1)) ∧ w6.cell? ⟨w.heap.size, 2, none⟩ = some (.int .i64 ((m : Int) - 1)) ∧ w6.cell? ⟨w.heap.size, 3, none⟩ = some (.int .i64 (q : Int)))
       refine tJ 8 hS ?_
       refine tJ 9 hS ?_
       refine rJ 10 fun K hK => ?_
       go_simp
       have tne : w.heap.size ≠ tb := by omega
       refine hK.out _ _ ⟨(cell_far1 tne _).trans w0, (cell_far1 tne _).trans w1', (cell_far1 tne _).trans w2', (cell_far1 tne _).trans w3'⟩ (fun _ => ?_)
       clear hK K hS
       refine wpAnyH_done (by kernel_rfl) ?_ _
       have RT7 := RT6.set 0 (.slice A6 (m + 1) c6)
       have ON7 := Lib.hid ((only_more (O6'.out.trans (Only.of_below (((Below.refl w8.heap.size w8).alloc (Nat.le_refl _) _).drew))) O6.out (fun x hx => by rcases ZZ5.out x hx with h | h; exact .inl (by simp [h]); exact .inr (by omega))).set (p := ⟨tb, 0, none⟩) (by simp) (.slice A6 (m + 1) c6))
       have HT7 := Lib.hid RT7
       have R7 := Lib.hid (R6.out.setCell (p := ⟨tb, 0, none⟩) (fun hb => by rcases X6.out.1 tb hb with hb | hb; exact absurd (FR5.out.2 tb (by simpa using hb)) (by omega); simp at hb; omega) (.slice A6 (m + 1) c6))
       have t7 := RT7.c0
       clear w0 w1' w2' w3' t6 t6F RT7
       generalize w6.setCell ⟨tb, 0, none⟩ (.slice A6 (m + 1) c6) = w7 at ON7 HT7 R7 t7 ⊢
       go_wp2_with fail
       go_ret
       exact ⟨by rw [HT5.out]; simp only [AT.sz, ← Nat.add_assoc, HN.out, HM.out]; simp, _, F6, HT7.out, by rw [HT5.out]; simp only [AT.nodes, ← List.append_assoc, HN.out, HM.out]; exact R7.out, ON7.out, fun B' hB' hle => Q6.out B' (by rw [List.append_nil]; exact Q5.out B' (Q3.out B' hB' (by omega)) (by omega)) (by simp; omega), fun x hx => by
        rcases X6.out.1 x hx with hx | hx
        · rcases ZZ5.out x (by simpa using hx) with h | h
          · exact .inl h
          · exact .inr (by omega)
        · exact .inr (by simp at hx; omega)⟩
     · skip
       go_simp
       refine hK.out _ _ ⟨past _ _ _ hbn u0, past _ _ _ hbn u1, past _ _ _ hbn u2, past _ _ _ hbn u3⟩ (fun _ => ?_)
       clear hK K
       have t1 : (w8.alloc (.cells #[.int .i64 k, .int .i64 ((n : Int) - 1), .int .i64 ((m : Int) - 1), .int .i64 (q : Int)] 76)).drew.cell? ⟨tb, 0, none⟩ = some (.slice A5 m c5) := (World.cell?_alloc_past (w := w8) _ _ _ htb).trans t0
       refine rJ 4 fun K hK => ?_
       go_simp
       refine hK.out _ _ ⟨past _ _ _ hbn u0, past _ _ _ hbn u1, past _ _ _ hbn u2, past _ _ _ hbn u3⟩ (fun _ => ?_)
       clear hK K
       replace hS := (⟨past _ _ _ hbn u0, past _ _ _ hbn u1, past _ _ _ hbn u2, past _ _ _ hbn u3⟩ : (w8.alloc (.cells #[.int .i64 k, .int .i64 ((n : Int) - 1), .int .i64 ((m : Int) - 1), .int .i64 (q : Int)] 76)).drew.cell? ⟨w.heap.size, 0, none⟩ = some (.int .i64 k) ∧ (w8.alloc (.cells #[.int .i64 k, .int .i64 ((n : Int) - 1), .int .i64 ((m : Int) - 1), .int .i64 (q : Int)] 76)).drew.cell? ⟨w.heap.size, 1, none⟩ = some (.int .i64 ((n : Int) - 1)) ∧ (w8.alloc (.cells #[.int .i64 k, .int .i64 ((n : Int) - 1), .int .i64 ((m : Int) - 1), .int .i64 (q : Int)] 76)).drew.cell? ⟨w.heap.size, 2, none⟩ = some (.int .i64 ((m : Int) - 1)) ∧ (w8.alloc (.cells #[.int .i64 k, .int .i64 ((n : Int) - 1), .int .i64 ((m : Int) - 1), .int .i64 (q : Int)] 76)).drew.cell? ⟨w.heap.size, 3, none⟩ = some (.int .i64 (q : Int)))
       refine rJ 7 fun K hK => ?_
       refine step_append_repX (T := pNode) (e := 76) (ys := [⟨k, ((n : Int) - 1), ((m : Int) - 1), (q : Int)⟩]) (ec := [.int .i64 k, .int .i64 ((n : Int) - 1), .int .i64 ((m : Int) - 1), .int .i64 (q : Int)]) rfl (.tmp 54) (.tmp 56) rfl Try.underlying26 infoNode rfl (by decide) rfl (R6'.out.alloc _).drew rfl (repL_pNode [⟨k, ((n : Int) - 1), ((m : Int) - 1), (q : Int)⟩] HOK.out) (cellsAt_drew (cellsAt_new _ _ _)) (by rw [List.append_nil]; exact FR5.out.1) (by rw [HLEN.out]; simp [maxLen]; omega) (by rw [HLEN.out]; simp; omega) ?_
       intro v6 w6 F6 r6 o6 q6 x6
       have R6 := Lib.hid r6
       obtain ⟨A6, c6, hv6⟩ := slice_len r6
       rw [List.length_append, List.length_singleton, HLEN.out] at hv6
       subst hv6
       have RN6 := row_only ((RN.alloc (.cells #[.int .i64 k, .int .i64 ((n : Int) - 1), .int .i64 ((m : Int) - 1), .int .i64 (q : Int)] 76)).drew) o6 hNF5
       have RT6 := row_only ((RT.alloc (.cells #[.int .i64 k, .int .i64 ((n : Int) - 1), .int .i64 ((m : Int) - 1), .int .i64 (q : Int)] 76)).drew) o6 (fun hb => by have := FR5.out.2 _ hb; omega)
       have O6 := Lib.hid o6
       have Q6 := Lib.hid q6
       have X6 := Lib.hid x6
       clear r6 o6 q6 x6
       have w0 := RN6.c0
       have w1' := RN6.c1
       have w2' := RN6.c2
       have w3' := RN6.c3
       have t6 := RT6.c0
       have t6F := RT6.frozen
       refine hK.out _ _ ⟨w0, w1', w2', w3'⟩ (fun _ => ?_)
       clear hK K
       replace hS := (⟨w0, w1', w2', w3'⟩ : w6.cell? ⟨w.heap.size, 0, none⟩ = some (.int .i64 k) ∧ w6.cell? ⟨w.heap.size, 1, none⟩ = some (.int .i64 ((n : Int) - 1)) ∧ w6.cell? ⟨w.heap.size, 2, none⟩ = some (.int .i64 ((m : Int) - 1)) ∧ w6.cell? ⟨w.heap.size, 3, none⟩ = some (.int .i64 (q : Int)))
       refine tJ 8 hS ?_
       refine tJ 9 hS ?_
       refine rJ 10 fun K hK => ?_
       go_simp
       have tne : w.heap.size ≠ tb := by omega
       refine hK.out _ _ ⟨(cell_far1 tne _).trans w0, (cell_far1 tne _).trans w1', (cell_far1 tne _).trans w2', (cell_far1 tne _).trans w3'⟩ (fun _ => ?_)
       clear hK K hS
       refine wpAnyH_done (by kernel_rfl) ?_ _
       have RT7 := RT6.set 0 (.slice A6 (m + 1) c6)
       have ON7 := Lib.hid ((only_more (O6'.out.trans (Only.of_below (((Below.refl w8.heap.size w8).alloc (Nat.le_refl _) _).drew))) O6.out (fun x hx => by rcases ZZ5.out x hx with h | h; exact .inl (by simp [h]); exact .inr (by omega))).set (p := ⟨tb, 0, none⟩) (by simp) (.slice A6 (m + 1) c6))
       have HT7 := Lib.hid RT7
       have R7 := Lib.hid (R6.out.setCell (p := ⟨tb, 0, none⟩) (fun hb => by rcases X6.out.1 tb hb with hb | hb; exact absurd (FR5.out.2 tb (by simpa using hb)) (by omega); simp at hb; omega) (.slice A6 (m + 1) c6))
       have t7 := RT7.c0
       clear w0 w1' w2' w3' t6 t6F RT7
       generalize w6.setCell ⟨tb, 0, none⟩ (.slice A6 (m + 1) c6) = w7 at ON7 HT7 R7 t7 ⊢
       go_wp2_with fail
       go_ret
       exact ⟨by rw [HT5.out]; simp only [AT.sz, ← Nat.add_assoc, HN.out, HM.out]; simp, _, F6, HT7.out, by rw [HT5.out]; simp only [AT.nodes, ← List.append_assoc, HN.out, HM.out]; exact R7.out, ON7.out, fun B' hB' hle => Q6.out B' (by rw [List.append_nil]; exact Q5.out B' (Q3.out B' hB' (by omega)) (by omega)) (by simp; omega), fun x hx => by
        rcases X6.out.1 x hx with hx | hx
        · rcases ZZ5.out x (by simpa using hx) with h | h
          · exact .inl h
          · exact .inr (by omega)
        · exact .inr (by simp at hx; omega)⟩
end Go.Proofs.Ytmopioaojdlnkaa
