/- ReadEvent of the reference. Conditions: none. -/
import Derived.Deep.Cut
import Derived.Deep.CutRange
import Derived.Test.YtahoopmiipmgpaaDoorEvRd6
namespace Go.Proofs.YtahoopmiipmgpaaDoor
open Go Go.RowKit

theorem far4 {w : World} {g b o : Nat} {u0 u1 u2 u3 v : Value} (h : w.cell? ⟨b, o, none⟩ = some v) (hne : b ≠ g) : ((((w.setCell ⟨g, 0, none⟩ u0).setCell ⟨g, 1, none⟩ u1).setCell ⟨g, 2, none⟩ u2).setCell ⟨g, 3, none⟩ u3).cell? ⟨b, o, none⟩ = some v :=
  cell_far (cell_far (cell_far (cell_far h hne) hne) hne) hne
set_option maxRecDepth 100000 in
set_option maxHeartbeats 4000000 in
theorem spec_l26Read_c (s : ByteArray) (w : World) (hs : s.size ≤ 1048576) :
    Calls Tryd.prog 25 #[.string s] w fun en w' => ∃ e : PEvent, en = .returned (.tuple #[.agg #[.int .i64 e.kind, .int .i64 e.x, .int .i64 e.y, .int .i64 e.t], .bool (refOk s.data.toList)]) ∧ (refOk s.data.toList = true → e = refE s.data.toList) ∧ Below w.heap.size w w' := by
  have R0 := Row.new w 32 #[.int .i64 0, .int .i64 0, .int .i64 0, .int .i64 0]
  have b0 : Below w.heap.size w (w.alloc (.cells #[.int .i64 0, .int .i64 0, .int .i64 0, .int .i64 0] 32)) := (Below.refl _ _).alloc (Nat.le_refl _) _
  have hs1 : w.heap.size + 1 ≤ (w.alloc (.cells #[.int .i64 0, .int .i64 0, .int .i64 0, .int .i64 0] 32)).heap.size := by simp
  go_enter Tryd.func25, Tryd.ntmps25
  go_wp2_with fail
  refine (spec_l01Split_c s _ hs).mono ?_
  generalize (w.alloc (.cells #[.int .i64 0, .int .i64 0, .int .i64 0, .int .i64 0] 32)) = wa at R0 b0 hs1
  rintro en w2 ⟨ws, v, F, rfl, hws, hrep, hfr, b2⟩
  replace R0 := R0.later b2
  replace hs1 := Nat.le_trans hs1 b2.size
  replace b0 := b0.trans (b2.mono b0.size)
  have hsl := (splitL_le s.data.toList).1
  have hsc := (splitL_le s.data.toList).2
  have hs0 := splitL_ne s.data.toList
  rw [ba_size] at hsl hsc
  have hwz : ∀ b ∈ ws, b.size ≤ 1048576 := by
    intro b hb
    have := hsl b.data.toList (by rw [← hws]; exact List.mem_map_of_mem hb)
    rw [ba_size] at this
    omega
  have hwn : ws.length ≤ 1048577 := by rw [← hws, List.length_map] at hsc; omega
  obtain ⟨w0, tl, rfl⟩ : ∃ a l, ws = a :: l := by
    cases ws with
    | nil => exact absurd hws.symm hs0
    | cons a l => exact ⟨a, l, rfl⟩
  obtain ⟨A, c, rfl, hc1, hc2, hr⟩ := strs_open hrep
  obtain ⟨b, off, rfl, hbb, _, h0, _⟩ := hr 0 (by simp)
  have hr2 : ∀ k (hk : k < tl.length), w2.cell? ⟨b, off + 1 + k, none⟩ = some (.string tl[k]) := by
    intro k hk
    obtain ⟨b', off', hA, _, _, h2, _⟩ := hr (k + 1) (by simp; omega)
    cases hA
    rw [show off + 1 + k = off + (k + 1) by omega, h2]
    rfl
  simp only [List.length_cons] at hc1 hwn
  simp only [Nat.add_zero, List.getElem_cons_zero] at h0
  obtain ⟨AD, hAD⟩ : ∃ AD : Addr, (if c = 1 then some (⟨b, off, none⟩ : Addr) else some ⟨b, off + 1, none⟩) = some AD := by split <;> exact ⟨_, rfl⟩
  have i0 : (1 : Int) ≤ ((tl.length + 1 : Nat) : Int) := by omega
  have i1 : (1 : Int) ≤ (tl.length : Int) + 1 := by omega
  clear hrep hr hsl hsc hs0
  simp only [List.length_cons]
  go_wp2_with fail
  refine (spec_l03Numbers_c tl (some AD) (c - 1) w2 ?_ (fun b hb => hwz b (List.mem_cons_of_mem _ hb)) (by omega)).mono ?_
  · intro k hk
    have hc : ¬ c = 1 := by omega
    rw [if_neg hc] at hAD
    cases hAD
    exact ⟨b, off + 1, rfl, hbb, hr2 k hk⟩
  rintro en w3 ⟨v, G, rfl, hrep, hfr3, b3⟩
  rw [← b3.cell (p := ⟨b, off, none⟩) hbb] at h0
  replace R0 := R0.later b3
  replace b0 := b0.trans (b3.mono b0.size)
  have hs1 := Nat.le_trans hs1 b3.size
  have hOk : refOk s.data.toList = (okR tl && possB (refE s.data.toList)) := by
    rw [refOk, ← hws]; simp [okR, List.all_map, Function.comp_def]
  have hE : refE s.data.toList = if w0.data.toList = nameL 1 ∧ tl.length = 3 then ⟨1, (numsR tl).getD 0 0, (numsR tl).getD 1 0, (numsR tl).getD 2 0⟩
      else if w0.data.toList = nameL 2 ∧ tl.length = 3 then ⟨2, (numsR tl).getD 0 0, (numsR tl).getD 1 0, (numsR tl).getD 2 0⟩
      else if w0.data.toList = nameL 3 ∧ tl.length = 1 then ⟨3, 0, 0, (numsR tl).getD 0 0⟩
      else if w0.data.toList = nameL 4 ∧ tl.length = 1 then ⟨4, 0, 0, (numsR tl).getD 0 0⟩
      else ⟨0, 0, 0, 0⟩ := by
    rw [refE, ← hws]; simp [numsR, Function.comp_def]
  have hnl : (numsR tl).length = tl.length := by simp [numsR]
  have HE := Lib.hid hE
  have HO := Lib.hid hOk
  have HREP := Lib.hid hrep
  obtain ⟨U, uc, rfl⟩ := slice_len hrep
  have hg : w.heap.size ≠ w3.heap.size := by omega
  clear hAD hr2 hws hwz hE hOk hrep hc1 hc2 b2
  generalize hns : numsR tl = ns at HE HREP hnl
  go_upto_region 4 with fail
  have R7 := Row.new w3 32 #[.int .i64 0, .int .i64 0, .int .i64 0, .int .i64 0]
  have b37 : Below w3.heap.size w3 (w3.alloc (.cells #[.int .i64 0, .int .i64 0, .int .i64 0, .int .i64 0] 32)) := (Below.refl _ _).alloc (Nat.le_refl _) _
  have hbb3 : b < w3.heap.size := by have := b3.size; omega
  rw [← b37.cell (p := ⟨b, off, none⟩) hbb3] at h0
  replace R0 := R0.later b37
  replace b0 := b0.trans (b37.mono b0.size)
  have HREP4 := Lib.hid (HREP.out.below b37)
  have hg7 : w.heap.size ≤ w3.heap.size := by omega
  clear HREP b37
  generalize (w3.alloc (.cells #[.int .i64 0, .int .i64 0, .int .i64 0, .int .i64 0] 32)) = w4 at R7 R0 b0 h0 HREP4 ⊢
  generalize w3.heap.size = g7 at R7 hg hg7 hbb3 ⊢
  cases hb : okR tl
  · rw [hb] at HO
    have HF := Lib.hid (show refOk s.data.toList = false by rw [HO.out]; rfl)
    have s0 := R0.cell' (i := 0) rfl
    have s1 := R0.cell' (i := 1) rfl
    have s2 := R0.cell' (i := 2) rfl
    have s3 := R0.cell' (i := 3) rfl
    have f0 := R0.frozen 0
    have f1 := R0.frozen 1
    have f2 := R0.frozen 2
    have f3 := R0.frozen 3
    clear HO
    go_wp2_with fail
    all_goals
      have R9 := four_cellsE R0 rfl (.int .i64 0) (.int .i64 0) (.int .i64 0) (.int .i64 0)
      have b9 := (((b0.setCell (p := ⟨w.heap.size, 0, none⟩) (Nat.le_refl _) (.int .i64 0)).setCell (p := ⟨w.heap.size, 1, none⟩) (Nat.le_refl _) (.int .i64 0)).setCell (p := ⟨w.heap.size, 2, none⟩) (Nat.le_refl _) (.int .i64 0)).setCell (p := ⟨w.heap.size, 3, none⟩) (Nat.le_refl _) (.int .i64 0)
      clear s0 s1 s2 s3 f0 f1 f2 f3
      generalize (((w4.setCell ⟨w.heap.size, 0, none⟩ (.int .i64 0)).setCell ⟨w.heap.size, 1, none⟩ (.int .i64 0)).setCell ⟨w.heap.size, 2, none⟩ (.int .i64 0)).setCell ⟨w.heap.size, 3, none⟩ (.int .i64 0) = w9 at R9 b9 ⊢
      have z0 := R9.cell' (i := 0) rfl
      have z1 := R9.cell' (i := 1) rfl
      have z2 := R9.cell' (i := 2) rfl
      have z3 := R9.cell' (i := 3) rfl
      refine bodyPost_ret (v := .tuple #[.agg #[.int .i64 0, .int .i64 0, .int .i64 0, .int .i64 0], .bool false]) (by simp [results, Tryd.results25, go_sem, z0, z1, z2, z3]) rfl ?_
      exact ⟨⟨0, 0, 0, 0⟩, by rw [HF.out], by (rw [HF.out]; intro h; cases h), b9⟩
  · rw [hb] at HO
    rw [Bool.true_and] at HO
    have c70 := R7.cell' (i := 0) rfl
    have c71 := R7.cell' (i := 1) rfl
    have c72 := R7.cell' (i := 2) rfl
    have c73 := R7.cell' (i := 3) rfl
    have f70 := R7.frozen 0
    have f71 := R7.frozen 1
    have f72 := R7.frozen 2
    have f73 := R7.frozen 3
    obtain ⟨A', c', hv, _, _, hr⟩ := nums_open HREP4.out
    injection hv with hv1 _ hv2
    subst hv1 hv2
    rcases Classical.em (w0.data.toList = nameL 1 ∧ tl.length = 3) with k1 | k1
    · have hw : w0 = ⟨#[100, 111, 119, 110]⟩ := ba_ext k1.1
      have HR := Lib.hid (show refE s.data.toList = ⟨1, ns.getD 0 0, ns.getD 1 0, ns.getD 2 0⟩ by rw [HE.out, if_pos k1])
      obtain ⟨x0, x1, x2, rfl⟩ : ∃ a b d, ns = [a, b, d] := by
        match ns, hnl.trans k1.2 with
        | [a, b, d], _ => exact ⟨a, b, d, rfl⟩
      obtain ⟨bn, on, rfl, hbn, _, q0, j0⟩ := hr 0 (by simp)
      obtain ⟨b1, off1, hA1, _, _, q1, j1⟩ := hr 1 (by simp)
      obtain ⟨b2', off2, hA2, _, _, q2, j2⟩ := hr 2 (by simp)
      cases hA1
      cases hA2
      simp only [List.getElem_cons_zero, List.getElem_cons_succ, Nat.add_zero] at q0 q1 q2 j0 j1 j2
      have hl3 : tl.length = 3 := k1.2
      subst hw
      clear hr k1 HE HREP4
      go_upto_region 14 with (go_still_tail 10, (by kernel_rfl))
      have R8 := four_cellsE R7 rfl (.int .i64 1) (.int .i64 x0) (.int .i64 x1) (.int .i64 x2)
      have R00 := (((R0.far (p := ⟨g7, 0, none⟩) hg (.int .i64 1)).far (p := ⟨g7, 1, none⟩) hg (.int .i64 x0)).far (p := ⟨g7, 2, none⟩) hg (.int .i64 x1)).far (p := ⟨g7, 3, none⟩) hg (.int .i64 x2)
      have b00 := (((b0.setCell (p := ⟨g7, 0, none⟩) hg7 (.int .i64 1)).setCell (p := ⟨g7, 1, none⟩) hg7 (.int .i64 x0)).setCell (p := ⟨g7, 2, none⟩) hg7 (.int .i64 x1)).setCell (p := ⟨g7, 3, none⟩) hg7 (.int .i64 x2)
      replace R8 := R8.drew
      replace R00 := R00.drew
      replace b00 := b00.drew
      clear c70 c71 c72 c73 f70 f71 f72 f73 R7 R0 b0 h0
      generalize ((((w4.setCell ⟨g7, 0, none⟩ (.int .i64 1)).setCell ⟨g7, 1, none⟩ (.int .i64 x0)).setCell ⟨g7, 2, none⟩ (.int .i64 x1)).setCell ⟨g7, 3, none⟩ (.int .i64 x2)).drew = wv at R8 R00 b00 ⊢
      have HP := Lib.hid (spec_l26Possible_c ⟨1, x0, x1, x2⟩ wv.drew R8.drew)
      have hfin : refOk s.data.toList = possB ⟨1, x0, x1, x2⟩ := by rw [HO.out, HR.out] <;> rfl
      have HF := Lib.hid hfin
      clear hfin HO
      generalize possB ⟨1, x0, x1, x2⟩ = pb at HP HF
      have hS : (fun w' : World => w'.cell? ⟨g7, 0, none⟩ = some (.int .i64 1) ∧ w'.cell? ⟨g7, 1, none⟩ = some (.int .i64 x0) ∧ w'.cell? ⟨g7, 2, none⟩ = some (.int .i64 x1) ∧ w'.cell? ⟨g7, 3, none⟩ = some (.int .i64 x2)) wv.drew := ⟨R8.cell' (i := 0) rfl, R8.cell' (i := 1) rfl, R8.cell' (i := 2) rfl, R8.cell' (i := 3) rfl⟩
      dsimp only at hS
      refine wp_region_held_drew (S := (fun w' : World => w'.cell? ⟨g7, 0, none⟩ = some (.int .i64 1) ∧ w'.cell? ⟨g7, 1, none⟩ = some (.int .i64 x0) ∧ w'.cell? ⟨g7, 2, none⟩ = some (.int .i64 x1) ∧ w'.cell? ⟨g7, 3, none⟩ = some (.int .i64 x2))) (by kernel_rfl) hS (fun _ => ?_)
      refine wpAnyH_take (i := 0) (oi := { dst := some 89, op := Go.Op.load 32 (Go.Operand.tmp 7), type := 32, pos := "l26_sessions.go:273", after := #[], guard := none }) (v := ?_) rfl (by kernel_rfl) (by kernel_rfl) (by kernel_rfl) (fun _ _ _ h => h) (Or.inl ⟨rfl, ?_⟩) hS ?_
      rotate_left
      · (intro w' hS'; (try dsimp only at hS'); go_simp; try with_reducible rfl)
      simp only [Act.put, List.setIfInBounds_toArray, List.set_cons_zero, List.set_cons_succ]
      refine wpAnyH_ready (rs := [1]) (by kernel_rfl) (by simp) ?_
      refine AllReadyH.cons (o := { dst := some 90, op := Go.Op.call { callee := Go.Callee.value (Go.Operand.func 49), args := #[Go.Operand.tmp 7], argTypes := #[84] }, type := 4, pos := "l26_sessions.go:273", after := #[], guard := none }) rfl (fun K hK => ?_) .nil
      refine step_call 49 #[Go.Operand.tmp 7] _ rfl rfl #[.pointer (some ⟨g7, 0, none⟩)] Tryd.call49 (by go_simp) HP.out ?_
      rintro en w6 ⟨rfl, b6⟩
      refine ⟨_, rfl, ?_⟩
      replace R8 := R8.drew.later b6
      replace R00 := R00.drew.later b6
      replace b00 := b00.drew.trans (b6.mono b00.drew.size)
      replace hS : (fun w' : World => w'.cell? ⟨g7, 0, none⟩ = some (.int .i64 1) ∧ w'.cell? ⟨g7, 1, none⟩ = some (.int .i64 x0) ∧ w'.cell? ⟨g7, 2, none⟩ = some (.int .i64 x1) ∧ w'.cell? ⟨g7, 3, none⟩ = some (.int .i64 x2)) w6 := ⟨R8.cell' (i := 0) rfl, R8.cell' (i := 1) rfl, R8.cell' (i := 2) rfl, R8.cell' (i := 3) rfl⟩
      dsimp only at hS
      refine hK.out _ _ ?_ (fun hHeld => ?_)
      · exact hS
      clear hK K hHeld
      simp only [Act.put, List.setIfInBounds_toArray, List.set_cons_zero, List.set_cons_succ]
      have s0 := R00.cell' (i := 0) rfl
      have s1 := R00.cell' (i := 1) rfl
      have s2 := R00.cell' (i := 2) rfl
      have s3 := R00.cell' (i := 3) rfl
      have f0 := R00.frozen 0
      have f1 := R00.frozen 1
      have f2 := R00.frozen 2
      have f3 := R00.frozen 3
      refine wpAnyH_ready (rs := [2]) (by kernel_rfl) (by simp) ?_
      refine AllReadyH.cons (o := { dst := none, op := Go.Op.store 32 (Go.Operand.tmp 2) (Go.Operand.tmp 89), type := 0, pos := "l26_sessions.go:273", after := #[{ on := 0, ground := Go.Ground.data }, { on := 1, ground := Go.Ground.chain }, { on := 0, ground := Go.Ground.phase }, { on := 1, ground := Go.Ground.textOnly Go.Departure.lateStoresUnsure }], guard := none }) rfl (fun K hK => ?_) .nil
      go_simp
      refine hK.out _ _ ?_ (fun hHeld => ?_)
      · exact ⟨far4 hS.1 (Ne.symm hg), far4 hS.2.1 (Ne.symm hg), far4 hS.2.2.1 (Ne.symm hg), far4 hS.2.2.2 (Ne.symm hg)⟩
      clear hK K hHeld
      have R9 := four_cellsE R00 rfl (.int .i64 1) (.int .i64 x0) (.int .i64 x1) (.int .i64 x2)
      have b9 := (((b00.setCell (p := ⟨w.heap.size, 0, none⟩) (Nat.le_refl _) (.int .i64 1)).setCell (p := ⟨w.heap.size, 1, none⟩) (Nat.le_refl _) (.int .i64 x0)).setCell (p := ⟨w.heap.size, 2, none⟩) (Nat.le_refl _) (.int .i64 x1)).setCell (p := ⟨w.heap.size, 3, none⟩) (Nat.le_refl _) (.int .i64 x2)
      clear s0 s1 s2 s3 f0 f1 f2 f3
      replace hS : (fun w' : World => w'.cell? ⟨g7, 0, none⟩ = some (.int .i64 1) ∧ w'.cell? ⟨g7, 1, none⟩ = some (.int .i64 x0) ∧ w'.cell? ⟨g7, 2, none⟩ = some (.int .i64 x1) ∧ w'.cell? ⟨g7, 3, none⟩ = some (.int .i64 x2)) ((((w6.setCell ⟨w.heap.size, 0, none⟩ (.int .i64 1)).setCell ⟨w.heap.size, 1, none⟩ (.int .i64 x0)).setCell ⟨w.heap.size, 2, none⟩ (.int .i64 x1)).setCell ⟨w.heap.size, 3, none⟩ (.int .i64 x2)) := ⟨far4 hS.1 (Ne.symm hg), far4 hS.2.1 (Ne.symm hg), far4 hS.2.2.1 (Ne.symm hg), far4 hS.2.2.2 (Ne.symm hg)⟩
      generalize (((w6.setCell ⟨w.heap.size, 0, none⟩ (.int .i64 1)).setCell ⟨w.heap.size, 1, none⟩ (.int .i64 x0)).setCell ⟨w.heap.size, 2, none⟩ (.int .i64 x1)).setCell ⟨w.heap.size, 3, none⟩ (.int .i64 x2) = w9 at R9 b9 hS ⊢
      try dsimp only at hS
      refine wpAnyH_take (i := 3) (oi := { dst := some 3, op := Go.Op.assign (Go.Operand.tmp 90), type := 4, pos := "l26_sessions.go:273", after := #[{ on := 1, ground := Go.Ground.data }, { on := 2, ground := Go.Ground.chain }, { on := 0, ground := Go.Ground.phase }, { on := 1, ground := Go.Ground.phase }, { on := 2, ground := Go.Ground.phase }], guard := none }) (v := ?_) rfl (by kernel_rfl) (by kernel_rfl) (by kernel_rfl) (fun _ _ _ h => h) (Or.inl ⟨rfl, ?_⟩) hS ?_
      rotate_left
      · (intro w' hS'; (try dsimp only at hS'); go_simp; try with_reducible rfl)
      simp only [Act.put, List.setIfInBounds_toArray, List.set_cons_zero, List.set_cons_succ]
      refine wpAnyH_done (by kernel_rfl) ?_ _
      have z0 := R9.cell' (i := 0) rfl
      have z1 := R9.cell' (i := 1) rfl
      have z2 := R9.cell' (i := 2) rfl
      have z3 := R9.cell' (i := 3) rfl
      clear hS
      go_wp2_with fail
      refine bodyPost_ret (v := .tuple #[.agg #[.int .i64 1, .int .i64 x0, .int .i64 x1, .int .i64 x2], .bool pb]) (by simp [results, Tryd.results25, go_sem, z0, z1, z2, z3]) rfl ?_
      exact ⟨⟨1, x0, x1, x2⟩, by rw [HF.out], fun _ => by rw [HR.out] <;> rfl, b9⟩

    rcases Classical.em (w0.data.toList = nameL 2 ∧ tl.length = 3) with k2 | k2
    · have hw : w0 = ⟨#[109, 111, 118, 101]⟩ := ba_ext k2.1
      have n1 : ¬ (w0.data.toList = nameL 1 ∧ tl.length = 3) := by (rw [hw]; rintro ⟨h, hl⟩; first | (exact absurd h (by decide)) | omega)
      have HR := Lib.hid (show refE s.data.toList = ⟨2, ns.getD 0 0, ns.getD 1 0, ns.getD 2 0⟩ by rw [HE.out, if_neg n1, if_pos k2])
      obtain ⟨x0, x1, x2, rfl⟩ : ∃ a b d, ns = [a, b, d] := by
        match ns, hnl.trans k2.2 with
        | [a, b, d], _ => exact ⟨a, b, d, rfl⟩
      obtain ⟨bn, on, rfl, hbn, _, q0, j0⟩ := hr 0 (by simp)
      obtain ⟨b1, off1, hA1, _, _, q1, j1⟩ := hr 1 (by simp)
      obtain ⟨b2', off2, hA2, _, _, q2, j2⟩ := hr 2 (by simp)
      cases hA1
      cases hA2
      simp only [List.getElem_cons_zero, List.getElem_cons_succ, Nat.add_zero] at q0 q1 q2 j0 j1 j2
      have hl3 : tl.length = 3 := k2.2
      subst hw
      clear hr k2 HE HREP4 n1 k1
      go_upto_region 14 with (go_still_tail 10, (by kernel_rfl))
      have R8 := four_cellsE R7 rfl (.int .i64 2) (.int .i64 x0) (.int .i64 x1) (.int .i64 x2)
      have R00 := (((R0.far (p := ⟨g7, 0, none⟩) hg (.int .i64 2)).far (p := ⟨g7, 1, none⟩) hg (.int .i64 x0)).far (p := ⟨g7, 2, none⟩) hg (.int .i64 x1)).far (p := ⟨g7, 3, none⟩) hg (.int .i64 x2)
      have b00 := (((b0.setCell (p := ⟨g7, 0, none⟩) hg7 (.int .i64 2)).setCell (p := ⟨g7, 1, none⟩) hg7 (.int .i64 x0)).setCell (p := ⟨g7, 2, none⟩) hg7 (.int .i64 x1)).setCell (p := ⟨g7, 3, none⟩) hg7 (.int .i64 x2)
      replace R8 := R8.drew
      replace R00 := R00.drew
      replace b00 := b00.drew
      clear c70 c71 c72 c73 f70 f71 f72 f73 R7 R0 b0 h0
      generalize ((((w4.setCell ⟨g7, 0, none⟩ (.int .i64 2)).setCell ⟨g7, 1, none⟩ (.int .i64 x0)).setCell ⟨g7, 2, none⟩ (.int .i64 x1)).setCell ⟨g7, 3, none⟩ (.int .i64 x2)).drew = wv at R8 R00 b00 ⊢
      have HP := Lib.hid (spec_l26Possible_c ⟨2, x0, x1, x2⟩ wv.drew R8.drew)
      have hfin : refOk s.data.toList = possB ⟨2, x0, x1, x2⟩ := by rw [HO.out, HR.out] <;> rfl
      have HF := Lib.hid hfin
      clear hfin HO
      generalize possB ⟨2, x0, x1, x2⟩ = pb at HP HF
      have hS : (fun w' : World => w'.cell? ⟨g7, 0, none⟩ = some (.int .i64 2) ∧ w'.cell? ⟨g7, 1, none⟩ = some (.int .i64 x0) ∧ w'.cell? ⟨g7, 2, none⟩ = some (.int .i64 x1) ∧ w'.cell? ⟨g7, 3, none⟩ = some (.int .i64 x2)) wv.drew := ⟨R8.cell' (i := 0) rfl, R8.cell' (i := 1) rfl, R8.cell' (i := 2) rfl, R8.cell' (i := 3) rfl⟩
      dsimp only at hS
      refine wp_region_held_drew (S := (fun w' : World => w'.cell? ⟨g7, 0, none⟩ = some (.int .i64 2) ∧ w'.cell? ⟨g7, 1, none⟩ = some (.int .i64 x0) ∧ w'.cell? ⟨g7, 2, none⟩ = some (.int .i64 x1) ∧ w'.cell? ⟨g7, 3, none⟩ = some (.int .i64 x2))) (by kernel_rfl) hS (fun _ => ?_)
      refine wpAnyH_take (i := 0) (oi := { dst := some 89, op := Go.Op.load 32 (Go.Operand.tmp 7), type := 32, pos := "l26_sessions.go:273", after := #[], guard := none }) (v := ?_) rfl (by kernel_rfl) (by kernel_rfl) (by kernel_rfl) (fun _ _ _ h => h) (Or.inl ⟨rfl, ?_⟩) hS ?_
      rotate_left
      · (intro w' hS'; (try dsimp only at hS'); go_simp; try with_reducible rfl)
      simp only [Act.put, List.setIfInBounds_toArray, List.set_cons_zero, List.set_cons_succ]
      refine wpAnyH_ready (rs := [1]) (by kernel_rfl) (by simp) ?_
      refine AllReadyH.cons (o := { dst := some 90, op := Go.Op.call { callee := Go.Callee.value (Go.Operand.func 49), args := #[Go.Operand.tmp 7], argTypes := #[84] }, type := 4, pos := "l26_sessions.go:273", after := #[], guard := none }) rfl (fun K hK => ?_) .nil
      refine step_call 49 #[Go.Operand.tmp 7] _ rfl rfl #[.pointer (some ⟨g7, 0, none⟩)] Tryd.call49 (by go_simp) HP.out ?_
      rintro en w6 ⟨rfl, b6⟩
      refine ⟨_, rfl, ?_⟩
      replace R8 := R8.drew.later b6
      replace R00 := R00.drew.later b6
      replace b00 := b00.drew.trans (b6.mono b00.drew.size)
      replace hS : (fun w' : World => w'.cell? ⟨g7, 0, none⟩ = some (.int .i64 2) ∧ w'.cell? ⟨g7, 1, none⟩ = some (.int .i64 x0) ∧ w'.cell? ⟨g7, 2, none⟩ = some (.int .i64 x1) ∧ w'.cell? ⟨g7, 3, none⟩ = some (.int .i64 x2)) w6 := ⟨R8.cell' (i := 0) rfl, R8.cell' (i := 1) rfl, R8.cell' (i := 2) rfl, R8.cell' (i := 3) rfl⟩
      dsimp only at hS
      refine hK.out _ _ ?_ (fun hHeld => ?_)
      · exact hS
      clear hK K hHeld
      simp only [Act.put, List.setIfInBounds_toArray, List.set_cons_zero, List.set_cons_succ]
      have s0 := R00.cell' (i := 0) rfl
      have s1 := R00.cell' (i := 1) rfl
      have s2 := R00.cell' (i := 2) rfl
      have s3 := R00.cell' (i := 3) rfl
      have f0 := R00.frozen 0
      have f1 := R00.frozen 1
      have f2 := R00.frozen 2
      have f3 := R00.frozen 3
      refine wpAnyH_ready (rs := [2]) (by kernel_rfl) (by simp) ?_
      refine AllReadyH.cons (o := { dst := none, op := Go.Op.store 32 (Go.Operand.tmp 2) (Go.Operand.tmp 89), type := 0, pos := "l26_sessions.go:273", after := #[{ on := 0, ground := Go.Ground.data }, { on := 1, ground := Go.Ground.chain }, { on := 0, ground := Go.Ground.phase }, { on := 1, ground := Go.Ground.textOnly Go.Departure.lateStoresUnsure }], guard := none }) rfl (fun K hK => ?_) .nil
      go_simp
      refine hK.out _ _ ?_ (fun hHeld => ?_)
      · exact ⟨far4 hS.1 (Ne.symm hg), far4 hS.2.1 (Ne.symm hg), far4 hS.2.2.1 (Ne.symm hg), far4 hS.2.2.2 (Ne.symm hg)⟩
      clear hK K hHeld
      have R9 := four_cellsE R00 rfl (.int .i64 2) (.int .i64 x0) (.int .i64 x1) (.int .i64 x2)
      have b9 := (((b00.setCell (p := ⟨w.heap.size, 0, none⟩) (Nat.le_refl _) (.int .i64 2)).setCell (p := ⟨w.heap.size, 1, none⟩) (Nat.le_refl _) (.int .i64 x0)).setCell (p := ⟨w.heap.size, 2, none⟩) (Nat.le_refl _) (.int .i64 x1)).setCell (p := ⟨w.heap.size, 3, none⟩) (Nat.le_refl _) (.int .i64 x2)
      clear s0 s1 s2 s3 f0 f1 f2 f3
      replace hS : (fun w' : World => w'.cell? ⟨g7, 0, none⟩ = some (.int .i64 2) ∧ w'.cell? ⟨g7, 1, none⟩ = some (.int .i64 x0) ∧ w'.cell? ⟨g7, 2, none⟩ = some (.int .i64 x1) ∧ w'.cell? ⟨g7, 3, none⟩ = some (.int .i64 x2)) ((((w6.setCell ⟨w.heap.size, 0, none⟩ (.int .i64 2)).setCell ⟨w.heap.size, 1, none⟩ (.int .i64 x0)).setCell ⟨w.heap.size, 2, none⟩ (.int .i64 x1)).setCell ⟨w.heap.size, 3, none⟩ (.int .i64 x2)) := ⟨far4 hS.1 (Ne.symm hg), far4 hS.2.1 (Ne.symm hg), far4 hS.2.2.1 (Ne.symm hg), far4 hS.2.2.2 (Ne.symm hg)⟩
      generalize (((w6.setCell ⟨w.heap.size, 0, none⟩ (.int .i64 2)).setCell ⟨w.heap.size, 1, none⟩ (.int .i64 x0)).setCell ⟨w.heap.size, 2, none⟩ (.int .i64 x1)).setCell ⟨w.heap.size, 3, none⟩ (.int .i64 x2) = w9 at R9 b9 hS ⊢
      try dsimp only at hS
      refine wpAnyH_take (i := 3) (oi := { dst := some 3, op := Go.Op.assign (Go.Operand.tmp 90), type := 4, pos := "l26_sessions.go:273", after := #[{ on := 1, ground := Go.Ground.data }, { on := 2, ground := Go.Ground.chain }, { on := 0, ground := Go.Ground.phase }, { on := 1, ground := Go.Ground.phase }, { on := 2, ground := Go.Ground.phase }], guard := none }) (v := ?_) rfl (by kernel_rfl) (by kernel_rfl) (by kernel_rfl) (fun _ _ _ h => h) (Or.inl ⟨rfl, ?_⟩) hS ?_
      rotate_left
      · (intro w' hS'; (try dsimp only at hS'); go_simp; try with_reducible rfl)
      simp only [Act.put, List.setIfInBounds_toArray, List.set_cons_zero, List.set_cons_succ]
      refine wpAnyH_done (by kernel_rfl) ?_ _
      have z0 := R9.cell' (i := 0) rfl
      have z1 := R9.cell' (i := 1) rfl
      have z2 := R9.cell' (i := 2) rfl
      have z3 := R9.cell' (i := 3) rfl
      clear hS
      go_wp2_with fail
      refine bodyPost_ret (v := .tuple #[.agg #[.int .i64 2, .int .i64 x0, .int .i64 x1, .int .i64 x2], .bool pb]) (by simp [results, Tryd.results25, go_sem, z0, z1, z2, z3]) rfl ?_
      exact ⟨⟨2, x0, x1, x2⟩, by rw [HF.out], fun _ => by rw [HR.out] <;> rfl, b9⟩

    rcases Classical.em (w0.data.toList = nameL 3 ∧ tl.length = 1) with k3 | k3
    · have hw : w0 = ⟨#[117, 112]⟩ := ba_ext k3.1
      have n1 : ¬ (w0.data.toList = nameL 1 ∧ tl.length = 3) := by (rw [hw]; rintro ⟨h, hl⟩; first | (exact absurd h (by decide)) | omega)
      have n2 : ¬ (w0.data.toList = nameL 2 ∧ tl.length = 3) := by (rw [hw]; rintro ⟨h, hl⟩; first | (exact absurd h (by decide)) | omega)
      have HR := Lib.hid (show refE s.data.toList = ⟨3, 0, 0, ns.getD 0 0⟩ by rw [HE.out, if_neg n1, if_neg n2, if_pos k3])
      obtain ⟨x0, rfl⟩ : ∃ a, ns = [a] := by
        match ns, hnl.trans k3.2 with
        | [a], _ => exact ⟨a, rfl⟩
      obtain ⟨bn, on, rfl, hbn, _, q0, j0⟩ := hr 0 (by simp)
      simp only [List.getElem_cons_zero, Nat.add_zero] at q0 j0
      have hl3 : tl.length = 1 := k3.2
      subst hw
      clear hr k3 HE HREP4 n1 n2 k1 k2
      go_upto_region 14 with fail
      have R8 := four_cellsE R7 rfl (.int .i64 3) (.int .i64 0) (.int .i64 0) (.int .i64 x0)
      have R00 := (((R0.far (p := ⟨g7, 0, none⟩) hg (.int .i64 3)).far (p := ⟨g7, 1, none⟩) hg (.int .i64 0)).far (p := ⟨g7, 2, none⟩) hg (.int .i64 0)).far (p := ⟨g7, 3, none⟩) hg (.int .i64 x0)
      have b00 := (((b0.setCell (p := ⟨g7, 0, none⟩) hg7 (.int .i64 3)).setCell (p := ⟨g7, 1, none⟩) hg7 (.int .i64 0)).setCell (p := ⟨g7, 2, none⟩) hg7 (.int .i64 0)).setCell (p := ⟨g7, 3, none⟩) hg7 (.int .i64 x0)
      clear c70 c71 c72 c73 f70 f71 f72 f73 R7 R0 b0 h0
      generalize (((w4.setCell ⟨g7, 0, none⟩ (.int .i64 3)).setCell ⟨g7, 1, none⟩ (.int .i64 0)).setCell ⟨g7, 2, none⟩ (.int .i64 0)).setCell ⟨g7, 3, none⟩ (.int .i64 x0) = wv at R8 R00 b00 ⊢
      have HP := Lib.hid (spec_l26Possible_c ⟨3, 0, 0, x0⟩ wv.drew R8.drew)
      have hfin : refOk s.data.toList = possB ⟨3, 0, 0, x0⟩ := by rw [HO.out, HR.out] <;> rfl
      have HF := Lib.hid hfin
      clear hfin HO
      generalize possB ⟨3, 0, 0, x0⟩ = pb at HP HF
      have hS : (fun w' : World => w'.cell? ⟨g7, 0, none⟩ = some (.int .i64 3) ∧ w'.cell? ⟨g7, 1, none⟩ = some (.int .i64 0) ∧ w'.cell? ⟨g7, 2, none⟩ = some (.int .i64 0) ∧ w'.cell? ⟨g7, 3, none⟩ = some (.int .i64 x0)) wv.drew := ⟨R8.cell' (i := 0) rfl, R8.cell' (i := 1) rfl, R8.cell' (i := 2) rfl, R8.cell' (i := 3) rfl⟩
      dsimp only at hS
      refine wp_region_held_drew (S := (fun w' : World => w'.cell? ⟨g7, 0, none⟩ = some (.int .i64 3) ∧ w'.cell? ⟨g7, 1, none⟩ = some (.int .i64 0) ∧ w'.cell? ⟨g7, 2, none⟩ = some (.int .i64 0) ∧ w'.cell? ⟨g7, 3, none⟩ = some (.int .i64 x0))) (by kernel_rfl) hS (fun _ => ?_)
      refine wpAnyH_take (i := 0) (oi := { dst := some 89, op := Go.Op.load 32 (Go.Operand.tmp 7), type := 32, pos := "l26_sessions.go:273", after := #[], guard := none }) (v := ?_) rfl (by kernel_rfl) (by kernel_rfl) (by kernel_rfl) (fun _ _ _ h => h) (Or.inl ⟨rfl, ?_⟩) hS ?_
      rotate_left
      · (intro w' hS'; (try dsimp only at hS'); go_simp; try with_reducible rfl)
      simp only [Act.put, List.setIfInBounds_toArray, List.set_cons_zero, List.set_cons_succ]
      refine wpAnyH_ready (rs := [1]) (by kernel_rfl) (by simp) ?_
      refine AllReadyH.cons (o := { dst := some 90, op := Go.Op.call { callee := Go.Callee.value (Go.Operand.func 49), args := #[Go.Operand.tmp 7], argTypes := #[84] }, type := 4, pos := "l26_sessions.go:273", after := #[], guard := none }) rfl (fun K hK => ?_) .nil
      refine step_call 49 #[Go.Operand.tmp 7] _ rfl rfl #[.pointer (some ⟨g7, 0, none⟩)] Tryd.call49 (by go_simp) HP.out ?_
      rintro en w6 ⟨rfl, b6⟩
      refine ⟨_, rfl, ?_⟩
      replace R8 := R8.drew.later b6
      replace R00 := R00.drew.later b6
      replace b00 := b00.drew.trans (b6.mono b00.drew.size)
      replace hS : (fun w' : World => w'.cell? ⟨g7, 0, none⟩ = some (.int .i64 3) ∧ w'.cell? ⟨g7, 1, none⟩ = some (.int .i64 0) ∧ w'.cell? ⟨g7, 2, none⟩ = some (.int .i64 0) ∧ w'.cell? ⟨g7, 3, none⟩ = some (.int .i64 x0)) w6 := ⟨R8.cell' (i := 0) rfl, R8.cell' (i := 1) rfl, R8.cell' (i := 2) rfl, R8.cell' (i := 3) rfl⟩
      dsimp only at hS
      refine hK.out _ _ ?_ (fun hHeld => ?_)
      · exact hS
      clear hK K hHeld
      simp only [Act.put, List.setIfInBounds_toArray, List.set_cons_zero, List.set_cons_succ]
      have s0 := R00.cell' (i := 0) rfl
      have s1 := R00.cell' (i := 1) rfl
      have s2 := R00.cell' (i := 2) rfl
      have s3 := R00.cell' (i := 3) rfl
      have f0 := R00.frozen 0
      have f1 := R00.frozen 1
      have f2 := R00.frozen 2
      have f3 := R00.frozen 3
      refine wpAnyH_ready (rs := [2]) (by kernel_rfl) (by simp) ?_
      refine AllReadyH.cons (o := { dst := none, op := Go.Op.store 32 (Go.Operand.tmp 2) (Go.Operand.tmp 89), type := 0, pos := "l26_sessions.go:273", after := #[{ on := 0, ground := Go.Ground.data }, { on := 1, ground := Go.Ground.chain }, { on := 0, ground := Go.Ground.phase }, { on := 1, ground := Go.Ground.textOnly Go.Departure.lateStoresUnsure }], guard := none }) rfl (fun K hK => ?_) .nil
      go_simp
      refine hK.out _ _ ?_ (fun hHeld => ?_)
      · exact ⟨far4 hS.1 (Ne.symm hg), far4 hS.2.1 (Ne.symm hg), far4 hS.2.2.1 (Ne.symm hg), far4 hS.2.2.2 (Ne.symm hg)⟩
      clear hK K hHeld
      have R9 := four_cellsE R00 rfl (.int .i64 3) (.int .i64 0) (.int .i64 0) (.int .i64 x0)
      have b9 := (((b00.setCell (p := ⟨w.heap.size, 0, none⟩) (Nat.le_refl _) (.int .i64 3)).setCell (p := ⟨w.heap.size, 1, none⟩) (Nat.le_refl _) (.int .i64 0)).setCell (p := ⟨w.heap.size, 2, none⟩) (Nat.le_refl _) (.int .i64 0)).setCell (p := ⟨w.heap.size, 3, none⟩) (Nat.le_refl _) (.int .i64 x0)
      clear s0 s1 s2 s3 f0 f1 f2 f3
      replace hS : (fun w' : World => w'.cell? ⟨g7, 0, none⟩ = some (.int .i64 3) ∧ w'.cell? ⟨g7, 1, none⟩ = some (.int .i64 0) ∧ w'.cell? ⟨g7, 2, none⟩ = some (.int .i64 0) ∧ w'.cell? ⟨g7, 3, none⟩ = some (.int .i64 x0)) ((((w6.setCell ⟨w.heap.size, 0, none⟩ (.int .i64 3)).setCell ⟨w.heap.size, 1, none⟩ (.int .i64 0)).setCell ⟨w.heap.size, 2, none⟩ (.int .i64 0)).setCell ⟨w.heap.size, 3, none⟩ (.int .i64 x0)) := ⟨far4 hS.1 (Ne.symm hg), far4 hS.2.1 (Ne.symm hg), far4 hS.2.2.1 (Ne.symm hg), far4 hS.2.2.2 (Ne.symm hg)⟩
      generalize (((w6.setCell ⟨w.heap.size, 0, none⟩ (.int .i64 3)).setCell ⟨w.heap.size, 1, none⟩ (.int .i64 0)).setCell ⟨w.heap.size, 2, none⟩ (.int .i64 0)).setCell ⟨w.heap.size, 3, none⟩ (.int .i64 x0) = w9 at R9 b9 hS ⊢
      try dsimp only at hS
      refine wpAnyH_take (i := 3) (oi := { dst := some 3, op := Go.Op.assign (Go.Operand.tmp 90), type := 4, pos := "l26_sessions.go:273", after := #[{ on := 1, ground := Go.Ground.data }, { on := 2, ground := Go.Ground.chain }, { on := 0, ground := Go.Ground.phase }, { on := 1, ground := Go.Ground.phase }, { on := 2, ground := Go.Ground.phase }], guard := none }) (v := ?_) rfl (by kernel_rfl) (by kernel_rfl) (by kernel_rfl) (fun _ _ _ h => h) (Or.inl ⟨rfl, ?_⟩) hS ?_
      rotate_left
      · (intro w' hS'; (try dsimp only at hS'); go_simp; try with_reducible rfl)
      simp only [Act.put, List.setIfInBounds_toArray, List.set_cons_zero, List.set_cons_succ]
      refine wpAnyH_done (by kernel_rfl) ?_ _
      have z0 := R9.cell' (i := 0) rfl
      have z1 := R9.cell' (i := 1) rfl
      have z2 := R9.cell' (i := 2) rfl
      have z3 := R9.cell' (i := 3) rfl
      clear hS
      go_wp2_with fail
      refine bodyPost_ret (v := .tuple #[.agg #[.int .i64 3, .int .i64 0, .int .i64 0, .int .i64 x0], .bool pb]) (by simp [results, Tryd.results25, go_sem, z0, z1, z2, z3]) rfl ?_
      exact ⟨⟨3, 0, 0, x0⟩, by rw [HF.out], fun _ => by rw [HR.out] <;> rfl, b9⟩

    rcases Classical.em (w0.data.toList = nameL 4 ∧ tl.length = 1) with k4 | k4
    · have hw : w0 = ⟨#[112, 97, 117, 115, 101]⟩ := ba_ext k4.1
      have n1 : ¬ (w0.data.toList = nameL 1 ∧ tl.length = 3) := by (rw [hw]; rintro ⟨h, hl⟩; first | (exact absurd h (by decide)) | omega)
      have n2 : ¬ (w0.data.toList = nameL 2 ∧ tl.length = 3) := by (rw [hw]; rintro ⟨h, hl⟩; first | (exact absurd h (by decide)) | omega)
      have n3 : ¬ (w0.data.toList = nameL 3 ∧ tl.length = 1) := by (rw [hw]; rintro ⟨h, hl⟩; first | (exact absurd h (by decide)) | omega)
      have HR := Lib.hid (show refE s.data.toList = ⟨4, 0, 0, ns.getD 0 0⟩ by rw [HE.out, if_neg n1, if_neg n2, if_neg n3, if_pos k4])
      obtain ⟨x0, rfl⟩ : ∃ a, ns = [a] := by
        match ns, hnl.trans k4.2 with
        | [a], _ => exact ⟨a, rfl⟩
      obtain ⟨bn, on, rfl, hbn, _, q0, j0⟩ := hr 0 (by simp)
      simp only [List.getElem_cons_zero, Nat.add_zero] at q0 j0
      have hl3 : tl.length = 1 := k4.2
      subst hw
      clear hr k4 HE HREP4 n1 n2 n3 k1 k2 k3
      go_upto_region 14 with fail
      have R8 := four_cellsE R7 rfl (.int .i64 4) (.int .i64 0) (.int .i64 0) (.int .i64 x0)
      have R00 := (((R0.far (p := ⟨g7, 0, none⟩) hg (.int .i64 4)).far (p := ⟨g7, 1, none⟩) hg (.int .i64 0)).far (p := ⟨g7, 2, none⟩) hg (.int .i64 0)).far (p := ⟨g7, 3, none⟩) hg (.int .i64 x0)
      have b00 := (((b0.setCell (p := ⟨g7, 0, none⟩) hg7 (.int .i64 4)).setCell (p := ⟨g7, 1, none⟩) hg7 (.int .i64 0)).setCell (p := ⟨g7, 2, none⟩) hg7 (.int .i64 0)).setCell (p := ⟨g7, 3, none⟩) hg7 (.int .i64 x0)
      clear c70 c71 c72 c73 f70 f71 f72 f73 R7 R0 b0 h0
      generalize (((w4.setCell ⟨g7, 0, none⟩ (.int .i64 4)).setCell ⟨g7, 1, none⟩ (.int .i64 0)).setCell ⟨g7, 2, none⟩ (.int .i64 0)).setCell ⟨g7, 3, none⟩ (.int .i64 x0) = wv at R8 R00 b00 ⊢
      have HP := Lib.hid (spec_l26Possible_c ⟨4, 0, 0, x0⟩ wv.drew R8.drew)
      have hfin : refOk s.data.toList = possB ⟨4, 0, 0, x0⟩ := by rw [HO.out, HR.out] <;> rfl
      have HF := Lib.hid hfin
      clear hfin HO
      generalize possB ⟨4, 0, 0, x0⟩ = pb at HP HF
      have hS : (fun w' : World => w'.cell? ⟨g7, 0, none⟩ = some (.int .i64 4) ∧ w'.cell? ⟨g7, 1, none⟩ = some (.int .i64 0) ∧ w'.cell? ⟨g7, 2, none⟩ = some (.int .i64 0) ∧ w'.cell? ⟨g7, 3, none⟩ = some (.int .i64 x0)) wv.drew := ⟨R8.cell' (i := 0) rfl, R8.cell' (i := 1) rfl, R8.cell' (i := 2) rfl, R8.cell' (i := 3) rfl⟩
      dsimp only at hS
      refine wp_region_held_drew (S := (fun w' : World => w'.cell? ⟨g7, 0, none⟩ = some (.int .i64 4) ∧ w'.cell? ⟨g7, 1, none⟩ = some (.int .i64 0) ∧ w'.cell? ⟨g7, 2, none⟩ = some (.int .i64 0) ∧ w'.cell? ⟨g7, 3, none⟩ = some (.int .i64 x0))) (by kernel_rfl) hS (fun _ => ?_)
      refine wpAnyH_take (i := 0) (oi := { dst := some 89, op := Go.Op.load 32 (Go.Operand.tmp 7), type := 32, pos := "l26_sessions.go:273", after := #[], guard := none }) (v := ?_) rfl (by kernel_rfl) (by kernel_rfl) (by kernel_rfl) (fun _ _ _ h => h) (Or.inl ⟨rfl, ?_⟩) hS ?_
      rotate_left
      · (intro w' hS'; (try dsimp only at hS'); go_simp; try with_reducible rfl)
      simp only [Act.put, List.setIfInBounds_toArray, List.set_cons_zero, List.set_cons_succ]
      refine wpAnyH_ready (rs := [1]) (by kernel_rfl) (by simp) ?_
      refine AllReadyH.cons (o := { dst := some 90, op := Go.Op.call { callee := Go.Callee.value (Go.Operand.func 49), args := #[Go.Operand.tmp 7], argTypes := #[84] }, type := 4, pos := "l26_sessions.go:273", after := #[], guard := none }) rfl (fun K hK => ?_) .nil
      refine step_call 49 #[Go.Operand.tmp 7] _ rfl rfl #[.pointer (some ⟨g7, 0, none⟩)] Tryd.call49 (by go_simp) HP.out ?_
      rintro en w6 ⟨rfl, b6⟩
      refine ⟨_, rfl, ?_⟩
      replace R8 := R8.drew.later b6
      replace R00 := R00.drew.later b6
      replace b00 := b00.drew.trans (b6.mono b00.drew.size)
      replace hS : (fun w' : World => w'.cell? ⟨g7, 0, none⟩ = some (.int .i64 4) ∧ w'.cell? ⟨g7, 1, none⟩ = some (.int .i64 0) ∧ w'.cell? ⟨g7, 2, none⟩ = some (.int .i64 0) ∧ w'.cell? ⟨g7, 3, none⟩ = some (.int .i64 x0)) w6 := ⟨R8.cell' (i := 0) rfl, R8.cell' (i := 1) rfl, R8.cell' (i := 2) rfl, R8.cell' (i := 3) rfl⟩
      dsimp only at hS
      refine hK.out _ _ ?_ (fun hHeld => ?_)
      · exact hS
      clear hK K hHeld
      simp only [Act.put, List.setIfInBounds_toArray, List.set_cons_zero, List.set_cons_succ]
      have s0 := R00.cell' (i := 0) rfl
      have s1 := R00.cell' (i := 1) rfl
      have s2 := R00.cell' (i := 2) rfl
      have s3 := R00.cell' (i := 3) rfl
      have f0 := R00.frozen 0
      have f1 := R00.frozen 1
      have f2 := R00.frozen 2
      have f3 := R00.frozen 3
      refine wpAnyH_ready (rs := [2]) (by kernel_rfl) (by simp) ?_
      refine AllReadyH.cons (o := { dst := none, op := Go.Op.store 32 (Go.Operand.tmp 2) (Go.Operand.tmp 89), type := 0, pos := "l26_sessions.go:273", after := #[{ on := 0, ground := Go.Ground.data }, { on := 1, ground := Go.Ground.chain }, { on := 0, ground := Go.Ground.phase }, { on := 1, ground := Go.Ground.textOnly Go.Departure.lateStoresUnsure }], guard := none }) rfl (fun K hK => ?_) .nil
      go_simp
      refine hK.out _ _ ?_ (fun hHeld => ?_)
      · exact ⟨far4 hS.1 (Ne.symm hg), far4 hS.2.1 (Ne.symm hg), far4 hS.2.2.1 (Ne.symm hg), far4 hS.2.2.2 (Ne.symm hg)⟩
      clear hK K hHeld
      have R9 := four_cellsE R00 rfl (.int .i64 4) (.int .i64 0) (.int .i64 0) (.int .i64 x0)
      have b9 := (((b00.setCell (p := ⟨w.heap.size, 0, none⟩) (Nat.le_refl _) (.int .i64 4)).setCell (p := ⟨w.heap.size, 1, none⟩) (Nat.le_refl _) (.int .i64 0)).setCell (p := ⟨w.heap.size, 2, none⟩) (Nat.le_refl _) (.int .i64 0)).setCell (p := ⟨w.heap.size, 3, none⟩) (Nat.le_refl _) (.int .i64 x0)
      clear s0 s1 s2 s3 f0 f1 f2 f3
      replace hS : (fun w' : World => w'.cell? ⟨g7, 0, none⟩ = some (.int .i64 4) ∧ w'.cell? ⟨g7, 1, none⟩ = some (.int .i64 0) ∧ w'.cell? ⟨g7, 2, none⟩ = some (.int .i64 0) ∧ w'.cell? ⟨g7, 3, none⟩ = some (.int .i64 x0)) ((((w6.setCell ⟨w.heap.size, 0, none⟩ (.int .i64 4)).setCell ⟨w.heap.size, 1, none⟩ (.int .i64 0)).setCell ⟨w.heap.size, 2, none⟩ (.int .i64 0)).setCell ⟨w.heap.size, 3, none⟩ (.int .i64 x0)) := ⟨far4 hS.1 (Ne.symm hg), far4 hS.2.1 (Ne.symm hg), far4 hS.2.2.1 (Ne.symm hg), far4 hS.2.2.2 (Ne.symm hg)⟩
      generalize (((w6.setCell ⟨w.heap.size, 0, none⟩ (.int .i64 4)).setCell ⟨w.heap.size, 1, none⟩ (.int .i64 0)).setCell ⟨w.heap.size, 2, none⟩ (.int .i64 0)).setCell ⟨w.heap.size, 3, none⟩ (.int .i64 x0) = w9 at R9 b9 hS ⊢
      try dsimp only at hS
      refine wpAnyH_take (i := 3) (oi := { dst := some 3, op := Go.Op.assign (Go.Operand.tmp 90), type := 4, pos := "l26_sessions.go:273", after := #[{ on := 1, ground := Go.Ground.data }, { on := 2, ground := Go.Ground.chain }, { on := 0, ground := Go.Ground.phase }, { on := 1, ground := Go.Ground.phase }, { on := 2, ground := Go.Ground.phase }], guard := none }) (v := ?_) rfl (by kernel_rfl) (by kernel_rfl) (by kernel_rfl) (fun _ _ _ h => h) (Or.inl ⟨rfl, ?_⟩) hS ?_
      rotate_left
      · (intro w' hS'; (try dsimp only at hS'); go_simp; try with_reducible rfl)
      simp only [Act.put, List.setIfInBounds_toArray, List.set_cons_zero, List.set_cons_succ]
      refine wpAnyH_done (by kernel_rfl) ?_ _
      have z0 := R9.cell' (i := 0) rfl
      have z1 := R9.cell' (i := 1) rfl
      have z2 := R9.cell' (i := 2) rfl
      have z3 := R9.cell' (i := 3) rfl
      clear hS
      go_wp2_with fail
      refine bodyPost_ret (v := .tuple #[.agg #[.int .i64 4, .int .i64 0, .int .i64 0, .int .i64 x0], .bool pb]) (by simp [results, Tryd.results25, go_sem, z0, z1, z2, z3]) rfl ?_
      exact ⟨⟨4, 0, 0, x0⟩, by rw [HF.out], fun _ => by rw [HR.out] <;> rfl, b9⟩

    have HR := Lib.hid (show refE s.data.toList = ⟨0, 0, 0, 0⟩ by rw [HE.out, if_neg k1, if_neg k2, if_neg k3, if_neg k4])
    rcases Classical.em (w0 = ⟨#[100, 111, 119, 110]⟩) with hw1 | hw1
    · have hl : ¬ tl.length = 3 := fun h => k1 ⟨by rw [hw1]; decide, h⟩
      have l1 : ((tl.length : Int) + 1 == 4) = false := by rw [beq_eq_false_iff_ne]; omega
      have l2 : ((tl.length : Int) + 1 = 4) = False := eq_false (by omega)
      have l3 : ((tl.length : Int) = 3) = False := eq_false (by omega)
      have l4 : (tl.length = 3) = False := eq_false hl
      have l5 : (tl.length + 1 = 4) = False := eq_false (by omega)
      subst hw1
      clear hr k1 k2 k3 k4 HE HREP4
      go_upto_region 14 with fail
      have R8 := R7
      have R00 := R0
      have b00 := b0
      clear c70 c71 c72 c73 f70 f71 f72 f73 R7 R0 b0 h0
      generalize w4 = wv at R8 R00 b00 ⊢
      have HP := Lib.hid (spec_l26Possible_c ⟨0, 0, 0, 0⟩ wv.drew R8.drew)
      have hfin : refOk s.data.toList = possB ⟨0, 0, 0, 0⟩ := by rw [HO.out, HR.out] <;> rfl
      have HF := Lib.hid hfin
      clear hfin HO
      generalize possB ⟨0, 0, 0, 0⟩ = pb at HP HF
      have hS : (fun w' : World => w'.cell? ⟨g7, 0, none⟩ = some (.int .i64 0) ∧ w'.cell? ⟨g7, 1, none⟩ = some (.int .i64 0) ∧ w'.cell? ⟨g7, 2, none⟩ = some (.int .i64 0) ∧ w'.cell? ⟨g7, 3, none⟩ = some (.int .i64 0)) wv.drew := ⟨R8.cell' (i := 0) rfl, R8.cell' (i := 1) rfl, R8.cell' (i := 2) rfl, R8.cell' (i := 3) rfl⟩
      dsimp only at hS
      refine wp_region_held_drew (S := (fun w' : World => w'.cell? ⟨g7, 0, none⟩ = some (.int .i64 0) ∧ w'.cell? ⟨g7, 1, none⟩ = some (.int .i64 0) ∧ w'.cell? ⟨g7, 2, none⟩ = some (.int .i64 0) ∧ w'.cell? ⟨g7, 3, none⟩ = some (.int .i64 0))) (by kernel_rfl) hS (fun _ => ?_)
      refine wpAnyH_take (i := 0) (oi := { dst := some 89, op := Go.Op.load 32 (Go.Operand.tmp 7), type := 32, pos := "l26_sessions.go:273", after := #[], guard := none }) (v := ?_) rfl (by kernel_rfl) (by kernel_rfl) (by kernel_rfl) (fun _ _ _ h => h) (Or.inl ⟨rfl, ?_⟩) hS ?_
      rotate_left
      · (intro w' hS'; (try dsimp only at hS'); go_simp; try with_reducible rfl)
      simp only [Act.put, List.setIfInBounds_toArray, List.set_cons_zero, List.set_cons_succ]
      refine wpAnyH_ready (rs := [1]) (by kernel_rfl) (by simp) ?_
      refine AllReadyH.cons (o := { dst := some 90, op := Go.Op.call { callee := Go.Callee.value (Go.Operand.func 49), args := #[Go.Operand.tmp 7], argTypes := #[84] }, type := 4, pos := "l26_sessions.go:273", after := #[], guard := none }) rfl (fun K hK => ?_) .nil
      refine step_call 49 #[Go.Operand.tmp 7] _ rfl rfl #[.pointer (some ⟨g7, 0, none⟩)] Tryd.call49 (by go_simp) HP.out ?_
      rintro en w6 ⟨rfl, b6⟩
      refine ⟨_, rfl, ?_⟩
      replace R8 := R8.drew.later b6
      replace R00 := R00.drew.later b6
      replace b00 := b00.drew.trans (b6.mono b00.drew.size)
      replace hS : (fun w' : World => w'.cell? ⟨g7, 0, none⟩ = some (.int .i64 0) ∧ w'.cell? ⟨g7, 1, none⟩ = some (.int .i64 0) ∧ w'.cell? ⟨g7, 2, none⟩ = some (.int .i64 0) ∧ w'.cell? ⟨g7, 3, none⟩ = some (.int .i64 0)) w6 := ⟨R8.cell' (i := 0) rfl, R8.cell' (i := 1) rfl, R8.cell' (i := 2) rfl, R8.cell' (i := 3) rfl⟩
      dsimp only at hS
      refine hK.out _ _ ?_ (fun hHeld => ?_)
      · exact hS
      clear hK K hHeld
      simp only [Act.put, List.setIfInBounds_toArray, List.set_cons_zero, List.set_cons_succ]
      have s0 := R00.cell' (i := 0) rfl
      have s1 := R00.cell' (i := 1) rfl
      have s2 := R00.cell' (i := 2) rfl
      have s3 := R00.cell' (i := 3) rfl
      have f0 := R00.frozen 0
      have f1 := R00.frozen 1
      have f2 := R00.frozen 2
      have f3 := R00.frozen 3
      refine wpAnyH_ready (rs := [2]) (by kernel_rfl) (by simp) ?_
      refine AllReadyH.cons (o := { dst := none, op := Go.Op.store 32 (Go.Operand.tmp 2) (Go.Operand.tmp 89), type := 0, pos := "l26_sessions.go:273", after := #[{ on := 0, ground := Go.Ground.data }, { on := 1, ground := Go.Ground.chain }, { on := 0, ground := Go.Ground.phase }, { on := 1, ground := Go.Ground.textOnly Go.Departure.lateStoresUnsure }], guard := none }) rfl (fun K hK => ?_) .nil
      go_simp
      refine hK.out _ _ ?_ (fun hHeld => ?_)
      · exact ⟨far4 hS.1 (Ne.symm hg), far4 hS.2.1 (Ne.symm hg), far4 hS.2.2.1 (Ne.symm hg), far4 hS.2.2.2 (Ne.symm hg)⟩
      clear hK K hHeld
      have R9 := four_cellsE R00 rfl (.int .i64 0) (.int .i64 0) (.int .i64 0) (.int .i64 0)
      have b9 := (((b00.setCell (p := ⟨w.heap.size, 0, none⟩) (Nat.le_refl _) (.int .i64 0)).setCell (p := ⟨w.heap.size, 1, none⟩) (Nat.le_refl _) (.int .i64 0)).setCell (p := ⟨w.heap.size, 2, none⟩) (Nat.le_refl _) (.int .i64 0)).setCell (p := ⟨w.heap.size, 3, none⟩) (Nat.le_refl _) (.int .i64 0)
      clear s0 s1 s2 s3 f0 f1 f2 f3
      replace hS : (fun w' : World => w'.cell? ⟨g7, 0, none⟩ = some (.int .i64 0) ∧ w'.cell? ⟨g7, 1, none⟩ = some (.int .i64 0) ∧ w'.cell? ⟨g7, 2, none⟩ = some (.int .i64 0) ∧ w'.cell? ⟨g7, 3, none⟩ = some (.int .i64 0)) ((((w6.setCell ⟨w.heap.size, 0, none⟩ (.int .i64 0)).setCell ⟨w.heap.size, 1, none⟩ (.int .i64 0)).setCell ⟨w.heap.size, 2, none⟩ (.int .i64 0)).setCell ⟨w.heap.size, 3, none⟩ (.int .i64 0)) := ⟨far4 hS.1 (Ne.symm hg), far4 hS.2.1 (Ne.symm hg), far4 hS.2.2.1 (Ne.symm hg), far4 hS.2.2.2 (Ne.symm hg)⟩
      generalize (((w6.setCell ⟨w.heap.size, 0, none⟩ (.int .i64 0)).setCell ⟨w.heap.size, 1, none⟩ (.int .i64 0)).setCell ⟨w.heap.size, 2, none⟩ (.int .i64 0)).setCell ⟨w.heap.size, 3, none⟩ (.int .i64 0) = w9 at R9 b9 hS ⊢
      try dsimp only at hS
      refine wpAnyH_take (i := 3) (oi := { dst := some 3, op := Go.Op.assign (Go.Operand.tmp 90), type := 4, pos := "l26_sessions.go:273", after := #[{ on := 1, ground := Go.Ground.data }, { on := 2, ground := Go.Ground.chain }, { on := 0, ground := Go.Ground.phase }, { on := 1, ground := Go.Ground.phase }, { on := 2, ground := Go.Ground.phase }], guard := none }) (v := ?_) rfl (by kernel_rfl) (by kernel_rfl) (by kernel_rfl) (fun _ _ _ h => h) (Or.inl ⟨rfl, ?_⟩) hS ?_
      rotate_left
      · (intro w' hS'; (try dsimp only at hS'); go_simp; try with_reducible rfl)
      simp only [Act.put, List.setIfInBounds_toArray, List.set_cons_zero, List.set_cons_succ]
      refine wpAnyH_done (by kernel_rfl) ?_ _
      have z0 := R9.cell' (i := 0) rfl
      have z1 := R9.cell' (i := 1) rfl
      have z2 := R9.cell' (i := 2) rfl
      have z3 := R9.cell' (i := 3) rfl
      clear hS
      go_wp2_with fail
      refine bodyPost_ret (v := .tuple #[.agg #[.int .i64 0, .int .i64 0, .int .i64 0, .int .i64 0], .bool pb]) (by simp [results, Tryd.results25, go_sem, z0, z1, z2, z3]) rfl ?_
      exact ⟨⟨0, 0, 0, 0⟩, by rw [HF.out], fun _ => by rw [HR.out] <;> rfl, b9⟩

    rcases Classical.em (w0 = ⟨#[109, 111, 118, 101]⟩) with hw2 | hw2
    · have hl : ¬ tl.length = 3 := fun h => k2 ⟨by rw [hw2]; decide, h⟩
      have l1 : ((tl.length : Int) + 1 == 4) = false := by rw [beq_eq_false_iff_ne]; omega
      have l2 : ((tl.length : Int) + 1 = 4) = False := eq_false (by omega)
      have l3 : ((tl.length : Int) = 3) = False := eq_false (by omega)
      have l4 : (tl.length = 3) = False := eq_false hl
      have l5 : (tl.length + 1 = 4) = False := eq_false (by omega)
      subst hw2
      clear hr k1 k2 k3 k4 HE HREP4 hw1
      go_upto_region 14 with fail
      have R8 := R7
      have R00 := R0
      have b00 := b0
      clear c70 c71 c72 c73 f70 f71 f72 f73 R7 R0 b0 h0
      generalize w4 = wv at R8 R00 b00 ⊢
      have HP := Lib.hid (spec_l26Possible_c ⟨0, 0, 0, 0⟩ wv.drew R8.drew)
      have hfin : refOk s.data.toList = possB ⟨0, 0, 0, 0⟩ := by rw [HO.out, HR.out] <;> rfl
      have HF := Lib.hid hfin
      clear hfin HO
      generalize possB ⟨0, 0, 0, 0⟩ = pb at HP HF
      have hS : (fun w' : World => w'.cell? ⟨g7, 0, none⟩ = some (.int .i64 0) ∧ w'.cell? ⟨g7, 1, none⟩ = some (.int .i64 0) ∧ w'.cell? ⟨g7, 2, none⟩ = some (.int .i64 0) ∧ w'.cell? ⟨g7, 3, none⟩ = some (.int .i64 0)) wv.drew := ⟨R8.cell' (i := 0) rfl, R8.cell' (i := 1) rfl, R8.cell' (i := 2) rfl, R8.cell' (i := 3) rfl⟩
      dsimp only at hS
      refine wp_region_held_drew (S := (fun w' : World => w'.cell? ⟨g7, 0, none⟩ = some (.int .i64 0) ∧ w'.cell? ⟨g7, 1, none⟩ = some (.int .i64 0) ∧ w'.cell? ⟨g7, 2, none⟩ = some (.int .i64 0) ∧ w'.cell? ⟨g7, 3, none⟩ = some (.int .i64 0))) (by kernel_rfl) hS (fun _ => ?_)
      refine wpAnyH_take (i := 0) (oi := { dst := some 89, op := Go.Op.load 32 (Go.Operand.tmp 7), type := 32, pos := "l26_sessions.go:273", after := #[], guard := none }) (v := ?_) rfl (by kernel_rfl) (by kernel_rfl) (by kernel_rfl) (fun _ _ _ h => h) (Or.inl ⟨rfl, ?_⟩) hS ?_
      rotate_left
      · (intro w' hS'; (try dsimp only at hS'); go_simp; try with_reducible rfl)
      simp only [Act.put, List.setIfInBounds_toArray, List.set_cons_zero, List.set_cons_succ]
      refine wpAnyH_ready (rs := [1]) (by kernel_rfl) (by simp) ?_
      refine AllReadyH.cons (o := { dst := some 90, op := Go.Op.call { callee := Go.Callee.value (Go.Operand.func 49), args := #[Go.Operand.tmp 7], argTypes := #[84] }, type := 4, pos := "l26_sessions.go:273", after := #[], guard := none }) rfl (fun K hK => ?_) .nil
      refine step_call 49 #[Go.Operand.tmp 7] _ rfl rfl #[.pointer (some ⟨g7, 0, none⟩)] Tryd.call49 (by go_simp) HP.out ?_
      rintro en w6 ⟨rfl, b6⟩
      refine ⟨_, rfl, ?_⟩
      replace R8 := R8.drew.later b6
      replace R00 := R00.drew.later b6
      replace b00 := b00.drew.trans (b6.mono b00.drew.size)
      replace hS : (fun w' : World => w'.cell? ⟨g7, 0, none⟩ = some (.int .i64 0) ∧ w'.cell? ⟨g7, 1, none⟩ = some (.int .i64 0) ∧ w'.cell? ⟨g7, 2, none⟩ = some (.int .i64 0) ∧ w'.cell? ⟨g7, 3, none⟩ = some (.int .i64 0)) w6 := ⟨R8.cell' (i := 0) rfl, R8.cell' (i := 1) rfl, R8.cell' (i := 2) rfl, R8.cell' (i := 3) rfl⟩
      dsimp only at hS
      refine hK.out _ _ ?_ (fun hHeld => ?_)
      · exact hS
      clear hK K hHeld
      simp only [Act.put, List.setIfInBounds_toArray, List.set_cons_zero, List.set_cons_succ]
      have s0 := R00.cell' (i := 0) rfl
      have s1 := R00.cell' (i := 1) rfl
      have s2 := R00.cell' (i := 2) rfl
      have s3 := R00.cell' (i := 3) rfl
      have f0 := R00.frozen 0
      have f1 := R00.frozen 1
      have f2 := R00.frozen 2
      have f3 := R00.frozen 3
      refine wpAnyH_ready (rs := [2]) (by kernel_rfl) (by simp) ?_
      refine AllReadyH.cons (o := { dst := none, op := Go.Op.store 32 (Go.Operand.tmp 2) (Go.Operand.tmp 89), type := 0, pos := "l26_sessions.go:273", after := #[{ on := 0, ground := Go.Ground.data }, { on := 1, ground := Go.Ground.chain }, { on := 0, ground := Go.Ground.phase }, { on := 1, ground := Go.Ground.textOnly Go.Departure.lateStoresUnsure }], guard := none }) rfl (fun K hK => ?_) .nil
      go_simp
      refine hK.out _ _ ?_ (fun hHeld => ?_)
      · exact ⟨far4 hS.1 (Ne.symm hg), far4 hS.2.1 (Ne.symm hg), far4 hS.2.2.1 (Ne.symm hg), far4 hS.2.2.2 (Ne.symm hg)⟩
      clear hK K hHeld
      have R9 := four_cellsE R00 rfl (.int .i64 0) (.int .i64 0) (.int .i64 0) (.int .i64 0)
      have b9 := (((b00.setCell (p := ⟨w.heap.size, 0, none⟩) (Nat.le_refl _) (.int .i64 0)).setCell (p := ⟨w.heap.size, 1, none⟩) (Nat.le_refl _) (.int .i64 0)).setCell (p := ⟨w.heap.size, 2, none⟩) (Nat.le_refl _) (.int .i64 0)).setCell (p := ⟨w.heap.size, 3, none⟩) (Nat.le_refl _) (.int .i64 0)
      clear s0 s1 s2 s3 f0 f1 f2 f3
      replace hS : (fun w' : World => w'.cell? ⟨g7, 0, none⟩ = some (.int .i64 0) ∧ w'.cell? ⟨g7, 1, none⟩ = some (.int .i64 0) ∧ w'.cell? ⟨g7, 2, none⟩ = some (.int .i64 0) ∧ w'.cell? ⟨g7, 3, none⟩ = some (.int .i64 0)) ((((w6.setCell ⟨w.heap.size, 0, none⟩ (.int .i64 0)).setCell ⟨w.heap.size, 1, none⟩ (.int .i64 0)).setCell ⟨w.heap.size, 2, none⟩ (.int .i64 0)).setCell ⟨w.heap.size, 3, none⟩ (.int .i64 0)) := ⟨far4 hS.1 (Ne.symm hg), far4 hS.2.1 (Ne.symm hg), far4 hS.2.2.1 (Ne.symm hg), far4 hS.2.2.2 (Ne.symm hg)⟩
      generalize (((w6.setCell ⟨w.heap.size, 0, none⟩ (.int .i64 0)).setCell ⟨w.heap.size, 1, none⟩ (.int .i64 0)).setCell ⟨w.heap.size, 2, none⟩ (.int .i64 0)).setCell ⟨w.heap.size, 3, none⟩ (.int .i64 0) = w9 at R9 b9 hS ⊢
      try dsimp only at hS
      refine wpAnyH_take (i := 3) (oi := { dst := some 3, op := Go.Op.assign (Go.Operand.tmp 90), type := 4, pos := "l26_sessions.go:273", after := #[{ on := 1, ground := Go.Ground.data }, { on := 2, ground := Go.Ground.chain }, { on := 0, ground := Go.Ground.phase }, { on := 1, ground := Go.Ground.phase }, { on := 2, ground := Go.Ground.phase }], guard := none }) (v := ?_) rfl (by kernel_rfl) (by kernel_rfl) (by kernel_rfl) (fun _ _ _ h => h) (Or.inl ⟨rfl, ?_⟩) hS ?_
      rotate_left
      · (intro w' hS'; (try dsimp only at hS'); go_simp; try with_reducible rfl)
      simp only [Act.put, List.setIfInBounds_toArray, List.set_cons_zero, List.set_cons_succ]
      refine wpAnyH_done (by kernel_rfl) ?_ _
      have z0 := R9.cell' (i := 0) rfl
      have z1 := R9.cell' (i := 1) rfl
      have z2 := R9.cell' (i := 2) rfl
      have z3 := R9.cell' (i := 3) rfl
      clear hS
      go_wp2_with fail
      refine bodyPost_ret (v := .tuple #[.agg #[.int .i64 0, .int .i64 0, .int .i64 0, .int .i64 0], .bool pb]) (by simp [results, Tryd.results25, go_sem, z0, z1, z2, z3]) rfl ?_
      exact ⟨⟨0, 0, 0, 0⟩, by rw [HF.out], fun _ => by rw [HR.out] <;> rfl, b9⟩

    rcases Classical.em (w0 = ⟨#[117, 112]⟩) with hw3 | hw3
    · have hl : ¬ tl.length = 1 := fun h => k3 ⟨by rw [hw3]; decide, h⟩
      have l1 : ((tl.length : Int) + 1 == 2) = false := by rw [beq_eq_false_iff_ne]; omega
      have l2 : ((tl.length : Int) + 1 = 2) = False := eq_false (by omega)
      have l3 : ((tl.length : Int) = 1) = False := eq_false (by omega)
      have l4 : (tl.length = 1) = False := eq_false hl
      have l5 : (tl.length + 1 = 2) = False := eq_false (by omega)
      subst hw3
      clear hr k1 k2 k3 k4 HE HREP4 hw1 hw2
      go_upto_region 14 with fail
      have R8 := R7
      have R00 := R0
      have b00 := b0
      clear c70 c71 c72 c73 f70 f71 f72 f73 R7 R0 b0 h0
      generalize w4 = wv at R8 R00 b00 ⊢
      have HP := Lib.hid (spec_l26Possible_c ⟨0, 0, 0, 0⟩ wv.drew R8.drew)
      have hfin : refOk s.data.toList = possB ⟨0, 0, 0, 0⟩ := by rw [HO.out, HR.out] <;> rfl
      have HF := Lib.hid hfin
      clear hfin HO
      generalize possB ⟨0, 0, 0, 0⟩ = pb at HP HF
      have hS : (fun w' : World => w'.cell? ⟨g7, 0, none⟩ = some (.int .i64 0) ∧ w'.cell? ⟨g7, 1, none⟩ = some (.int .i64 0) ∧ w'.cell? ⟨g7, 2, none⟩ = some (.int .i64 0) ∧ w'.cell? ⟨g7, 3, none⟩ = some (.int .i64 0)) wv.drew := ⟨R8.cell' (i := 0) rfl, R8.cell' (i := 1) rfl, R8.cell' (i := 2) rfl, R8.cell' (i := 3) rfl⟩
      dsimp only at hS
      refine wp_region_held_drew (S := (fun w' : World => w'.cell? ⟨g7, 0, none⟩ = some (.int .i64 0) ∧ w'.cell? ⟨g7, 1, none⟩ = some (.int .i64 0) ∧ w'.cell? ⟨g7, 2, none⟩ = some (.int .i64 0) ∧ w'.cell? ⟨g7, 3, none⟩ = some (.int .i64 0))) (by kernel_rfl) hS (fun _ => ?_)
      refine wpAnyH_take (i := 0) (oi := { dst := some 89, op := Go.Op.load 32 (Go.Operand.tmp 7), type := 32, pos := "l26_sessions.go:273", after := #[], guard := none }) (v := ?_) rfl (by kernel_rfl) (by kernel_rfl) (by kernel_rfl) (fun _ _ _ h => h) (Or.inl ⟨rfl, ?_⟩) hS ?_
      rotate_left
      · (intro w' hS'; (try dsimp only at hS'); go_simp; try with_reducible rfl)
      simp only [Act.put, List.setIfInBounds_toArray, List.set_cons_zero, List.set_cons_succ]
      refine wpAnyH_ready (rs := [1]) (by kernel_rfl) (by simp) ?_
      refine AllReadyH.cons (o := { dst := some 90, op := Go.Op.call { callee := Go.Callee.value (Go.Operand.func 49), args := #[Go.Operand.tmp 7], argTypes := #[84] }, type := 4, pos := "l26_sessions.go:273", after := #[], guard := none }) rfl (fun K hK => ?_) .nil
      refine step_call 49 #[Go.Operand.tmp 7] _ rfl rfl #[.pointer (some ⟨g7, 0, none⟩)] Tryd.call49 (by go_simp) HP.out ?_
      rintro en w6 ⟨rfl, b6⟩
      refine ⟨_, rfl, ?_⟩
      replace R8 := R8.drew.later b6
      replace R00 := R00.drew.later b6
      replace b00 := b00.drew.trans (b6.mono b00.drew.size)
      replace hS : (fun w' : World => w'.cell? ⟨g7, 0, none⟩ = some (.int .i64 0) ∧ w'.cell? ⟨g7, 1, none⟩ = some (.int .i64 0) ∧ w'.cell? ⟨g7, 2, none⟩ = some (.int .i64 0) ∧ w'.cell? ⟨g7, 3, none⟩ = some (.int .i64 0)) w6 := ⟨R8.cell' (i := 0) rfl, R8.cell' (i := 1) rfl, R8.cell' (i := 2) rfl, R8.cell' (i := 3) rfl⟩
      dsimp only at hS
      refine hK.out _ _ ?_ (fun hHeld => ?_)
      · exact hS
      clear hK K hHeld
      simp only [Act.put, List.setIfInBounds_toArray, List.set_cons_zero, List.set_cons_succ]
      have s0 := R00.cell' (i := 0) rfl
      have s1 := R00.cell' (i := 1) rfl
      have s2 := R00.cell' (i := 2) rfl
      have s3 := R00.cell' (i := 3) rfl
      have f0 := R00.frozen 0
      have f1 := R00.frozen 1
      have f2 := R00.frozen 2
      have f3 := R00.frozen 3
      refine wpAnyH_ready (rs := [2]) (by kernel_rfl) (by simp) ?_
      refine AllReadyH.cons (o := { dst := none, op := Go.Op.store 32 (Go.Operand.tmp 2) (Go.Operand.tmp 89), type := 0, pos := "l26_sessions.go:273", after := #[{ on := 0, ground := Go.Ground.data }, { on := 1, ground := Go.Ground.chain }, { on := 0, ground := Go.Ground.phase }, { on := 1, ground := Go.Ground.textOnly Go.Departure.lateStoresUnsure }], guard := none }) rfl (fun K hK => ?_) .nil
      go_simp
      refine hK.out _ _ ?_ (fun hHeld => ?_)
      · exact ⟨far4 hS.1 (Ne.symm hg), far4 hS.2.1 (Ne.symm hg), far4 hS.2.2.1 (Ne.symm hg), far4 hS.2.2.2 (Ne.symm hg)⟩
      clear hK K hHeld
      have R9 := four_cellsE R00 rfl (.int .i64 0) (.int .i64 0) (.int .i64 0) (.int .i64 0)
      have b9 := (((b00.setCell (p := ⟨w.heap.size, 0, none⟩) (Nat.le_refl _) (.int .i64 0)).setCell (p := ⟨w.heap.size, 1, none⟩) (Nat.le_refl _) (.int .i64 0)).setCell (p := ⟨w.heap.size, 2, none⟩) (Nat.le_refl _) (.int .i64 0)).setCell (p := ⟨w.heap.size, 3, none⟩) (Nat.le_refl _) (.int .i64 0)
      clear s0 s1 s2 s3 f0 f1 f2 f3
      replace hS : (fun w' : World => w'.cell? ⟨g7, 0, none⟩ = some (.int .i64 0) ∧ w'.cell? ⟨g7, 1, none⟩ = some (.int .i64 0) ∧ w'.cell? ⟨g7, 2, none⟩ = some (.int .i64 0) ∧ w'.cell? ⟨g7, 3, none⟩ = some (.int .i64 0)) ((((w6.setCell ⟨w.heap.size, 0, none⟩ (.int .i64 0)).setCell ⟨w.heap.size, 1, none⟩ (.int .i64 0)).setCell ⟨w.heap.size, 2, none⟩ (.int .i64 0)).setCell ⟨w.heap.size, 3, none⟩ (.int .i64 0)) := ⟨far4 hS.1 (Ne.symm hg), far4 hS.2.1 (Ne.symm hg), far4 hS.2.2.1 (Ne.symm hg), far4 hS.2.2.2 (Ne.symm hg)⟩
      generalize (((w6.setCell ⟨w.heap.size, 0, none⟩ (.int .i64 0)).setCell ⟨w.heap.size, 1, none⟩ (.int .i64 0)).setCell ⟨w.heap.size, 2, none⟩ (.int .i64 0)).setCell ⟨w.heap.size, 3, none⟩ (.int .i64 0) = w9 at R9 b9 hS ⊢
      try dsimp only at hS
      refine wpAnyH_take (i := 3) (oi := { dst := some 3, op := Go.Op.assign (Go.Operand.tmp 90), type := 4, pos := "l26_sessions.go:273", after := #[{ on := 1, ground := Go.Ground.data }, { on := 2, ground := Go.Ground.chain }, { on := 0, ground := Go.Ground.phase }, { on := 1, ground := Go.Ground.phase }, { on := 2, ground := Go.Ground.phase }], guard := none }) (v := ?_) rfl (by kernel_rfl) (by kernel_rfl) (by kernel_rfl) (fun _ _ _ h => h) (Or.inl ⟨rfl, ?_⟩) hS ?_
      rotate_left
      · (intro w' hS'; (try dsimp only at hS'); go_simp; try with_reducible rfl)
      simp only [Act.put, List.setIfInBounds_toArray, List.set_cons_zero, List.set_cons_succ]
      refine wpAnyH_done (by kernel_rfl) ?_ _
      have z0 := R9.cell' (i := 0) rfl
      have z1 := R9.cell' (i := 1) rfl
      have z2 := R9.cell' (i := 2) rfl
      have z3 := R9.cell' (i := 3) rfl
      clear hS
      go_wp2_with fail
      refine bodyPost_ret (v := .tuple #[.agg #[.int .i64 0, .int .i64 0, .int .i64 0, .int .i64 0], .bool pb]) (by simp [results, Tryd.results25, go_sem, z0, z1, z2, z3]) rfl ?_
      exact ⟨⟨0, 0, 0, 0⟩, by rw [HF.out], fun _ => by rw [HR.out] <;> rfl, b9⟩

    rcases Classical.em (w0 = ⟨#[112, 97, 117, 115, 101]⟩) with hw4 | hw4
    · have hl : ¬ tl.length = 1 := fun h => k4 ⟨by rw [hw4]; decide, h⟩
      have l1 : ((tl.length : Int) + 1 == 2) = false := by rw [beq_eq_false_iff_ne]; omega
      have l2 : ((tl.length : Int) + 1 = 2) = False := eq_false (by omega)
      have l3 : ((tl.length : Int) = 1) = False := eq_false (by omega)
      have l4 : (tl.length = 1) = False := eq_false hl
      have l5 : (tl.length + 1 = 2) = False := eq_false (by omega)
      subst hw4
      clear hr k1 k2 k3 k4 HE HREP4 hw1 hw2 hw3
      go_upto_region 14 with fail
      have R8 := R7
      have R00 := R0
      have b00 := b0
      clear c70 c71 c72 c73 f70 f71 f72 f73 R7 R0 b0 h0
      generalize w4 = wv at R8 R00 b00 ⊢
      have HP := Lib.hid (spec_l26Possible_c ⟨0, 0, 0, 0⟩ wv.drew R8.drew)
      have hfin : refOk s.data.toList = possB ⟨0, 0, 0, 0⟩ := by rw [HO.out, HR.out] <;> rfl
      have HF := Lib.hid hfin
      clear hfin HO
      generalize possB ⟨0, 0, 0, 0⟩ = pb at HP HF
      have hS : (fun w' : World => w'.cell? ⟨g7, 0, none⟩ = some (.int .i64 0) ∧ w'.cell? ⟨g7, 1, none⟩ = some (.int .i64 0) ∧ w'.cell? ⟨g7, 2, none⟩ = some (.int .i64 0) ∧ w'.cell? ⟨g7, 3, none⟩ = some (.int .i64 0)) wv.drew := ⟨R8.cell' (i := 0) rfl, R8.cell' (i := 1) rfl, R8.cell' (i := 2) rfl, R8.cell' (i := 3) rfl⟩
      dsimp only at hS
      refine wp_region_held_drew (S := (fun w' : World => w'.cell? ⟨g7, 0, none⟩ = some (.int .i64 0) ∧ w'.cell? ⟨g7, 1, none⟩ = some (.int .i64 0) ∧ w'.cell? ⟨g7, 2, none⟩ = some (.int .i64 0) ∧ w'.cell? ⟨g7, 3, none⟩ = some (.int .i64 0))) (by kernel_rfl) hS (fun _ => ?_)
      refine wpAnyH_take (i := 0) (oi := { dst := some 89, op := Go.Op.load 32 (Go.Operand.tmp 7), type := 32, pos := "l26_sessions.go:273", after := #[], guard := none }) (v := ?_) rfl (by kernel_rfl) (by kernel_rfl) (by kernel_rfl) (fun _ _ _ h => h) (Or.inl ⟨rfl, ?_⟩) hS ?_
      rotate_left
      · (intro w' hS'; (try dsimp only at hS'); go_simp; try with_reducible rfl)
      simp only [Act.put, List.setIfInBounds_toArray, List.set_cons_zero, List.set_cons_succ]
      refine wpAnyH_ready (rs := [1]) (by kernel_rfl) (by simp) ?_
      refine AllReadyH.cons (o := { dst := some 90, op := Go.Op.call { callee := Go.Callee.value (Go.Operand.func 49), args := #[Go.Operand.tmp 7], argTypes := #[84] }, type := 4, pos := "l26_sessions.go:273", after := #[], guard := none }) rfl (fun K hK => ?_) .nil
      refine step_call 49 #[Go.Operand.tmp 7] _ rfl rfl #[.pointer (some ⟨g7, 0, none⟩)] Tryd.call49 (by go_simp) HP.out ?_
      rintro en w6 ⟨rfl, b6⟩
      refine ⟨_, rfl, ?_⟩
      replace R8 := R8.drew.later b6
      replace R00 := R00.drew.later b6
      replace b00 := b00.drew.trans (b6.mono b00.drew.size)
      replace hS : (fun w' : World => w'.cell? ⟨g7, 0, none⟩ = some (.int .i64 0) ∧ w'.cell? ⟨g7, 1, none⟩ = some (.int .i64 0) ∧ w'.cell? ⟨g7, 2, none⟩ = some (.int .i64 0) ∧ w'.cell? ⟨g7, 3, none⟩ = some (.int .i64 0)) w6 := ⟨R8.cell' (i := 0) rfl, R8.cell' (i := 1) rfl, R8.cell' (i := 2) rfl, R8.cell' (i := 3) rfl⟩
      dsimp only at hS
      refine hK.out _ _ ?_ (fun hHeld => ?_)
      · exact hS
      clear hK K hHeld
      simp only [Act.put, List.setIfInBounds_toArray, List.set_cons_zero, List.set_cons_succ]
      have s0 := R00.cell' (i := 0) rfl
      have s1 := R00.cell' (i := 1) rfl
      have s2 := R00.cell' (i := 2) rfl
      have s3 := R00.cell' (i := 3) rfl
      have f0 := R00.frozen 0
      have f1 := R00.frozen 1
      have f2 := R00.frozen 2
      have f3 := R00.frozen 3
      refine wpAnyH_ready (rs := [2]) (by kernel_rfl) (by simp) ?_
      refine AllReadyH.cons (o := { dst := none, op := Go.Op.store 32 (Go.Operand.tmp 2) (Go.Operand.tmp 89), type := 0, pos := "l26_sessions.go:273", after := #[{ on := 0, ground := Go.Ground.data }, { on := 1, ground := Go.Ground.chain }, { on := 0, ground := Go.Ground.phase }, { on := 1, ground := Go.Ground.textOnly Go.Departure.lateStoresUnsure }], guard := none }) rfl (fun K hK => ?_) .nil
      go_simp
      refine hK.out _ _ ?_ (fun hHeld => ?_)
      · exact ⟨far4 hS.1 (Ne.symm hg), far4 hS.2.1 (Ne.symm hg), far4 hS.2.2.1 (Ne.symm hg), far4 hS.2.2.2 (Ne.symm hg)⟩
      clear hK K hHeld
      have R9 := four_cellsE R00 rfl (.int .i64 0) (.int .i64 0) (.int .i64 0) (.int .i64 0)
      have b9 := (((b00.setCell (p := ⟨w.heap.size, 0, none⟩) (Nat.le_refl _) (.int .i64 0)).setCell (p := ⟨w.heap.size, 1, none⟩) (Nat.le_refl _) (.int .i64 0)).setCell (p := ⟨w.heap.size, 2, none⟩) (Nat.le_refl _) (.int .i64 0)).setCell (p := ⟨w.heap.size, 3, none⟩) (Nat.le_refl _) (.int .i64 0)
      clear s0 s1 s2 s3 f0 f1 f2 f3
      replace hS : (fun w' : World => w'.cell? ⟨g7, 0, none⟩ = some (.int .i64 0) ∧ w'.cell? ⟨g7, 1, none⟩ = some (.int .i64 0) ∧ w'.cell? ⟨g7, 2, none⟩ = some (.int .i64 0) ∧ w'.cell? ⟨g7, 3, none⟩ = some (.int .i64 0)) ((((w6.setCell ⟨w.heap.size, 0, none⟩ (.int .i64 0)).setCell ⟨w.heap.size, 1, none⟩ (.int .i64 0)).setCell ⟨w.heap.size, 2, none⟩ (.int .i64 0)).setCell ⟨w.heap.size, 3, none⟩ (.int .i64 0)) := ⟨far4 hS.1 (Ne.symm hg), far4 hS.2.1 (Ne.symm hg), far4 hS.2.2.1 (Ne.symm hg), far4 hS.2.2.2 (Ne.symm hg)⟩
      generalize (((w6.setCell ⟨w.heap.size, 0, none⟩ (.int .i64 0)).setCell ⟨w.heap.size, 1, none⟩ (.int .i64 0)).setCell ⟨w.heap.size, 2, none⟩ (.int .i64 0)).setCell ⟨w.heap.size, 3, none⟩ (.int .i64 0) = w9 at R9 b9 hS ⊢
      try dsimp only at hS
      refine wpAnyH_take (i := 3) (oi := { dst := some 3, op := Go.Op.assign (Go.Operand.tmp 90), type := 4, pos := "l26_sessions.go:273", after := #[{ on := 1, ground := Go.Ground.data }, { on := 2, ground := Go.Ground.chain }, { on := 0, ground := Go.Ground.phase }, { on := 1, ground := Go.Ground.phase }, { on := 2, ground := Go.Ground.phase }], guard := none }) (v := ?_) rfl (by kernel_rfl) (by kernel_rfl) (by kernel_rfl) (fun _ _ _ h => h) (Or.inl ⟨rfl, ?_⟩) hS ?_
      rotate_left
      · (intro w' hS'; (try dsimp only at hS'); go_simp; try with_reducible rfl)
      simp only [Act.put, List.setIfInBounds_toArray, List.set_cons_zero, List.set_cons_succ]
      refine wpAnyH_done (by kernel_rfl) ?_ _
      have z0 := R9.cell' (i := 0) rfl
      have z1 := R9.cell' (i := 1) rfl
      have z2 := R9.cell' (i := 2) rfl
      have z3 := R9.cell' (i := 3) rfl
      clear hS
      go_wp2_with fail
      refine bodyPost_ret (v := .tuple #[.agg #[.int .i64 0, .int .i64 0, .int .i64 0, .int .i64 0], .bool pb]) (by simp [results, Tryd.results25, go_sem, z0, z1, z2, z3]) rfl ?_
      exact ⟨⟨0, 0, 0, 0⟩, by rw [HF.out], fun _ => by rw [HR.out] <;> rfl, b9⟩

    have q1 : (w0.toList == ByteArray.toList ⟨#[100, 111, 119, 110]⟩) = false := by rw [str_eq]; simp [hw1]
    have q2 : (w0.toList == ByteArray.toList ⟨#[109, 111, 118, 101]⟩) = false := by rw [str_eq]; simp [hw2]
    have q3 : (w0.toList == ByteArray.toList ⟨#[117, 112]⟩) = false := by rw [str_eq]; simp [hw3]
    have q4 : (w0.toList == ByteArray.toList ⟨#[112, 97, 117, 115, 101]⟩) = false := by rw [str_eq]; simp [hw4]
    have p1 : (w0.toList == [100, 111, 119, 110]) = false := by (rw [← q1]; congr 1; first | rfl | simp | decide)
    have r1 : (w0.toList = [100, 111, 119, 110]) = False := eq_false (by rw [beq_eq_false_iff_ne] at p1; exact p1)
    have p2 : (w0.toList == [109, 111, 118, 101]) = false := by (rw [← q2]; congr 1; first | rfl | simp | decide)
    have r2 : (w0.toList = [109, 111, 118, 101]) = False := eq_false (by rw [beq_eq_false_iff_ne] at p2; exact p2)
    have p3 : (w0.toList == [117, 112]) = false := by (rw [← q3]; congr 1; first | rfl | simp | decide)
    have r3 : (w0.toList = [117, 112]) = False := eq_false (by rw [beq_eq_false_iff_ne] at p3; exact p3)
    have p4 : (w0.toList == [112, 97, 117, 115, 101]) = false := by (rw [← q4]; congr 1; first | rfl | simp | decide)
    have r4 : (w0.toList = [112, 97, 117, 115, 101]) = False := eq_false (by rw [beq_eq_false_iff_ne] at p4; exact p4)
    · clear hr k1 k2 k3 k4 HE HREP4 hw1 hw2 hw3 hw4
      go_upto_region 14 with fail
      have R8 := R7
      have R00 := R0
      have b00 := b0
      clear c70 c71 c72 c73 f70 f71 f72 f73 R7 R0 b0 h0
      generalize w4 = wv at R8 R00 b00 ⊢
      have HP := Lib.hid (spec_l26Possible_c ⟨0, 0, 0, 0⟩ wv.drew R8.drew)
      have hfin : refOk s.data.toList = possB ⟨0, 0, 0, 0⟩ := by rw [HO.out, HR.out] <;> rfl
      have HF := Lib.hid hfin
      clear hfin HO
      generalize possB ⟨0, 0, 0, 0⟩ = pb at HP HF
      have hS : (fun w' : World => w'.cell? ⟨g7, 0, none⟩ = some (.int .i64 0) ∧ w'.cell? ⟨g7, 1, none⟩ = some (.int .i64 0) ∧ w'.cell? ⟨g7, 2, none⟩ = some (.int .i64 0) ∧ w'.cell? ⟨g7, 3, none⟩ = some (.int .i64 0)) wv.drew := ⟨R8.cell' (i := 0) rfl, R8.cell' (i := 1) rfl, R8.cell' (i := 2) rfl, R8.cell' (i := 3) rfl⟩
      dsimp only at hS
      refine wp_region_held_drew (S := (fun w' : World => w'.cell? ⟨g7, 0, none⟩ = some (.int .i64 0) ∧ w'.cell? ⟨g7, 1, none⟩ = some (.int .i64 0) ∧ w'.cell? ⟨g7, 2, none⟩ = some (.int .i64 0) ∧ w'.cell? ⟨g7, 3, none⟩ = some (.int .i64 0))) (by kernel_rfl) hS (fun _ => ?_)
      refine wpAnyH_take (i := 0) (oi := { dst := some 89, op := Go.Op.load 32 (Go.Operand.tmp 7), type := 32, pos := "l26_sessions.go:273", after := #[], guard := none }) (v := ?_) rfl (by kernel_rfl) (by kernel_rfl) (by kernel_rfl) (fun _ _ _ h => h) (Or.inl ⟨rfl, ?_⟩) hS ?_
      rotate_left
      · (intro w' hS'; (try dsimp only at hS'); go_simp; try with_reducible rfl)
      simp only [Act.put, List.setIfInBounds_toArray, List.set_cons_zero, List.set_cons_succ]
      refine wpAnyH_ready (rs := [1]) (by kernel_rfl) (by simp) ?_
      refine AllReadyH.cons (o := { dst := some 90, op := Go.Op.call { callee := Go.Callee.value (Go.Operand.func 49), args := #[Go.Operand.tmp 7], argTypes := #[84] }, type := 4, pos := "l26_sessions.go:273", after := #[], guard := none }) rfl (fun K hK => ?_) .nil
      refine step_call 49 #[Go.Operand.tmp 7] _ rfl rfl #[.pointer (some ⟨g7, 0, none⟩)] Tryd.call49 (by go_simp) HP.out ?_
      rintro en w6 ⟨rfl, b6⟩
      refine ⟨_, rfl, ?_⟩
      replace R8 := R8.drew.later b6
      replace R00 := R00.drew.later b6
      replace b00 := b00.drew.trans (b6.mono b00.drew.size)
      replace hS : (fun w' : World => w'.cell? ⟨g7, 0, none⟩ = some (.int .i64 0) ∧ w'.cell? ⟨g7, 1, none⟩ = some (.int .i64 0) ∧ w'.cell? ⟨g7, 2, none⟩ = some (.int .i64 0) ∧ w'.cell? ⟨g7, 3, none⟩ = some (.int .i64 0)) w6 := ⟨R8.cell' (i := 0) rfl, R8.cell' (i := 1) rfl, R8.cell' (i := 2) rfl, R8.cell' (i := 3) rfl⟩
      dsimp only at hS
      refine hK.out _ _ ?_ (fun hHeld => ?_)
      · exact hS
      clear hK K hHeld
      simp only [Act.put, List.setIfInBounds_toArray, List.set_cons_zero, List.set_cons_succ]
      have s0 := R00.cell' (i := 0) rfl
      have s1 := R00.cell' (i := 1) rfl
      have s2 := R00.cell' (i := 2) rfl
      have s3 := R00.cell' (i := 3) rfl
      have f0 := R00.frozen 0
      have f1 := R00.frozen 1
      have f2 := R00.frozen 2
      have f3 := R00.frozen 3
      refine wpAnyH_ready (rs := [2]) (by kernel_rfl) (by simp) ?_
      refine AllReadyH.cons (o := { dst := none, op := Go.Op.store 32 (Go.Operand.tmp 2) (Go.Operand.tmp 89), type := 0, pos := "l26_sessions.go:273", after := #[{ on := 0, ground := Go.Ground.data }, { on := 1, ground := Go.Ground.chain }, { on := 0, ground := Go.Ground.phase }, { on := 1, ground := Go.Ground.textOnly Go.Departure.lateStoresUnsure }], guard := none }) rfl (fun K hK => ?_) .nil
      go_simp
      refine hK.out _ _ ?_ (fun hHeld => ?_)
      · exact ⟨far4 hS.1 (Ne.symm hg), far4 hS.2.1 (Ne.symm hg), far4 hS.2.2.1 (Ne.symm hg), far4 hS.2.2.2 (Ne.symm hg)⟩
      clear hK K hHeld
      have R9 := four_cellsE R00 rfl (.int .i64 0) (.int .i64 0) (.int .i64 0) (.int .i64 0)
      have b9 := (((b00.setCell (p := ⟨w.heap.size, 0, none⟩) (Nat.le_refl _) (.int .i64 0)).setCell (p := ⟨w.heap.size, 1, none⟩) (Nat.le_refl _) (.int .i64 0)).setCell (p := ⟨w.heap.size, 2, none⟩) (Nat.le_refl _) (.int .i64 0)).setCell (p := ⟨w.heap.size, 3, none⟩) (Nat.le_refl _) (.int .i64 0)
      clear s0 s1 s2 s3 f0 f1 f2 f3
      replace hS : (fun w' : World => w'.cell? ⟨g7, 0, none⟩ = some (.int .i64 0) ∧ w'.cell? ⟨g7, 1, none⟩ = some (.int .i64 0) ∧ w'.cell? ⟨g7, 2, none⟩ = some (.int .i64 0) ∧ w'.cell? ⟨g7, 3, none⟩ = some (.int .i64 0)) ((((w6.setCell ⟨w.heap.size, 0, none⟩ (.int .i64 0)).setCell ⟨w.heap.size, 1, none⟩ (.int .i64 0)).setCell ⟨w.heap.size, 2, none⟩ (.int .i64 0)).setCell ⟨w.heap.size, 3, none⟩ (.int .i64 0)) := ⟨far4 hS.1 (Ne.symm hg), far4 hS.2.1 (Ne.symm hg), far4 hS.2.2.1 (Ne.symm hg), far4 hS.2.2.2 (Ne.symm hg)⟩
      generalize (((w6.setCell ⟨w.heap.size, 0, none⟩ (.int .i64 0)).setCell ⟨w.heap.size, 1, none⟩ (.int .i64 0)).setCell ⟨w.heap.size, 2, none⟩ (.int .i64 0)).setCell ⟨w.heap.size, 3, none⟩ (.int .i64 0) = w9 at R9 b9 hS ⊢
      try dsimp only at hS
      refine wpAnyH_take (i := 3) (oi := { dst := some 3, op := Go.Op.assign (Go.Operand.tmp 90), type := 4, pos := "l26_sessions.go:273", after := #[{ on := 1, ground := Go.Ground.data }, { on := 2, ground := Go.Ground.chain }, { on := 0, ground := Go.Ground.phase }, { on := 1, ground := Go.Ground.phase }, { on := 2, ground := Go.Ground.phase }], guard := none }) (v := ?_) rfl (by kernel_rfl) (by kernel_rfl) (by kernel_rfl) (fun _ _ _ h => h) (Or.inl ⟨rfl, ?_⟩) hS ?_
      rotate_left
      · (intro w' hS'; (try dsimp only at hS'); go_simp; try with_reducible rfl)
      simp only [Act.put, List.setIfInBounds_toArray, List.set_cons_zero, List.set_cons_succ]
      refine wpAnyH_done (by kernel_rfl) ?_ _
      have z0 := R9.cell' (i := 0) rfl
      have z1 := R9.cell' (i := 1) rfl
      have z2 := R9.cell' (i := 2) rfl
      have z3 := R9.cell' (i := 3) rfl
      clear hS
      go_wp2_with fail
      refine bodyPost_ret (v := .tuple #[.agg #[.int .i64 0, .int .i64 0, .int .i64 0, .int .i64 0], .bool pb]) (by simp [results, Tryd.results25, go_sem, z0, z1, z2, z3]) rfl ?_
      exact ⟨⟨0, 0, 0, 0⟩, by rw [HF.out], fun _ => by rw [HR.out] <;> rfl, b9⟩

end Go.Proofs.YtahoopmiipmgpaaDoor
