/- l11Own of the reference: a store of its own. Conditions: none. -/
import Derived.Test.YtkfadfddhbpngaaGreatSeOwnz
namespace Go.Proofs.YtkfadfddhbpngaaGreat
open Go Go.RowKit
theorem pa112_7 (l : List Value) (i : Nat) (a : Value) : l.toArray.setIfInBounds i a = (l.set i a).toArray := List.setIfInBounds_toArray ..
theorem pb112_7 (a b : Value) (l : List Value) : (a :: l).set 0 b = b :: l := List.set_cons_zero ..
theorem pc112_7 (a b : Value) (l : List Value) (n : Nat) : (a :: l).set (n + 1) b = a :: l.set n b := List.set_cons_succ ..
theorem tk112_7 {P : Program} {md : Region.Mode} {ops : Array Oper} {Q : Exit → Act → World → Prop} {S : World → Prop} {i : Nat} {oi : Oper} {v : Value} {fuel : Nat} {listed : Array Bool} {a : Act} {w : World} (hi : ops[i]? = some oi)
    (hs : (Region.noSelect ops && (Region.free md ops listed i && (Region.ready md ops listed).contains i)) = true) (hQ : ∀ c a w, Q (.panic c) (a.put oi.dst v) w → Q (.panic c) a w) (hy : YieldsIf P ops S oi v a) (hS : S w)
    (h : wpAnyH P md ops Q S fuel (listed.setIfInBounds i true) (a.put oi.dst v) w) : wpAnyH P md ops Q S (fuel + 1) listed a w := by
  simp only [Bool.and_eq_true] at hs
  exact wpAnyH_take hi hs.1 hs.2.1 hs.2.2 hQ hy hS h
abbrev zo112_7_0 : Oper := { dst := some 31, op := Go.Op.fieldAddr 52 (Go.Operand.tmp 5) 1, type := 0, pos := "l11_templates.go:62", after := #[], guard := none }
abbrev zo112_7_2 : Oper := { dst := some 33, op := Go.Op.move (Go.Operand.tmp 7), type := 238, pos := "l11_templates.go:62", after := #[], guard := none }
abbrev zo112_7_3 : Oper := { dst := some 34, op := Go.Op.nilCheck (Go.Operand.tmp 33), type := 0, pos := "l11_templates.go:62", after := #[{ on := 2, ground := Go.Ground.data }], guard := none }
abbrev zo112_7_4 : Oper := { dst := some 35, op := Go.Op.fieldAddr 215 (Go.Operand.tmp 34) 0, type := 0, pos := "l11_templates.go:62", after := #[{ on := 3, ground := Go.Ground.data }], guard := none }
abbrev zo112_7_5 : Oper := { dst := some 36, op := Go.Op.load 9 (Go.Operand.tmp 35), type := 9, pos := "l11_templates.go:62", after := #[{ on := 4, ground := Go.Ground.data }], guard := none }
abbrev zo112_7_7 : Oper := { dst := some 38, op := Go.Op.move (Go.Operand.tmp 7), type := 238, pos := "l11_templates.go:62", after := #[], guard := none }
abbrev zo112_7_8 : Oper := { dst := some 39, op := Go.Op.nilCheck (Go.Operand.tmp 38), type := 0, pos := "l11_templates.go:62", after := #[{ on := 7, ground := Go.Ground.data }], guard := none }
abbrev zo112_7_9 : Oper := { dst := some 40, op := Go.Op.fieldAddr 215 (Go.Operand.tmp 39) 1, type := 0, pos := "l11_templates.go:62", after := #[{ on := 8, ground := Go.Ground.data }], guard := none }
abbrev zo112_7_10 : Oper := { dst := some 41, op := Go.Op.load 213 (Go.Operand.tmp 40), type := 213, pos := "l11_templates.go:62", after := #[{ on := 9, ground := Go.Ground.data }], guard := none }
abbrev zo112_7_6 : Oper := { dst := some 37, op := Go.Op.buildSlice 213 0 #[], type := 213, pos := "l11_templates.go:62", after := #[], guard := none }
abbrev zo112_7_11 : Oper := { dst := some 42, op := Go.Op.call { callee := Go.Callee.builtin Go.Builtin.append, args := #[Go.Operand.tmp 37, Go.Operand.tmp 41], argTypes := #[213, 213] }, type := 213, pos := "l11_templates.go:62", after := #[{ on := 6, ground := Go.Ground.data }, { on := 10, ground := Go.Ground.data }], guard := none }
abbrev zo112_7_12 : Oper := { dst := some 43, op := Go.Op.build 215 #[(0, Go.Operand.tmp 36), (1, Go.Operand.tmp 42)], type := 215, pos := "l11_templates.go:62", after := #[{ on := 5, ground := Go.Ground.data }, { on := 11, ground := Go.Ground.data }], guard := none }
abbrev zo112_7_13 : Oper := { dst := some 44, op := Go.Op.buildSlice 50 1 #[(0, Go.Operand.tmp 43)], type := 50, pos := "l11_templates.go:62", after := #[{ on := 12, ground := Go.Ground.data }], guard := none }
abbrev zo112_7_14 : Oper := { dst := some 45, op := Go.Op.call { callee := Go.Callee.builtin Go.Builtin.append, args := #[Go.Operand.tmp 32, Go.Operand.tmp 44], argTypes := #[50, 50] }, type := 50, pos := "l11_templates.go:62", after := #[{ on := 1, ground := Go.Ground.data }, { on := 13, ground := Go.Ground.data }, { on := 11, ground := Go.Ground.chain }], guard := none }
abbrev zo112_7_15 : Oper := { dst := some 46, op := Go.Op.fieldAddr 52 (Go.Operand.tmp 5) 1, type := 0, pos := "l11_templates.go:62", after := #[{ on := 0, ground := Go.Ground.phase }, { on := 1, ground := Go.Ground.phase }, { on := 2, ground := Go.Ground.phase }, { on := 3, ground := Go.Ground.phase }, { on := 4, ground := Go.Ground.phase }, { on := 5, ground := Go.Ground.phase }, { on := 6, ground := Go.Ground.phase }, { on := 7, ground := Go.Ground.phase }, { on := 8, ground := Go.Ground.phase }, { on := 9, ground := Go.Ground.phase }, { on := 10, ground := Go.Ground.phase }, { on := 11, ground := Go.Ground.phase }, { on := 12, ground := Go.Ground.phase }, { on := 13, ground := Go.Ground.phase }, { on := 14, ground := Go.Ground.phase }], guard := none }
abbrev zo112_7_16 : Oper := { dst := none, op := Go.Op.store 50 (Go.Operand.tmp 46) (Go.Operand.tmp 45), type := 0, pos := "l11_templates.go:62", after := #[{ on := 15, ground := Go.Ground.data }, { on := 14, ground := Go.Ground.data }, { on := 14, ground := Go.Ground.chain }, { on := 0, ground := Go.Ground.phase }, { on := 1, ground := Go.Ground.phase }, { on := 2, ground := Go.Ground.phase }, { on := 3, ground := Go.Ground.phase }, { on := 4, ground := Go.Ground.phase }, { on := 5, ground := Go.Ground.phase }, { on := 6, ground := Go.Ground.phase }, { on := 7, ground := Go.Ground.phase }, { on := 8, ground := Go.Ground.phase }, { on := 9, ground := Go.Ground.phase }, { on := 10, ground := Go.Ground.phase }, { on := 11, ground := Go.Ground.phase }, { on := 12, ground := Go.Ground.phase }, { on := 13, ground := Go.Ground.phase }, { on := 14, ground := Go.Ground.phase }], guard := none }
abbrev zo112_7_1 : Oper := { dst := some 32, op := Go.Op.load 50 (Go.Operand.tmp 31), type := 50, pos := "l11_templates.go:62", after := #[{ on := 0, ground := Go.Ground.data }], guard := none }

theorem emptyAt {α : Type} {T : Ty α} {e t : TypeId} {w : World} {g : Nat} {cs : List Value} (_ : Row w g t cs) : (T.slice e).rep true (w.alloc (.cells #[] e)) [] [.slice (some ⟨w.heap.size, 0, none⟩) 0 0] [w.heap.size] := empty_is T e w
theorem repL_below' {α : Type} {T : Ty α} {o : Bool} {w w' : World} {xs : List α} {cs : List Value} {F : List Nat} (h : repL T o w xs cs F) (_ : ∀ x ∈ F, x < w.heap.size) (hb : Below w.heap.size w w') : repL T o w' xs cs F := repL_below h hb
set_option maxRecDepth 100000 in
set_option maxHeartbeats 4000000 in
theorem spec_l11Own_c {o : Bool} {pe e : TypeId} {n : Int} {xs : List PTemp} {v : Value} {F : List Nat} {g f : Nat} (w : World) (c0 : w.cell? ⟨g, f, none⟩ = some (.int .i64 n)) (c1 : w.cell? ⟨g, f + 1, none⟩ = some v) (h : (pTemps pe e).rep o w xs [v] F) (hx : xs.length ≤ 1048576) (hxe : ∀ l ∈ xs, l.feats.length ≤ 1048576) :
    Calls Tryz.prog 112 #[.pointer (some ⟨g, f, none⟩), .int .i64 (-1)] w fun e' w' => ∃ u G, e' = .returned (.agg #[.int .i64 n, u]) ∧ (pTemps 224 215).rep true w' xs [u] G ∧ Fresh w.heap.size G ∧ Below w.heap.size w w' := by
  obtain ⟨A, c, rfl, hc1, hc2, hr⟩ := pTemps_open h
  clear h
  have gw : g < w.heap.size := World.block_lt_of_cell? w ⟨g, f, none⟩ c0
  go_enter Tryz.func112, Tryz.ntmps112
  go_wp2_with fail
  go_loopw [6, 7] (fun i t wr => ∃ (k : Nat) (t' u : Value) (G : List Nat), k ≤ xs.length ∧ i = .int .i64 k ∧ t = t' ∧ Row wr w.heap.size 52 [.int .i64 0, .slice none 0 0] ∧ Row wr (w.heap.size + 1) 52 [.int .i64 n, u] ∧ (pTemps 224 215).rep true wr (xs.take k) [u] G ∧ Fresh (w.heap.size + 1 + 1) G ∧ Below w.heap.size w wr) (fun i _ _ => xs.length - (intOf i).toNat)
  case atStart => exact ⟨0, _, _, [], Nat.zero_le _, rfl, rfl, (Row.atN _ _ _ rfl).alloc _, Row.atN _ _ _ (by simp), slice_nil _ _ _ _, Fresh.nil _, ((Below.refl _ _).alloc (Nat.le_refl _) _).alloc (by simp) _⟩
  case round =>
    obtain ⟨k, t', u, G, hk, rfl, rfl, RO, RS, hrep, hfr, hb⟩ := hrel
    have hbs := hb.size
    have m0 := kb hb gw c0
    have m1 := kb hb gw c1
    by_cases hlt : k < xs.length
    · obtain ⟨b, off, u1, Fk, rfl, hbb, _, hls, hrk, _, h0, h1⟩ := hr k hlt
      have hwk := hxe _ (List.getElem_mem hlt)
      obtain ⟨A', c', rfl⟩ := slice_len hrk
      obtain ⟨ec, Gs, hs1, hs2, hsb'⟩ := slice_src hrk
      have hsb : ∀ x ∈ Gs, x < w.heap.size := fun x hx => hrk.blocks x (hsb' x hx)
      obtain ⟨Au, nu, ku, rfl⟩ := slice_form hrep
      have hlen : ((xs.take k).length : Nat) = k := by rw [List.length_take]; omega
      have HL := Lib.hid hlen
      have HF := Lib.hid hfr
      have HLS := Lib.hid hls
      have ngS : w.heap.size + 1 ∉ G := fun hx => by have := hfr.2 _ hx; omega
      have ngO : w.heap.size ∉ G := fun hx => by have := hfr.2 _ hx; omega
      have kne : ((k : Int) != -1) = true := by rw [bne_iff_ne]; omega
      have lS := RS.lt
      have lO := RO.lt
      clear hr hrk hfr hlen hls
      go_wp2_with fail
      clear m0 m1
      have HP := hrep.drew
      clear hrep
      replace RS := RS.drew
      replace RO := RO.drew
      have bbw := hb.drew
      clear hb hbs lS lO
      have hS : (fun w' : World => w'.cell? ⟨b, off + k * 2, none⟩ = some (.string xs[k].label) ∧ w'.cell? ⟨b, off + k * 2 + 1, none⟩ = some (.slice A' xs[k].feats.length c')) wr.drew := ⟨kb bbw hbb h0, kb bbw hbb h1⟩
      dsimp only at hS
      refine wp_region_held_drew (S := (fun w' : World => w'.cell? ⟨b, off + k * 2, none⟩ = some (.string xs[k].label) ∧ w'.cell? ⟨b, off + k * 2 + 1, none⟩ = some (.slice A' xs[k].feats.length c'))) (by kernel_rfl) hS (fun _ => ?_)
      generalize wr.drew = wd at *
      have hbs := bbw.size
      have lS := RS.lt
      have lO := RO.lt
      have HLT := Lib.hid (HP.blocks)
      refine tk112_7 (i := 0) (oi := zo112_7_0) (v := ?_) rfl (by kernel_rfl) (fun _ _ _ h => h) (Or.inl ⟨rfl, ?_⟩) hS ?_
      rotate_left
      · (intro w' hS'; (try dsimp only at hS'); dsimp only [zo112_7_0]; go_simp; try with_reducible rfl)
      simp only [Act.put, pa112_7, pb112_7, pc112_7]
      refine tk112_7 (i := 2) (oi := zo112_7_2) (v := ?_) rfl (by kernel_rfl) (fun _ _ _ h => h) (Or.inl ⟨rfl, ?_⟩) hS ?_
      rotate_left
      · (intro w' hS'; (try dsimp only at hS'); dsimp only [zo112_7_2]; go_simp; try with_reducible rfl)
      simp only [Act.put, pa112_7, pb112_7, pc112_7]
      refine tk112_7 (i := 3) (oi := zo112_7_3) (v := ?_) rfl (by kernel_rfl) (fun _ _ _ h => h) (Or.inl ⟨rfl, ?_⟩) hS ?_
      rotate_left
      · (intro w' hS'; (try dsimp only at hS'); dsimp only [zo112_7_3]; go_simp; try with_reducible rfl)
      simp only [Act.put, pa112_7, pb112_7, pc112_7]
      refine tk112_7 (i := 4) (oi := zo112_7_4) (v := ?_) rfl (by kernel_rfl) (fun _ _ _ h => h) (Or.inl ⟨rfl, ?_⟩) hS ?_
      rotate_left
      · (intro w' hS'; (try dsimp only at hS'); dsimp only [zo112_7_4]; go_simp; try with_reducible rfl)
      simp only [Act.put, pa112_7, pb112_7, pc112_7]
      refine tk112_7 (i := 5) (oi := zo112_7_5) (v := ?_) rfl (by kernel_rfl) (fun _ _ _ h => h) (Or.inl ⟨rfl, ?_⟩) hS ?_
      rotate_left
      · (intro w' hS'; (try dsimp only at hS'); dsimp only [zo112_7_5]; go_simp; try with_reducible rfl)
      simp only [Act.put, pa112_7, pb112_7, pc112_7]
      refine tk112_7 (i := 7) (oi := zo112_7_7) (v := ?_) rfl (by kernel_rfl) (fun _ _ _ h => h) (Or.inl ⟨rfl, ?_⟩) hS ?_
      rotate_left
      · (intro w' hS'; (try dsimp only at hS'); dsimp only [zo112_7_7]; go_simp; try with_reducible rfl)
      simp only [Act.put, pa112_7, pb112_7, pc112_7]
      refine tk112_7 (i := 8) (oi := zo112_7_8) (v := ?_) rfl (by kernel_rfl) (fun _ _ _ h => h) (Or.inl ⟨rfl, ?_⟩) hS ?_
      rotate_left
      · (intro w' hS'; (try dsimp only at hS'); dsimp only [zo112_7_8]; go_simp; try with_reducible rfl)
      simp only [Act.put, pa112_7, pb112_7, pc112_7]
      refine tk112_7 (i := 9) (oi := zo112_7_9) (v := ?_) rfl (by kernel_rfl) (fun _ _ _ h => h) (Or.inl ⟨rfl, ?_⟩) hS ?_
      rotate_left
      · (intro w' hS'; (try dsimp only at hS'); dsimp only [zo112_7_9]; go_simp; try with_reducible rfl)
      simp only [Act.put, pa112_7, pb112_7, pc112_7]
      refine tk112_7 (i := 10) (oi := zo112_7_10) (v := ?_) rfl (by kernel_rfl) (fun _ _ _ h => h) (Or.inl ⟨rfl, ?_⟩) hS ?_
      rotate_left
      · (intro w' hS'; (try dsimp only at hS'); dsimp only [zo112_7_10]; go_simp; try with_reducible rfl)
      simp only [Act.put, pa112_7, pb112_7, pc112_7]
      refine wpAnyH_ready (rs := [1, 6]) (by kernel_rfl) (by simp) ?_
      refine AllReadyH.cons (o := { dst := some 32, op := Go.Op.load 50 (Go.Operand.tmp 31), type := 50, pos := "l11_templates.go:62", after := #[{ on := 0, ground := Go.Ground.data }], guard := none }) rfl (fun K hK => ?_) (AllReadyH.cons (o := { dst := some 37, op := Go.Op.buildSlice 213 0 #[], type := 213, pos := "l11_templates.go:62", after := #[], guard := none }) rfl (fun K hK => ?_) .nil)
      · skip
        have f1 := RS.cell' (i := 1) rfl
        go_simp
        refine hK.out _ _ hS (fun _ => ?_)
        clear hK K f1
        refine wpAnyH_ready (rs := [6]) (by kernel_rfl) (by simp) ?_
        refine AllReadyH.cons (o := zo112_7_6) rfl (fun K hK => ?_) .nil
        go_simp
        have EM := emptyAt (T := pFeat) (e := 224) RS
        have nlt := RS.lt
        replace HP := HP.alloc (.cells #[] 224)
        replace RS := RS.alloc (.cells #[] 224)
        replace RO := RO.alloc (.cells #[] 224)
        replace bbw := bbw.alloc bbw.size (.cells #[] 224)
        replace hS : (fun w' : World => w'.cell? ⟨b, off + k * 2, none⟩ = some (.string xs[k].label) ∧ w'.cell? ⟨b, off + k * 2 + 1, none⟩ = some (.slice A' xs[k].feats.length c')) _ := ⟨kb bbw hbb h0, kb bbw hbb h1⟩
        refine hK.out _ _ hS (fun _ => ?_)
        clear hK K
        dsimp only at hS
        refine wpAnyH_ready (rs := [11]) (by kernel_rfl) (by simp) ?_
        refine AllReadyH.cons (o := zo112_7_11) rfl (fun K hK => ?_) .nil
        refine step_append_repX (T := pFeat) (e := 224) (xs := []) (ys := xs[k].feats) (ec := ec) rfl (.tmp 37) (.tmp 41) (by rfl) Tryz.underlying213 Tryz.infoFeat rfl (by decide) (by rfl) EM (by rfl) (pFeat_flat (o' := true) (repL_below' hs1 hsb bbw)) (CellsAt.below hs2 bbw) (by simp) (by simp [maxLen]; omega) (by simp; omega) ?_
        intro v2 w2 G2 r2 o2 q2 x2
        rw [List.nil_append] at r2
        obtain ⟨A2, n2, c2, rfl⟩ := slice_form r2
        have os2 := o2.size
        have wsz := bbw.size
        try simp only [World.size_alloc] at os2
        have HQ2 := q2 (wd.heap.size) ⟨by simp, by simp⟩ (by simp)
        replace RS := RS.onl o2 (by simp; omega)
        replace RO := RO.onl o2 (by simp; omega)
        replace HP := HP.only o2 (fun x hx hin => by simp at hin; have := HLT.out x hx; omega)
        replace bbw := bbw.trans (o2.below bbw.size (fun x hx => by simp at hx; omega))
        clear EM
        replace hS : (fun w' : World => w'.cell? ⟨b, off + k * 2, none⟩ = some (.string xs[k].label) ∧ w'.cell? ⟨b, off + k * 2 + 1, none⟩ = some (.slice A' xs[k].feats.length c')) _ := ⟨kb bbw hbb h0, kb bbw hbb h1⟩
        refine hK.out _ _ hS (fun _ => ?_)
        clear hK K
        dsimp only at hS
        refine tk112_7 (i := 12) (oi := zo112_7_12) (v := ?_) rfl (by kernel_rfl) (fun _ _ _ h => h) (Or.inl ⟨rfl, ?_⟩) hS ?_
        rotate_left
        · (intro w' hS'; (try dsimp only at hS'); dsimp only [zo112_7_12]; go_simp; try with_reducible rfl)
        simp only [Act.put, pa112_7, pb112_7, pc112_7]
        refine wpAnyH_ready (rs := [13]) (by kernel_rfl) (by simp) ?_
        refine AllReadyH.cons (o := zo112_7_13) rfl (fun K hK => ?_) .nil
        go_simp
        replace HP := HP.alloc (.cells #[.string xs[k].label, .slice A2 n2 c2] 215)
        replace RS := RS.alloc (.cells #[.string xs[k].label, .slice A2 n2 c2] 215)
        replace RO := RO.alloc (.cells #[.string xs[k].label, .slice A2 n2 c2] 215)
        replace bbw := bbw.alloc bbw.size (.cells #[.string xs[k].label, .slice A2 n2 c2] 215)
        replace hS : (fun w' : World => w'.cell? ⟨b, off + k * 2, none⟩ = some (.string xs[k].label) ∧ w'.cell? ⟨b, off + k * 2 + 1, none⟩ = some (.slice A' xs[k].feats.length c')) _ := ⟨kb bbw hbb h0, kb bbw hbb h1⟩
        refine hK.out _ _ hS (fun _ => ?_)
        clear hK K
        dsimp only at hS
        refine wpAnyH_ready (rs := [14]) (by kernel_rfl) (by simp) ?_
        refine AllReadyH.cons (o := zo112_7_14) rfl (fun K hK => ?_) .nil
        have HG2 := Lib.hid (fresh_app HF.out HLT.out HQ2 (by omega))
        refine step_append_repX (T := pTemp 224) (e := 215) (xs := xs.take k) (ys := [xs[k]]) (ec := [.string xs[k].label, .slice A2 n2 c2]) rfl (.tmp 32) (.tmp 44) (by rfl) Tryz.underlying50 Tryz.infoTemp rfl (by decide) (by rfl) HP (by rfl) (repL_single.2 (pTemp_rep.2 ⟨_, rfl, HLS.out, r2.alloc _⟩)) (cellsAt_new _ _ _) (by simpa using HG2.out.1) (by rw [HL.out]; simp [maxLen]; omega) (by rw [HL.out]; simp; omega) ?_
        intro v3 w3 F3 r3 o3 q3 x3
        obtain ⟨Av, nv, kv, rfl⟩ := slice_form r3
        have os3 := o3.size
        try simp only [World.size_alloc] at os3
        have wsz3 := bbw.size
        replace RS := RS.onl o3 ngS
        replace RO := RO.onl o3 ngO
        have FF := q3 (w.heap.size + 1 + 1) (by simpa using HG2.out) (by simp; omega)
        replace bbw := bbw.trans (o3.below bbw.size (fun x hx => by have := HF.out.2 x hx; omega))
        replace hS : (fun w' : World => w'.cell? ⟨b, off + k * 2, none⟩ = some (.string xs[k].label) ∧ w'.cell? ⟨b, off + k * 2 + 1, none⟩ = some (.slice A' xs[k].feats.length c')) _ := ⟨kb bbw hbb h0, kb bbw hbb h1⟩
        refine hK.out _ _ hS (fun _ => ?_)
        clear hK K
        dsimp only at hS
        refine tk112_7 (i := 15) (oi := zo112_7_15) (v := ?_) rfl (by kernel_rfl) (fun _ _ _ h => h) (Or.inl ⟨rfl, ?_⟩) hS ?_
        rotate_left
        · (intro w' hS'; (try dsimp only at hS'); dsimp only [zo112_7_15]; go_simp; try with_reducible rfl)
        simp only [Act.put, pa112_7, pb112_7, pc112_7]
        refine wpAnyH_ready (rs := [16]) (by kernel_rfl) (by simp) ?_
        refine AllReadyH.cons (o := zo112_7_16) rfl (fun K hK => ?_) .nil
        have f1 := RS.cell' (i := 1) rfl
        have ff := RS.frozen
        go_simp
        have RS4 := RS.set 1 (.slice Av nv kv)
        have RO4 := RO.far (p := ⟨w.heap.size + 1, 1, none⟩) (by simp) (.slice Av nv kv)
        have ngF : w.heap.size + 1 ∉ F3 := fun hx => by have := FF.2 _ hx; omega
        have HR4 := Lib.hid (r3.setCell (p := ⟨w.heap.size + 1, 1, none⟩) (by exact ngF) (.slice Av nv kv))
        have HB4 := Lib.hid (bbw.setCell (p := ⟨w.heap.size + 1, 1, none⟩) (by simp) (.slice Av nv kv))
        have bb4 := HB4.out
        refine hK.out _ _ ⟨kb bb4 hbb h0, kb bb4 hbb h1⟩ (fun _ => ?_)
        clear hK K
        refine wpAnyH_done (by kernel_rfl) ?_ _
        clear f1 ff RS RO hS bb4 HP
        go_wp2_with fail
        go_roundw
        case rel =>
          refine ⟨k + 1, _, .slice Av nv kv, F3, by omega, by go_num, rfl, RO4, RS4, ?_, FF, HB4.out⟩
          rw [List.take_succ_eq_append_getElem hlt]
          exact HR4.out
        case measure => simp [intOf]; omega
      · skip
        go_simp
        have EM := emptyAt (T := pFeat) (e := 224) RS
        have nlt := RS.lt
        replace HP := HP.alloc (.cells #[] 224)
        replace RS := RS.alloc (.cells #[] 224)
        replace RO := RO.alloc (.cells #[] 224)
        replace bbw := bbw.alloc bbw.size (.cells #[] 224)
        replace hS : (fun w' : World => w'.cell? ⟨b, off + k * 2, none⟩ = some (.string xs[k].label) ∧ w'.cell? ⟨b, off + k * 2 + 1, none⟩ = some (.slice A' xs[k].feats.length c')) _ := ⟨kb bbw hbb h0, kb bbw hbb h1⟩
        refine hK.out _ _ hS (fun _ => ?_)
        clear hK K
        dsimp only at hS
        refine wpAnyH_ready (rs := [1, 11]) (by kernel_rfl) (by simp) ?_
        refine AllReadyH.cons (o := { dst := some 32, op := Go.Op.load 50 (Go.Operand.tmp 31), type := 50, pos := "l11_templates.go:62", after := #[{ on := 0, ground := Go.Ground.data }], guard := none }) rfl (fun K hK => ?_) (AllReadyH.cons (o := { dst := some 42, op := Go.Op.call { callee := Go.Callee.builtin Go.Builtin.append, args := #[Go.Operand.tmp 37, Go.Operand.tmp 41], argTypes := #[213, 213] }, type := 213, pos := "l11_templates.go:62", after := #[{ on := 6, ground := Go.Ground.data }, { on := 10, ground := Go.Ground.data }], guard := none }) rfl (fun K hK => ?_) .nil)
        · skip
          have f1 := RS.cell' (i := 1) rfl
          go_simp
          refine hK.out _ _ hS (fun _ => ?_)
          clear hK K f1
          refine wpAnyH_ready (rs := [11]) (by kernel_rfl) (by simp) ?_
          refine AllReadyH.cons (o := zo112_7_11) rfl (fun K hK => ?_) .nil
          refine step_append_repX (T := pFeat) (e := 224) (xs := []) (ys := xs[k].feats) (ec := ec) rfl (.tmp 37) (.tmp 41) (by rfl) Tryz.underlying213 Tryz.infoFeat rfl (by decide) (by rfl) EM (by rfl) (pFeat_flat (o' := true) (repL_below' hs1 hsb bbw)) (CellsAt.below hs2 bbw) (by simp) (by simp [maxLen]; omega) (by simp; omega) ?_
          intro v2 w2 G2 r2 o2 q2 x2
          rw [List.nil_append] at r2
          obtain ⟨A2, n2, c2, rfl⟩ := slice_form r2
          have os2 := o2.size
          have wsz := bbw.size
          try simp only [World.size_alloc] at os2
          have HQ2 := q2 (wd.heap.size) ⟨by simp, by simp⟩ (by simp)
          replace RS := RS.onl o2 (by simp; omega)
          replace RO := RO.onl o2 (by simp; omega)
          replace HP := HP.only o2 (fun x hx hin => by simp at hin; have := HLT.out x hx; omega)
          replace bbw := bbw.trans (o2.below bbw.size (fun x hx => by simp at hx; omega))
          clear EM
          replace hS : (fun w' : World => w'.cell? ⟨b, off + k * 2, none⟩ = some (.string xs[k].label) ∧ w'.cell? ⟨b, off + k * 2 + 1, none⟩ = some (.slice A' xs[k].feats.length c')) _ := ⟨kb bbw hbb h0, kb bbw hbb h1⟩
          refine hK.out _ _ hS (fun _ => ?_)
          clear hK K
          dsimp only at hS
          refine tk112_7 (i := 12) (oi := zo112_7_12) (v := ?_) rfl (by kernel_rfl) (fun _ _ _ h => h) (Or.inl ⟨rfl, ?_⟩) hS ?_
          rotate_left
          · (intro w' hS'; (try dsimp only at hS'); dsimp only [zo112_7_12]; go_simp; try with_reducible rfl)
          simp only [Act.put, pa112_7, pb112_7, pc112_7]
          refine wpAnyH_ready (rs := [13]) (by kernel_rfl) (by simp) ?_
          refine AllReadyH.cons (o := zo112_7_13) rfl (fun K hK => ?_) .nil
          go_simp
          replace HP := HP.alloc (.cells #[.string xs[k].label, .slice A2 n2 c2] 215)
          replace RS := RS.alloc (.cells #[.string xs[k].label, .slice A2 n2 c2] 215)
          replace RO := RO.alloc (.cells #[.string xs[k].label, .slice A2 n2 c2] 215)
          replace bbw := bbw.alloc bbw.size (.cells #[.string xs[k].label, .slice A2 n2 c2] 215)
          replace hS : (fun w' : World => w'.cell? ⟨b, off + k * 2, none⟩ = some (.string xs[k].label) ∧ w'.cell? ⟨b, off + k * 2 + 1, none⟩ = some (.slice A' xs[k].feats.length c')) _ := ⟨kb bbw hbb h0, kb bbw hbb h1⟩
          refine hK.out _ _ hS (fun _ => ?_)
          clear hK K
          dsimp only at hS
          refine wpAnyH_ready (rs := [14]) (by kernel_rfl) (by simp) ?_
          refine AllReadyH.cons (o := zo112_7_14) rfl (fun K hK => ?_) .nil
          have HG2 := Lib.hid (fresh_app HF.out HLT.out HQ2 (by omega))
          refine step_append_repX (T := pTemp 224) (e := 215) (xs := xs.take k) (ys := [xs[k]]) (ec := [.string xs[k].label, .slice A2 n2 c2]) rfl (.tmp 32) (.tmp 44) (by rfl) Tryz.underlying50 Tryz.infoTemp rfl (by decide) (by rfl) HP (by rfl) (repL_single.2 (pTemp_rep.2 ⟨_, rfl, HLS.out, r2.alloc _⟩)) (cellsAt_new _ _ _) (by simpa using HG2.out.1) (by rw [HL.out]; simp [maxLen]; omega) (by rw [HL.out]; simp; omega) ?_
          intro v3 w3 F3 r3 o3 q3 x3
          obtain ⟨Av, nv, kv, rfl⟩ := slice_form r3
          have os3 := o3.size
          try simp only [World.size_alloc] at os3
          have wsz3 := bbw.size
          replace RS := RS.onl o3 ngS
          replace RO := RO.onl o3 ngO
          have FF := q3 (w.heap.size + 1 + 1) (by simpa using HG2.out) (by simp; omega)
          replace bbw := bbw.trans (o3.below bbw.size (fun x hx => by have := HF.out.2 x hx; omega))
          replace hS : (fun w' : World => w'.cell? ⟨b, off + k * 2, none⟩ = some (.string xs[k].label) ∧ w'.cell? ⟨b, off + k * 2 + 1, none⟩ = some (.slice A' xs[k].feats.length c')) _ := ⟨kb bbw hbb h0, kb bbw hbb h1⟩
          refine hK.out _ _ hS (fun _ => ?_)
          clear hK K
          dsimp only at hS
          refine tk112_7 (i := 15) (oi := zo112_7_15) (v := ?_) rfl (by kernel_rfl) (fun _ _ _ h => h) (Or.inl ⟨rfl, ?_⟩) hS ?_
          rotate_left
          · (intro w' hS'; (try dsimp only at hS'); dsimp only [zo112_7_15]; go_simp; try with_reducible rfl)
          simp only [Act.put, pa112_7, pb112_7, pc112_7]
          refine wpAnyH_ready (rs := [16]) (by kernel_rfl) (by simp) ?_
          refine AllReadyH.cons (o := zo112_7_16) rfl (fun K hK => ?_) .nil
          have f1 := RS.cell' (i := 1) rfl
          have ff := RS.frozen
          go_simp
          have RS4 := RS.set 1 (.slice Av nv kv)
          have RO4 := RO.far (p := ⟨w.heap.size + 1, 1, none⟩) (by simp) (.slice Av nv kv)
          have ngF : w.heap.size + 1 ∉ F3 := fun hx => by have := FF.2 _ hx; omega
          have HR4 := Lib.hid (r3.setCell (p := ⟨w.heap.size + 1, 1, none⟩) (by exact ngF) (.slice Av nv kv))
          have HB4 := Lib.hid (bbw.setCell (p := ⟨w.heap.size + 1, 1, none⟩) (by simp) (.slice Av nv kv))
          have bb4 := HB4.out
          refine hK.out _ _ ⟨kb bb4 hbb h0, kb bb4 hbb h1⟩ (fun _ => ?_)
          clear hK K
          refine wpAnyH_done (by kernel_rfl) ?_ _
          clear f1 ff RS RO hS bb4 HP
          go_wp2_with fail
          go_roundw
          case rel =>
            refine ⟨k + 1, _, .slice Av nv kv, F3, by omega, by go_num, rfl, RO4, RS4, ?_, FF, HB4.out⟩
            rw [List.take_succ_eq_append_getElem hlt]
            exact HR4.out
          case measure => simp [intOf]; omega
        · skip
          refine step_append_repX (T := pFeat) (e := 224) (xs := []) (ys := xs[k].feats) (ec := ec) rfl (.tmp 37) (.tmp 41) (by rfl) Tryz.underlying213 Tryz.infoFeat rfl (by decide) (by rfl) EM (by rfl) (pFeat_flat (o' := true) (repL_below' hs1 hsb bbw)) (CellsAt.below hs2 bbw) (by simp) (by simp [maxLen]; omega) (by simp; omega) ?_
          intro v2 w2 G2 r2 o2 q2 x2
          rw [List.nil_append] at r2
          obtain ⟨A2, n2, c2, rfl⟩ := slice_form r2
          have os2 := o2.size
          have wsz := bbw.size
          try simp only [World.size_alloc] at os2
          have HQ2 := q2 (wd.heap.size) ⟨by simp, by simp⟩ (by simp)
          replace RS := RS.onl o2 (by simp; omega)
          replace RO := RO.onl o2 (by simp; omega)
          replace HP := HP.only o2 (fun x hx hin => by simp at hin; have := HLT.out x hx; omega)
          replace bbw := bbw.trans (o2.below bbw.size (fun x hx => by simp at hx; omega))
          clear EM
          replace hS : (fun w' : World => w'.cell? ⟨b, off + k * 2, none⟩ = some (.string xs[k].label) ∧ w'.cell? ⟨b, off + k * 2 + 1, none⟩ = some (.slice A' xs[k].feats.length c')) _ := ⟨kb bbw hbb h0, kb bbw hbb h1⟩
          refine hK.out _ _ hS (fun _ => ?_)
          clear hK K
          dsimp only at hS
          refine tk112_7 (i := 12) (oi := zo112_7_12) (v := ?_) rfl (by kernel_rfl) (fun _ _ _ h => h) (Or.inl ⟨rfl, ?_⟩) hS ?_
          rotate_left
          · (intro w' hS'; (try dsimp only at hS'); dsimp only [zo112_7_12]; go_simp; try with_reducible rfl)
          simp only [Act.put, pa112_7, pb112_7, pc112_7]
          refine wpAnyH_ready (rs := [1, 13]) (by kernel_rfl) (by simp) ?_
          refine AllReadyH.cons (o := { dst := some 32, op := Go.Op.load 50 (Go.Operand.tmp 31), type := 50, pos := "l11_templates.go:62", after := #[{ on := 0, ground := Go.Ground.data }], guard := none }) rfl (fun K hK => ?_) (AllReadyH.cons (o := { dst := some 44, op := Go.Op.buildSlice 50 1 #[(0, Go.Operand.tmp 43)], type := 50, pos := "l11_templates.go:62", after := #[{ on := 12, ground := Go.Ground.data }], guard := none }) rfl (fun K hK => ?_) .nil)
          · skip
            have f1 := RS.cell' (i := 1) rfl
            go_simp
            refine hK.out _ _ hS (fun _ => ?_)
            clear hK K f1
            refine wpAnyH_ready (rs := [13]) (by kernel_rfl) (by simp) ?_
            refine AllReadyH.cons (o := zo112_7_13) rfl (fun K hK => ?_) .nil
            go_simp
            replace HP := HP.alloc (.cells #[.string xs[k].label, .slice A2 n2 c2] 215)
            replace RS := RS.alloc (.cells #[.string xs[k].label, .slice A2 n2 c2] 215)
            replace RO := RO.alloc (.cells #[.string xs[k].label, .slice A2 n2 c2] 215)
            replace bbw := bbw.alloc bbw.size (.cells #[.string xs[k].label, .slice A2 n2 c2] 215)
            replace hS : (fun w' : World => w'.cell? ⟨b, off + k * 2, none⟩ = some (.string xs[k].label) ∧ w'.cell? ⟨b, off + k * 2 + 1, none⟩ = some (.slice A' xs[k].feats.length c')) _ := ⟨kb bbw hbb h0, kb bbw hbb h1⟩
            refine hK.out _ _ hS (fun _ => ?_)
            clear hK K
            dsimp only at hS
            refine wpAnyH_ready (rs := [14]) (by kernel_rfl) (by simp) ?_
            refine AllReadyH.cons (o := zo112_7_14) rfl (fun K hK => ?_) .nil
            have HG2 := Lib.hid (fresh_app HF.out HLT.out HQ2 (by omega))
            refine step_append_repX (T := pTemp 224) (e := 215) (xs := xs.take k) (ys := [xs[k]]) (ec := [.string xs[k].label, .slice A2 n2 c2]) rfl (.tmp 32) (.tmp 44) (by rfl) Tryz.underlying50 Tryz.infoTemp rfl (by decide) (by rfl) HP (by rfl) (repL_single.2 (pTemp_rep.2 ⟨_, rfl, HLS.out, r2.alloc _⟩)) (cellsAt_new _ _ _) (by simpa using HG2.out.1) (by rw [HL.out]; simp [maxLen]; omega) (by rw [HL.out]; simp; omega) ?_
            intro v3 w3 F3 r3 o3 q3 x3
            obtain ⟨Av, nv, kv, rfl⟩ := slice_form r3
            have os3 := o3.size
            try simp only [World.size_alloc] at os3
            have wsz3 := bbw.size
            replace RS := RS.onl o3 ngS
            replace RO := RO.onl o3 ngO
            have FF := q3 (w.heap.size + 1 + 1) (by simpa using HG2.out) (by simp; omega)
            replace bbw := bbw.trans (o3.below bbw.size (fun x hx => by have := HF.out.2 x hx; omega))
            replace hS : (fun w' : World => w'.cell? ⟨b, off + k * 2, none⟩ = some (.string xs[k].label) ∧ w'.cell? ⟨b, off + k * 2 + 1, none⟩ = some (.slice A' xs[k].feats.length c')) _ := ⟨kb bbw hbb h0, kb bbw hbb h1⟩
            refine hK.out _ _ hS (fun _ => ?_)
            clear hK K
            dsimp only at hS
            refine tk112_7 (i := 15) (oi := zo112_7_15) (v := ?_) rfl (by kernel_rfl) (fun _ _ _ h => h) (Or.inl ⟨rfl, ?_⟩) hS ?_
            rotate_left
            · (intro w' hS'; (try dsimp only at hS'); dsimp only [zo112_7_15]; go_simp; try with_reducible rfl)
            simp only [Act.put, pa112_7, pb112_7, pc112_7]
            refine wpAnyH_ready (rs := [16]) (by kernel_rfl) (by simp) ?_
            refine AllReadyH.cons (o := zo112_7_16) rfl (fun K hK => ?_) .nil
            have f1 := RS.cell' (i := 1) rfl
            have ff := RS.frozen
            go_simp
            have RS4 := RS.set 1 (.slice Av nv kv)
            have RO4 := RO.far (p := ⟨w.heap.size + 1, 1, none⟩) (by simp) (.slice Av nv kv)
            have ngF : w.heap.size + 1 ∉ F3 := fun hx => by have := FF.2 _ hx; omega
            have HR4 := Lib.hid (r3.setCell (p := ⟨w.heap.size + 1, 1, none⟩) (by exact ngF) (.slice Av nv kv))
            have HB4 := Lib.hid (bbw.setCell (p := ⟨w.heap.size + 1, 1, none⟩) (by simp) (.slice Av nv kv))
            have bb4 := HB4.out
            refine hK.out _ _ ⟨kb bb4 hbb h0, kb bb4 hbb h1⟩ (fun _ => ?_)
            clear hK K
            refine wpAnyH_done (by kernel_rfl) ?_ _
            clear f1 ff RS RO hS bb4 HP
            go_wp2_with fail
            go_roundw
            case rel =>
              refine ⟨k + 1, _, .slice Av nv kv, F3, by omega, by go_num, rfl, RO4, RS4, ?_, FF, HB4.out⟩
              rw [List.take_succ_eq_append_getElem hlt]
              exact HR4.out
            case measure => simp [intOf]; omega
          · skip
            go_simp
            replace HP := HP.alloc (.cells #[.string xs[k].label, .slice A2 n2 c2] 215)
            replace RS := RS.alloc (.cells #[.string xs[k].label, .slice A2 n2 c2] 215)
            replace RO := RO.alloc (.cells #[.string xs[k].label, .slice A2 n2 c2] 215)
            replace bbw := bbw.alloc bbw.size (.cells #[.string xs[k].label, .slice A2 n2 c2] 215)
            replace hS : (fun w' : World => w'.cell? ⟨b, off + k * 2, none⟩ = some (.string xs[k].label) ∧ w'.cell? ⟨b, off + k * 2 + 1, none⟩ = some (.slice A' xs[k].feats.length c')) _ := ⟨kb bbw hbb h0, kb bbw hbb h1⟩
            refine hK.out _ _ hS (fun _ => ?_)
            clear hK K
            dsimp only at hS
            refine wpAnyH_ready (rs := [1]) (by kernel_rfl) (by simp) ?_
            refine AllReadyH.cons (o := zo112_7_1) rfl (fun K hK => ?_) .nil
            have f1 := RS.cell' (i := 1) rfl
            go_simp
            refine hK.out _ _ hS (fun _ => ?_)
            clear hK K f1
            refine wpAnyH_ready (rs := [14]) (by kernel_rfl) (by simp) ?_
            refine AllReadyH.cons (o := zo112_7_14) rfl (fun K hK => ?_) .nil
            have HG2 := Lib.hid (fresh_app HF.out HLT.out HQ2 (by omega))
            refine step_append_repX (T := pTemp 224) (e := 215) (xs := xs.take k) (ys := [xs[k]]) (ec := [.string xs[k].label, .slice A2 n2 c2]) rfl (.tmp 32) (.tmp 44) (by rfl) Tryz.underlying50 Tryz.infoTemp rfl (by decide) (by rfl) HP (by rfl) (repL_single.2 (pTemp_rep.2 ⟨_, rfl, HLS.out, r2.alloc _⟩)) (cellsAt_new _ _ _) (by simpa using HG2.out.1) (by rw [HL.out]; simp [maxLen]; omega) (by rw [HL.out]; simp; omega) ?_
            intro v3 w3 F3 r3 o3 q3 x3
            obtain ⟨Av, nv, kv, rfl⟩ := slice_form r3
            have os3 := o3.size
            try simp only [World.size_alloc] at os3
            have wsz3 := bbw.size
            replace RS := RS.onl o3 ngS
            replace RO := RO.onl o3 ngO
            have FF := q3 (w.heap.size + 1 + 1) (by simpa using HG2.out) (by simp; omega)
            replace bbw := bbw.trans (o3.below bbw.size (fun x hx => by have := HF.out.2 x hx; omega))
            replace hS : (fun w' : World => w'.cell? ⟨b, off + k * 2, none⟩ = some (.string xs[k].label) ∧ w'.cell? ⟨b, off + k * 2 + 1, none⟩ = some (.slice A' xs[k].feats.length c')) _ := ⟨kb bbw hbb h0, kb bbw hbb h1⟩
            refine hK.out _ _ hS (fun _ => ?_)
            clear hK K
            dsimp only at hS
            refine tk112_7 (i := 15) (oi := zo112_7_15) (v := ?_) rfl (by kernel_rfl) (fun _ _ _ h => h) (Or.inl ⟨rfl, ?_⟩) hS ?_
            rotate_left
            · (intro w' hS'; (try dsimp only at hS'); dsimp only [zo112_7_15]; go_simp; try with_reducible rfl)
            simp only [Act.put, pa112_7, pb112_7, pc112_7]
            refine wpAnyH_ready (rs := [16]) (by kernel_rfl) (by simp) ?_
            refine AllReadyH.cons (o := zo112_7_16) rfl (fun K hK => ?_) .nil
            have f1 := RS.cell' (i := 1) rfl
            have ff := RS.frozen
            go_simp
            have RS4 := RS.set 1 (.slice Av nv kv)
            have RO4 := RO.far (p := ⟨w.heap.size + 1, 1, none⟩) (by simp) (.slice Av nv kv)
            have ngF : w.heap.size + 1 ∉ F3 := fun hx => by have := FF.2 _ hx; omega
            have HR4 := Lib.hid (r3.setCell (p := ⟨w.heap.size + 1, 1, none⟩) (by exact ngF) (.slice Av nv kv))
            have HB4 := Lib.hid (bbw.setCell (p := ⟨w.heap.size + 1, 1, none⟩) (by simp) (.slice Av nv kv))
            have bb4 := HB4.out
            refine hK.out _ _ ⟨kb bb4 hbb h0, kb bb4 hbb h1⟩ (fun _ => ?_)
            clear hK K
            refine wpAnyH_done (by kernel_rfl) ?_ _
            clear f1 ff RS RO hS bb4 HP
            go_wp2_with fail
            go_roundw
            case rel =>
              refine ⟨k + 1, _, .slice Av nv kv, F3, by omega, by go_num, rfl, RO4, RS4, ?_, FF, HB4.out⟩
              rw [List.take_succ_eq_append_getElem hlt]
              exact HR4.out
            case measure => simp [intOf]; omega
    · obtain rfl : k = xs.length := by omega
      rw [List.take_length] at hrep
      obtain ⟨Au, ku, rfl⟩ := slice_len hrep
      have lS := RS.lt
      have ng1 : w.heap.size ∉ G := fun hx => by have := hfr.2 _ hx; omega
      have s0 := RS.cell' (i := 0) rfl
      have s1 := RS.cell' (i := 1) rfl
      have o0 := RO.cell' (i := 0) rfl
      have o1 := RO.cell' (i := 1) rfl
      have of := RO.frozen
      have TF := (RO.set 0 (.int .i64 n)).set 1 (.slice Au xs.length ku)
      have e0 := TF.cell' (i := 0) rfl
      have e1 := TF.cell' (i := 1) rfl
      have HP := Lib.hid hrep
      clear hrep hr
      go_wp2_with fail
      refine bodyPost_ret (v := .agg #[.int .i64 n, .slice Au xs.length ku]) (by simp only [results, Tryz.results112]; go_simp) rfl ⟨_, G, rfl, (HP.out.setCell (by exact ng1) _).setCell (by exact ng1) _, hfr.mono (by omega), (hb.setCell (by simp) _).setCell (by simp) _⟩
end Go.Proofs.YtkfadfddhbpngaaGreat
