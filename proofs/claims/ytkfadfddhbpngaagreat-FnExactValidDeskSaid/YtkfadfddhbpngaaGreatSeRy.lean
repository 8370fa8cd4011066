/- The reference's own setups. Conditions: none. -/
import Derived.Test.YtkfadfddhbpngaaGreatTky
import Derived.Test.YtkfadfddhbpngaaGreatSeMody
namespace Go.Proofs.YtkfadfddhbpngaaGreat
open Go Go.RowKit
abbrev zo109_5_0 : Oper := { dst := some 20, op := .move (.tmp 4), type := 239, pos := "l16_lexicon.go:8", after := #[], guard := none }
abbrev zo109_5_1 : Oper := { dst := some 21, op := .nilCheck (.tmp 20), type := 0, pos := "l16_lexicon.go:8", after := #[{ on := 0, ground := .data }], guard := none }
abbrev zo109_5_2 : Oper := { dst := some 22, op := .fieldAddr 183 (.tmp 21) 0, type := 0, pos := "l16_lexicon.go:8", after := #[{ on := 1, ground := .data }], guard := none }
abbrev zo109_5_3 : Oper := { dst := some 23, op := .load 9 (.tmp 22), type := 9, pos := "l16_lexicon.go:8", after := #[{ on := 2, ground := .data }], guard := none }
abbrev zo109_5_4 : Oper := { dst := some 24, op := .call { callee := .value (.func 173), args := #[.tmp 23], argTypes := #[9] }, type := 4, pos := "l16_lexicon.go:8", after := #[{ on := 3, ground := .data }], guard := none }
abbrev zo109_5_5 : Oper := { dst := some 25, op := .unOp .not 4 (.tmp 24), type := 4, pos := "l16_lexicon.go:8", after := #[{ on := 4, ground := .data }], guard := none }
abbrev zo109_5_6 : Oper := { dst := some 26, op := .move (.tmp 25), type := 4, pos := "l16_lexicon.go:8", after := #[{ on := 5, ground := .data }, { on := 4, ground := .chain }], guard := none }
abbrev zo109_5_7 : Oper := { dst := some 27, op := .move (.tmp 4), type := 239, pos := "l16_lexicon.go:8", after := #[{ on := 6, ground := .guard }], guard := some (6, false) }
abbrev zo109_5_8 : Oper := { dst := some 28, op := .nilCheck (.tmp 27), type := 0, pos := "l16_lexicon.go:8", after := #[{ on := 7, ground := .data }, { on := 6, ground := .guard }], guard := some (6, false) }
abbrev zo109_5_9 : Oper := { dst := some 29, op := .fieldAddr 183 (.tmp 28) 1, type := 0, pos := "l16_lexicon.go:8", after := #[{ on := 8, ground := .data }, { on := 6, ground := .guard }], guard := some (6, false) }
abbrev zo109_5_10 : Oper := { dst := some 30, op := .load 2 (.tmp 29), type := 2, pos := "l16_lexicon.go:8", after := #[{ on := 9, ground := .data }, { on := 6, ground := .guard }], guard := some (6, false) }
abbrev zo109_5_11 : Oper := { dst := some 31, op := .call { callee := .value (.func 111), args := #[.tmp 30, .const (.int .i64 0), .const (.int .i64 1000000)], argTypes := #[2, 2, 2] }, type := 4, pos := "l16_lexicon.go:8", after := #[{ on := 10, ground := .data }, { on := 6, ground := .chain }, { on := 6, ground := .guard }], guard := some (6, false) }
abbrev zo109_5_12 : Oper := { dst := some 32, op := .unOp .not 4 (.tmp 31), type := 4, pos := "l16_lexicon.go:8", after := #[{ on := 11, ground := .data }, { on := 6, ground := .guard }], guard := some (6, false) }
abbrev zo109_5_13 : Oper := { dst := some 33, op := .pick (.tmp 26) (.const (.bool true)) (.tmp 32), type := 4, pos := "l16_lexicon.go:8", after := #[{ on := 6, ground := .data }, { on := 12, ground := .data }], guard := none }
abbrev zo109_5_14 : Oper := { dst := some 34, op := .move (.tmp 33), type := 4, pos := "l16_lexicon.go:8", after := #[{ on := 13, ground := .data }, { on := 11, ground := .chain }], guard := none }
abbrev zo109_5_15 : Oper := { dst := some 35, op := .move (.tmp 3), type := 3, pos := "l16_lexicon.go:8", after := #[{ on := 14, ground := .guard }], guard := some (14, false) }
abbrev zo109_5_16 : Oper := { dst := some 36, op := .binOp .gtr 3 (.tmp 35) (.const (.int .i64 0)) 3, type := 4, pos := "l16_lexicon.go:8", after := #[{ on := 15, ground := .data }, { on := 14, ground := .guard }], guard := some (14, false) }
abbrev zo109_5_17 : Oper := { dst := some 37, op := .move (.tmp 36), type := 4, pos := "l16_lexicon.go:8", after := #[{ on := 16, ground := .data }, { on := 14, ground := .chain }, { on := 14, ground := .guard }], guard := some (14, false) }
abbrev zo109_5_18 : Oper := { dst := some 38, op := .move (.tmp 4), type := 239, pos := "l16_lexicon.go:8", after := #[{ on := 17, ground := .guard }], guard := some (17, true) }
abbrev zo109_5_19 : Oper := { dst := some 39, op := .nilCheck (.tmp 38), type := 0, pos := "l16_lexicon.go:8", after := #[{ on := 18, ground := .data }, { on := 17, ground := .guard }], guard := some (17, true) }
abbrev zo109_5_20 : Oper := { dst := some 40, op := .fieldAddr 183 (.tmp 39) 0, type := 0, pos := "l16_lexicon.go:8", after := #[{ on := 19, ground := .data }, { on := 17, ground := .guard }], guard := some (17, true) }
abbrev zo109_5_21 : Oper := { dst := some 41, op := .load 9 (.tmp 40), type := 9, pos := "l16_lexicon.go:8", after := #[{ on := 20, ground := .data }, { on := 17, ground := .guard }], guard := some (17, true) }
abbrev zo109_5_22 : Oper := { dst := some 42, op := .move (.tmp 0), type := 137, pos := "l16_lexicon.go:8", after := #[{ on := 17, ground := .guard }], guard := some (17, true) }
abbrev zo109_5_23 : Oper := { dst := some 43, op := .nilCheck (.tmp 42), type := 0, pos := "l16_lexicon.go:8", after := #[{ on := 22, ground := .data }, { on := 17, ground := .guard }], guard := some (17, true) }
abbrev zo109_5_24 : Oper := { dst := some 44, op := .fieldAddr 56 (.tmp 43) 0, type := 0, pos := "l16_lexicon.go:8", after := #[{ on := 23, ground := .data }, { on := 17, ground := .guard }], guard := some (17, true) }
abbrev zo109_5_25 : Oper := { dst := some 45, op := .load 54 (.tmp 44), type := 54, pos := "l16_lexicon.go:8", after := #[{ on := 24, ground := .data }, { on := 17, ground := .guard }], guard := some (17, true) }
abbrev zo109_5_26 : Oper := { dst := some 46, op := .move (.tmp 3), type := 3, pos := "l16_lexicon.go:8", after := #[{ on := 17, ground := .guard }], guard := some (17, true) }
abbrev zo109_5_27 : Oper := { dst := some 47, op := .binOp .sub 3 (.tmp 46) (.const (.int .i64 1)) 3, type := 3, pos := "l16_lexicon.go:8", after := #[{ on := 26, ground := .data }, { on := 17, ground := .guard }], guard := some (17, true) }
abbrev zo109_5_28 : Oper := { dst := some 48, op := .indexAddr 54 (.tmp 45) (.tmp 47), type := 0, pos := "l16_lexicon.go:8", after := #[{ on := 25, ground := .data }, { on := 27, ground := .data }, { on := 17, ground := .guard }], guard := some (17, true) }
abbrev zo109_5_29 : Oper := { dst := some 49, op := .fieldAddr 183 (.tmp 48) 0, type := 0, pos := "l16_lexicon.go:8", after := #[{ on := 28, ground := .data }, { on := 17, ground := .guard }], guard := some (17, true) }
abbrev zo109_5_30 : Oper := { dst := some 50, op := .load 9 (.tmp 49), type := 9, pos := "l16_lexicon.go:8", after := #[{ on := 29, ground := .data }, { on := 17, ground := .guard }], guard := some (17, true) }
abbrev zo109_5_31 : Oper := { dst := some 51, op := .binOp .leq 9 (.tmp 41) (.tmp 50) 9, type := 4, pos := "l16_lexicon.go:8", after := #[{ on := 21, ground := .data }, { on := 30, ground := .data }, { on := 17, ground := .guard }], guard := some (17, true) }
abbrev zo109_5_32 : Oper := { dst := some 52, op := .pick (.tmp 37) (.tmp 51) (.const (.bool false)), type := 4, pos := "l16_lexicon.go:8", after := #[{ on := 17, ground := .data }, { on := 31, ground := .data }, { on := 14, ground := .guard }], guard := some (14, false) }
abbrev zo109_5_33 : Oper := { dst := some 53, op := .pick (.tmp 34) (.const (.bool true)) (.tmp 52), type := 4, pos := "l16_lexicon.go:8", after := #[{ on := 14, ground := .data }, { on := 32, ground := .data }], guard := none }


set_option maxHeartbeats 400000 in
theorem spec_l09Feat_c (s : PFeat) (w : World) :
 Calls Tryz.prog 235 #[.agg #[.int .i64 s.x, .int .i64 s.y, .int .i64 s.d]] w fun e w' => e = .returned (.bool (featB s)) ∧ Below w.heap.size w w' := by
 have al : Below w.heap.size w (w.alloc (.cells #[.int .i64 s.x, .int .i64 s.y, .int .i64 s.d] 224)) := (Below.refl _ _).alloc (Nat.le_refl _) _
 have H0 := Lib.hid (spec_inR_c s.x 0 255)
 have H1 := Lib.hid (spec_inR_c s.y 0 255)
 have H2 := Lib.hid (spec_inR_c s.d 0 7)
 unfold featB
 generalize inR s.x 0 255 = d0 at H0 ⊢
 generalize inR s.y 0 255 = d1 at H1 ⊢
 generalize inR s.d 0 7 = d2 at H2 ⊢
 cases d0 <;> cases d1
 all_goals
  go_enter Tryz.func235, Tryz.ntmps235
  go_wp2_with (first | (go_at_call_of 111 (Value.int .i64 s.x); refine (H0.out _).mono ?_; rintro e w1 ⟨rfl, rfl⟩) | (go_at_call_of 111 (Value.int .i64 s.y); refine (H1.out _).mono ?_; rintro e w1 ⟨rfl, rfl⟩) | (go_at_call_of 111 (Value.int .i64 s.d); refine (H2.out _).mono ?_; rintro e w1 ⟨rfl, rfl⟩))
  go_ret
  exact ⟨rfl, al⟩
set_option maxRecDepth 100000 in
set_option maxHeartbeats 1000000 in
theorem spec_l09Ok_c {o : Bool} {e : TypeId} {xs : List PFeat} {v : Value} {F : List Nat} (w : World) (h : (pFeats e).rep o w xs [v] F) (hx : xs.length ≤ 1048576) :
 Calls Tryz.prog 211 #[v] w fun e w' => e = .returned (.bool (featsB xs)) ∧ Below w.heap.size w w' := by
 obtain ⟨A, c, rfl, hc1, hc2, hr⟩ := pFeats_open h
 clear h
 go_enter Tryz.func211, Tryz.ntmps211
 go_wp2_with fail
 go_loopw [3] (fun i wr => ∃ k : Nat, k ≤ xs.length ∧ i = .int .i64 k ∧ Hid ((xs.take k).all featB = true) ∧ Below w.heap.size w wr) (fun i _ => xs.length - (intOf i).toNat)
 case atStart => exact ⟨0, Nat.zero_le _, rfl, rfl, Below.refl _ _⟩
 case round =>
  obtain ⟨k, hk, rfl, hok, hb⟩ := hrel
  have hbs := hb.size
  by_cases hlt : k < xs.length
  · obtain ⟨b, off, rfl, hbb, _, h0, h1, h2, _⟩ := hr k hlt
    rw [← hb.cell (p := ⟨b, _, none⟩) hbb] at h0 h1 h2
    have HC := Lib.hid (spec_l09Feat_c xs[k])
    have hst : (xs.take (k + 1)).all featB = ((xs.take k).all featB && featB xs[k]) := by rw [List.take_succ_eq_append_getElem hlt, List.all_append]; simp
    have hin : featB xs[k] = false → featsB xs = false := fun h => by
     have : xs.all featB = false := by rw [Bool.eq_false_iff]; intro h2; rw [List.all_eq_true.1 h2 _ (List.getElem_mem hlt)] at h; cases h
     simp [featsB, this]
    have HST := Lib.hid hst
    have HIN := Lib.hid hin
    clear hr hst hin
    generalize featB xs[k] = d at HC HST HIN
    cases d
    · have HF := Lib.hid (HIN.out rfl)
      go_wp2_with fail
      refine (HC.out _).mono ?_
      rintro e w1 ⟨rfl, b1⟩
      go_wp2_with fail
      go_ret
      exact ⟨ret_boolI HF.out.symm, hb.trans (b1.mono hbs)⟩
    · go_wp2_with fail
      refine (HC.out _).mono ?_
      rintro e w1 ⟨rfl, b1⟩
      go_wp2_with fail
      go_roundw
      case rel => exact ⟨k + 1, by omega, by go_num, by show _ = _; rw [HST.out, hok.out]; rfl, hb.trans (b1.mono hbs)⟩
      case measure => simp [intOf]; omega
  · obtain rfl : k = xs.length := by omega
    have hall := hok.out
    rw [List.take_length] at hall
    have HQ := Lib.hid (spec_inR_c (xs.length : Int) 1 72)
    have HF : Hid (featsB xs = inR (xs.length : Int) 1 72) := by
     show _ = _
     rw [featsB, hall, inR, Bool.true_and]
     congr 1 <;> exact decide_eq_decide.2 (by omega)
    generalize inR (xs.length : Int) 1 72 = d at HQ HF
    clear hall hr
    go_wp2_with fail
    refine (HQ.out _).mono ?_
    rintro e w1 ⟨rfl, rfl⟩
    go_wp2_with fail
    go_ret
    exact ⟨ret_boolI HF.out.symm, hb⟩
set_option maxHeartbeats 400000 in
theorem spec_l11Template_c {o : Bool} {e : TypeId} {t : PTemp} {v : Value} {F : List Nat} {g f : Nat} (w : World) (c0 : w.cell? ⟨g, f, none⟩ = some (.string t.label)) (c1 : w.cell? ⟨g, f + 1, none⟩ = some v) (h : (pFeats e).rep o w t.feats [v] F) (hx : t.feats.length ≤ 1048576) (hl : t.label.size ≤ 1048576) :
 Calls Tryz.prog 172 #[.pointer (some ⟨g, f, none⟩)] w fun e w' => e = .returned (.bool (tempB t)) ∧ Below w.heap.size w w' := by
 have C1 := Lib.hid (fun w' => spec_IsLabel_c t.label w' hl)
 have C2 := Lib.hid (spec_l09Ok_c w h hx)
 unfold tempB
 generalize labelB t.label = d1 at C1 ⊢
 generalize featsB t.feats = d2 at C2 ⊢
 obtain ⟨A, c, rfl⟩ := slice_len h
 clear h
 cases d1
 · go_enter Tryz.func172, Tryz.ntmps172
   go_wp2_with fail
   refine (C1.out _).mono ?_
   rintro e w1 ⟨rfl, rfl⟩
   go_wp2_with fail
   go_ret
   exact ⟨rfl, Below.refl _ _⟩
 · go_enter Tryz.func172, Tryz.ntmps172
   go_wp2_with fail
   refine (C1.out _).mono ?_
   rintro e w1 ⟨rfl, rfl⟩
   go_wp2_with fail
   refine C2.out.mono ?_
   rintro e w2 ⟨rfl, b2⟩
   go_wp2_with fail
   go_ret
   exact ⟨rfl, b2⟩
set_option maxRecDepth 100000 in
set_option maxHeartbeats 1000000 in
theorem spec_l11Ok_c {o : Bool} {pe e : TypeId} {p : PSetup} {v : Value} {F : List Nat} {g f : Nat} (w : World) (hg : g < w.heap.size) (c0 : w.cell? ⟨g, f, none⟩ = some (.int .i64 p.band)) (c1 : w.cell? ⟨g, f + 1, none⟩ = some v) (h : (pTemps pe e).rep o w p.temps [v] F) (hp : SeSmall p) (hbt : SeBytes p) :
 Calls Tryz.prog 107 #[.pointer (some ⟨g, f, none⟩)] w fun e w' => e = .returned (.bool (storeB p)) ∧ Below w.heap.size w w' := by
 obtain ⟨A, c, rfl, hc1, hc2, hr⟩ := pTemps_open h
 clear h
 have hx := hp.t
 go_enter Tryz.func107, Tryz.ntmps107
 go_wp2_with fail
 go_loopw [3] (fun i wr => ∃ k : Nat, k ≤ p.temps.length ∧ i = .int .i64 k ∧ Hid ((p.temps.take k).all tempB = true) ∧ Below w.heap.size w wr) (fun i _ => p.temps.length - (intOf i).toNat)
 case atStart => exact ⟨0, Nat.zero_le _, rfl, rfl, Below.refl _ _⟩
 case round =>
  obtain ⟨k, hk, rfl, hok, hb⟩ := hrel
  have hbs := hb.size
  rw [← hb.cell (p := ⟨g, _, none⟩) hg] at c0 c1
  by_cases hlt : k < p.temps.length
  · obtain ⟨b, off, u, Fk, rfl, hbb, _, hls, hrk, _, h0, h1⟩ := hr k hlt
    rw [← hb.cell (p := ⟨b, _, none⟩) hbb] at h0 h1
    have HC := Lib.hid (spec_l11Template_c wr h0 h1 (hrk.below hb) (hp.f _ (List.getElem_mem hlt)) (hbt.t _ (List.getElem_mem hlt)))
    have hst : (p.temps.take (k + 1)).all tempB = ((p.temps.take k).all tempB && tempB p.temps[k]) := by rw [List.take_succ_eq_append_getElem hlt, List.all_append]; simp
    have hin : tempB p.temps[k] = false → storeB p = false := fun h => by
     have : p.temps.all tempB = false := by rw [Bool.eq_false_iff]; intro h2; rw [List.all_eq_true.1 h2 _ (List.getElem_mem hlt)] at h; cases h
     simp [storeB, this]
    have HST := Lib.hid hst
    have HIN := Lib.hid hin
    clear hr hst hin hrk h0 h1
    generalize tempB p.temps[k] = d at HC HST HIN
    cases d
    · have HF := Lib.hid (HIN.out rfl)
      go_wp2_with fail
      refine HC.out.mono ?_
      rintro e w1 ⟨rfl, b1⟩
      go_wp2_with fail
      go_ret
      exact ⟨ret_boolI HF.out.symm, hb.trans (b1.mono hbs)⟩
    · go_wp2_with fail
      refine HC.out.mono ?_
      rintro e w1 ⟨rfl, b1⟩
      go_wp2_with fail
      go_roundw
      case rel => exact ⟨k + 1, by omega, by go_num, by show _ = _; rw [HST.out, hok.out]; rfl, hb.trans (b1.mono hbs)⟩
      case measure => simp [intOf]; omega
  · obtain rfl : k = p.temps.length := by omega
    have hall := hok.out
    rw [List.take_length] at hall
    have HQ := Lib.hid (spec_inR_c p.band 0 72)
    have HF : Hid (storeB p = (inR p.band 0 72 && decide (p.temps.length ≤ 40))) := by
     show _ = _
     rw [storeB, hall, Bool.true_and]
    generalize inR p.band 0 72 = d at HQ HF
    clear hall hr
    cases d
    · have HF2 := Lib.hid (HF.out.trans rfl)
      go_wp2_with fail
      refine (HQ.out _).mono ?_
      rintro e w1 ⟨rfl, rfl⟩
      go_wp2_with fail
      go_ret
      exact ⟨ret_boolI (by rw [HF.out]; rfl), hb⟩
    · by_cases h40 : p.temps.length ≤ 40
      · have g4 : ((p.temps.length : Int) ≤ 40) = True := eq_true (by omega)
        have HF2 : Hid (storeB p = true) := by show _ = _; rw [HF.out]; simp [h40]
        clear h40
        go_wp2_with fail
        refine (HQ.out _).mono ?_
        rintro e w1 ⟨rfl, rfl⟩
        go_wp2_with fail
        go_ret
        exact ⟨ret_boolI HF2.out.symm, hb⟩
      · have g4 : ((p.temps.length : Int) ≤ 40) = False := eq_false (by omega)
        have HF2 : Hid (storeB p = false) := by show _ = _; rw [HF.out]; simp [h40]
        clear h40
        go_wp2_with fail
        refine (HQ.out _).mono ?_
        rintro e w1 ⟨rfl, rfl⟩
        go_wp2_with fail
        go_ret
        exact ⟨ret_boolI HF2.out.symm, hb⟩
set_option maxHeartbeats 400000 in
theorem spec_l13Setting_c (s : PSetting) {g f : Nat} (w : World) (c0 : w.cell? ⟨g, f, none⟩ = some (.int .i64 s.points)) (c1 : w.cell? ⟨g, f + 1, none⟩ = some (.int .i64 s.most)) (c2 : w.cell? ⟨g, f + 2, none⟩ = some (.int .i64 s.pen)) :
 Calls Tryz.prog 108 #[.pointer (some ⟨g, f, none⟩)] w fun e w' => e = .returned (.bool (settingB s)) ∧ w' = w := by
 have H0 := Lib.hid (spec_inR_c s.points 2 24)
 have H1 := Lib.hid (spec_inR_c s.most 1 8)
 have H2 := Lib.hid (spec_inR_c s.pen 0 1000)
 unfold settingB
 generalize inR s.points 2 24 = d0 at H0 ⊢
 generalize inR s.most 1 8 = d1 at H1 ⊢
 generalize inR s.pen 0 1000 = d2 at H2 ⊢
 cases d0 <;> cases d1
 all_goals
  go_enter Tryz.func108, Tryz.ntmps108
  go_wp2_with (first | (go_at_call_of 111 (Value.int .i64 s.points); refine (H0.out _).mono ?_; rintro e w1 ⟨rfl, rfl⟩) | (go_at_call_of 111 (Value.int .i64 s.most); refine (H1.out _).mono ?_; rintro e w1 ⟨rfl, rfl⟩) | (go_at_call_of 111 (Value.int .i64 s.pen); refine (H2.out _).mono ?_; rintro e w1 ⟨rfl, rfl⟩))
  go_ret
  exact ⟨rfl, rfl⟩
theorem spec_cost_c (n : Int) (w : World) : Calls Tryz.prog 111 #[.int .i64 n, .int .i64 0, .int .i64 1000000] w fun e w' => e = .returned (.bool (costB n)) ∧ w' = w :=
 (spec_inR_c n 0 1000000 w).mono fun _ _ ⟨h1, h2⟩ => ⟨h1, h2.symm⟩
theorem spec_word_c (s : ByteArray) (hs : s.size ≤ 1048576) (w : World) : Calls Tryz.prog 173 #[.string s] w fun e w' => e = .returned (.bool (isWordB s)) ∧ w' = w :=
 (spec_IsWord_c s hs w).mono fun _ _ ⟨h1, h2⟩ => ⟨h1, h2.symm⟩
set_option maxRecDepth 100000 in
set_option maxHeartbeats 4000000 in
theorem spec_l16Ok_c {o : Bool} {e : TypeId} {xs : List PEntry} {v : Value} {F : List Nat} {g f : Nat} (w : World) (c0 : w.cell? ⟨g, f, none⟩ = some v) (h : (pEntrys e).rep o w xs [v] F) (hx : xs.length ≤ 1048576) (hs : ∀ l ∈ xs, l.word.size ≤ 1048576) :
 Calls Tryz.prog 109 #[.pointer (some ⟨g, f, none⟩)] w (GivesB (lexB xs) w) := by
 obtain ⟨A, c, rfl, hc1, hc2, hr⟩ := pEntrys_open h
 clear h
 go_enter Tryz.func109, Tryz.ntmps109
 go_wp2_with fail
 go_loopw [3] (fun i wr => ∃ k : Nat, k ≤ xs.length ∧ i = .int .i64 k ∧ Hid (entsOk xs k = true) ∧ ∃ m, wr = w.drewN m) (fun i _ => xs.length - (intOf i).toNat)
 case atStart => exact ⟨0, Nat.zero_le _, rfl, rfl, 0, rfl⟩
 case round =>
  obtain ⟨k, hk, rfl, hok, m, rfl⟩ := hrel
  by_cases hlt : k < xs.length
  · obtain ⟨b, off, rfl, hbb, _, h0, h1, _⟩ := hr k hlt
    have HW := Lib.hid (spec_word_c xs[k].word (hs _ (List.getElem_mem hlt)))
    have HQ := Lib.hid (spec_cost_c xs[k].cost)
    have he : entOk xs k = (isWordB xs[k].word && (costB xs[k].cost && (decide (k = 0) || bLess (entAt xs (k - 1)).word xs[k].word))) := by rw [entOk, entAt_get hlt]
    have hs1 : entsOk xs (k + 1) = (entsOk xs k && entOk xs k) := rfl
    cases hw : isWordB xs[k].word
    · have HF := Lib.hid (lexB_false hlt (by rw [he, hw]; rfl))
      simp only [hw] at HW
      clear hr hw he hs1
      go_wp2_with fail
      have hS : (fun w' : World => w'.cell? ⟨b, off + k * 2, none⟩ = some (.string xs[k].word) ∧ w'.cell? ⟨b, off + k * 2 + 1, none⟩ = some (.int .i64 xs[k].cost) ∧ w'.cell? ⟨g, f, none⟩ = some (.slice (some ⟨b, off, none⟩) xs.length c)) (w.drewN m).drew := ⟨h0, h1, c0⟩
      dsimp only at hS
      refine wp_region_held_drew (S := (fun w' : World => w'.cell? ⟨b, off + k * 2, none⟩ = some (.string xs[k].word) ∧ w'.cell? ⟨b, off + k * 2 + 1, none⟩ = some (.int .i64 xs[k].cost) ∧ w'.cell? ⟨g, f, none⟩ = some (.slice (some ⟨b, off, none⟩) xs.length c))) (by kernel_rfl) hS (fun _ => ?_)
      refine tK (i := 0) (oi := zo109_5_0) (v := ?_) rfl (by kernel_rfl) (fun _ _ _ h => h) (Or.inl ⟨rfl, ?_⟩) hS ?_
      rotate_left
      · (intro w' hS'; (try dsimp only at hS'); dsimp only [zo109_5_0]; go_simp; try with_reducible rfl)
      simp only [Act.put, pA, pB, pC]
      refine tK (i := 1) (oi := zo109_5_1) (v := ?_) rfl (by kernel_rfl) (fun _ _ _ h => h) (Or.inl ⟨rfl, ?_⟩) hS ?_
      rotate_left
      · (intro w' hS'; (try dsimp only at hS'); dsimp only [zo109_5_1]; go_simp; try with_reducible rfl)
      simp only [Act.put, pA, pB, pC]
      refine tK (i := 2) (oi := zo109_5_2) (v := ?_) rfl (by kernel_rfl) (fun _ _ _ h => h) (Or.inl ⟨rfl, ?_⟩) hS ?_
      rotate_left
      · (intro w' hS'; (try dsimp only at hS'); dsimp only [zo109_5_2]; go_simp; try with_reducible rfl)
      simp only [Act.put, pA, pB, pC]
      refine tK (i := 3) (oi := zo109_5_3) (v := ?_) rfl (by kernel_rfl) (fun _ _ _ h => h) (Or.inl ⟨rfl, ?_⟩) hS ?_
      rotate_left
      · (intro w' hS'; (try dsimp only at hS'); dsimp only [zo109_5_3]; go_simp; try with_reducible rfl)
      simp only [Act.put, pA, pB, pC]
      refine take_call (i := 4) (oi := zo109_5_4) rfl (by kernel_rfl) (by kernel_rfl) (by kernel_rfl) (fun _ _ _ h => h) 173 #[.tmp 23] _ rfl rfl #[.string xs[k].word] Tryz.call173 (by go_simp) (fun w => HW.out w) hS ?_
      simp only [Act.put, pA, pB, pC]
      refine tK (i := 5) (oi := zo109_5_5) (v := ?_) rfl (by kernel_rfl) (fun _ _ _ h => h) (Or.inl ⟨rfl, ?_⟩) hS ?_
      rotate_left
      · (intro w' hS'; (try dsimp only at hS'); dsimp only [zo109_5_5]; go_simp; try with_reducible rfl)
      simp only [Act.put, pA, pB, pC]
      refine tK (i := 6) (oi := zo109_5_6) (v := ?_) rfl (by kernel_rfl) (fun _ _ _ h => h) (Or.inl ⟨rfl, ?_⟩) hS ?_
      rotate_left
      · (intro w' hS'; (try dsimp only at hS'); dsimp only [zo109_5_6]; go_simp; try with_reducible rfl)
      simp only [Act.put, pA, pB, pC]
      refine tK (i := 7) (oi := zo109_5_7) rfl (by kernel_rfl) (fun _ _ _ h => h) (Or.inr ⟨rfl, rfl⟩) hS ?_
      simp only [Act.put, pA, pB, pC]
      refine tK (i := 8) (oi := zo109_5_8) rfl (by kernel_rfl) (fun _ _ _ h => h) (Or.inr ⟨rfl, rfl⟩) hS ?_
      simp only [Act.put, pA, pB, pC]
      refine tK (i := 9) (oi := zo109_5_9) rfl (by kernel_rfl) (fun _ _ _ h => h) (Or.inr ⟨rfl, rfl⟩) hS ?_
      simp only [Act.put, pA, pB, pC]
      refine tK (i := 10) (oi := zo109_5_10) rfl (by kernel_rfl) (fun _ _ _ h => h) (Or.inr ⟨rfl, rfl⟩) hS ?_
      simp only [Act.put, pA, pB, pC]
      refine tK (i := 11) (oi := zo109_5_11) rfl (by kernel_rfl) (fun _ _ _ h => h) (Or.inr ⟨rfl, rfl⟩) hS ?_
      simp only [Act.put, pA, pB, pC]
      refine tK (i := 12) (oi := zo109_5_12) rfl (by kernel_rfl) (fun _ _ _ h => h) (Or.inr ⟨rfl, rfl⟩) hS ?_
      simp only [Act.put, pA, pB, pC]
      refine tK (i := 13) (oi := zo109_5_13) (v := ?_) rfl (by kernel_rfl) (fun _ _ _ h => h) (Or.inl ⟨rfl, ?_⟩) hS ?_
      rotate_left
      · (intro w' hS'; (try dsimp only at hS'); dsimp only [zo109_5_13]; go_simp; try with_reducible rfl)
      simp only [Act.put, pA, pB, pC]
      refine tK (i := 14) (oi := zo109_5_14) (v := ?_) rfl (by kernel_rfl) (fun _ _ _ h => h) (Or.inl ⟨rfl, ?_⟩) hS ?_
      rotate_left
      · (intro w' hS'; (try dsimp only at hS'); dsimp only [zo109_5_14]; go_simp; try with_reducible rfl)
      simp only [Act.put, pA, pB, pC]
      refine tK (i := 15) (oi := zo109_5_15) rfl (by kernel_rfl) (fun _ _ _ h => h) (Or.inr ⟨rfl, rfl⟩) hS ?_
      simp only [Act.put, pA, pB, pC]
      refine tK (i := 16) (oi := zo109_5_16) rfl (by kernel_rfl) (fun _ _ _ h => h) (Or.inr ⟨rfl, rfl⟩) hS ?_
      simp only [Act.put, pA, pB, pC]
      refine tK (i := 17) (oi := zo109_5_17) rfl (by kernel_rfl) (fun _ _ _ h => h) (Or.inr ⟨rfl, rfl⟩) hS ?_
      simp only [Act.put, pA, pB, pC]
      refine tK (i := 18) (oi := zo109_5_18) rfl (by kernel_rfl) (fun _ _ _ h => h) (Or.inr ⟨rfl, rfl⟩) hS ?_
      simp only [Act.put, pA, pB, pC]
      refine tK (i := 19) (oi := zo109_5_19) rfl (by kernel_rfl) (fun _ _ _ h => h) (Or.inr ⟨rfl, rfl⟩) hS ?_
      simp only [Act.put, pA, pB, pC]
      refine tK (i := 20) (oi := zo109_5_20) rfl (by kernel_rfl) (fun _ _ _ h => h) (Or.inr ⟨rfl, rfl⟩) hS ?_
      simp only [Act.put, pA, pB, pC]
      refine tK (i := 21) (oi := zo109_5_21) rfl (by kernel_rfl) (fun _ _ _ h => h) (Or.inr ⟨rfl, rfl⟩) hS ?_
      simp only [Act.put, pA, pB, pC]
      refine tK (i := 22) (oi := zo109_5_22) rfl (by kernel_rfl) (fun _ _ _ h => h) (Or.inr ⟨rfl, rfl⟩) hS ?_
      simp only [Act.put, pA, pB, pC]
      refine tK (i := 23) (oi := zo109_5_23) rfl (by kernel_rfl) (fun _ _ _ h => h) (Or.inr ⟨rfl, rfl⟩) hS ?_
      simp only [Act.put, pA, pB, pC]
      refine tK (i := 24) (oi := zo109_5_24) rfl (by kernel_rfl) (fun _ _ _ h => h) (Or.inr ⟨rfl, rfl⟩) hS ?_
      simp only [Act.put, pA, pB, pC]
      refine tK (i := 25) (oi := zo109_5_25) rfl (by kernel_rfl) (fun _ _ _ h => h) (Or.inr ⟨rfl, rfl⟩) hS ?_
      simp only [Act.put, pA, pB, pC]
      refine tK (i := 26) (oi := zo109_5_26) rfl (by kernel_rfl) (fun _ _ _ h => h) (Or.inr ⟨rfl, rfl⟩) hS ?_
      simp only [Act.put, pA, pB, pC]
      refine tK (i := 27) (oi := zo109_5_27) rfl (by kernel_rfl) (fun _ _ _ h => h) (Or.inr ⟨rfl, rfl⟩) hS ?_
      simp only [Act.put, pA, pB, pC]
      refine tK (i := 28) (oi := zo109_5_28) rfl (by kernel_rfl) (fun _ _ _ h => h) (Or.inr ⟨rfl, rfl⟩) hS ?_
      simp only [Act.put, pA, pB, pC]
      refine tK (i := 29) (oi := zo109_5_29) rfl (by kernel_rfl) (fun _ _ _ h => h) (Or.inr ⟨rfl, rfl⟩) hS ?_
      simp only [Act.put, pA, pB, pC]
      refine tK (i := 30) (oi := zo109_5_30) rfl (by kernel_rfl) (fun _ _ _ h => h) (Or.inr ⟨rfl, rfl⟩) hS ?_
      simp only [Act.put, pA, pB, pC]
      refine tK (i := 31) (oi := zo109_5_31) rfl (by kernel_rfl) (fun _ _ _ h => h) (Or.inr ⟨rfl, rfl⟩) hS ?_
      simp only [Act.put, pA, pB, pC]
      refine tK (i := 32) (oi := zo109_5_32) rfl (by kernel_rfl) (fun _ _ _ h => h) (Or.inr ⟨rfl, rfl⟩) hS ?_
      simp only [Act.put, pA, pB, pC]
      refine tK (i := 33) (oi := zo109_5_33) (v := ?_) rfl (by kernel_rfl) (fun _ _ _ h => h) (Or.inl ⟨rfl, ?_⟩) hS ?_
      rotate_left
      · (intro w' hS'; (try dsimp only at hS'); dsimp only [zo109_5_33]; go_simp; try with_reducible rfl)
      simp only [Act.put, pA, pB, pC]
      refine wpAnyH_done (by kernel_rfl) ?_ _
      go_wp2_with fail
      go_ret
      exact ⟨ret_boolI HF.out.symm, _, by first | rfl | exact World.drewN_drewN _ _ _⟩
    · simp only [hw] at HW
      cases hq : costB xs[k].cost
      · have HF := Lib.hid (lexB_false hlt (by rw [he, hw, hq]; rfl))
        simp only [hq] at HQ
        clear hr hw he hs1 hq
        go_wp2_with fail
        have hS : (fun w' : World => w'.cell? ⟨b, off + k * 2, none⟩ = some (.string xs[k].word) ∧ w'.cell? ⟨b, off + k * 2 + 1, none⟩ = some (.int .i64 xs[k].cost) ∧ w'.cell? ⟨g, f, none⟩ = some (.slice (some ⟨b, off, none⟩) xs.length c)) (w.drewN m).drew := ⟨h0, h1, c0⟩
        dsimp only at hS
        refine wp_region_held_drew (S := (fun w' : World => w'.cell? ⟨b, off + k * 2, none⟩ = some (.string xs[k].word) ∧ w'.cell? ⟨b, off + k * 2 + 1, none⟩ = some (.int .i64 xs[k].cost) ∧ w'.cell? ⟨g, f, none⟩ = some (.slice (some ⟨b, off, none⟩) xs.length c))) (by kernel_rfl) hS (fun _ => ?_)
        refine tK (i := 0) (oi := zo109_5_0) (v := ?_) rfl (by kernel_rfl) (fun _ _ _ h => h) (Or.inl ⟨rfl, ?_⟩) hS ?_
        rotate_left
        · (intro w' hS'; (try dsimp only at hS'); dsimp only [zo109_5_0]; go_simp; try with_reducible rfl)
        simp only [Act.put, pA, pB, pC]
        refine tK (i := 1) (oi := zo109_5_1) (v := ?_) rfl (by kernel_rfl) (fun _ _ _ h => h) (Or.inl ⟨rfl, ?_⟩) hS ?_
        rotate_left
        · (intro w' hS'; (try dsimp only at hS'); dsimp only [zo109_5_1]; go_simp; try with_reducible rfl)
        simp only [Act.put, pA, pB, pC]
        refine tK (i := 2) (oi := zo109_5_2) (v := ?_) rfl (by kernel_rfl) (fun _ _ _ h => h) (Or.inl ⟨rfl, ?_⟩) hS ?_
        rotate_left
        · (intro w' hS'; (try dsimp only at hS'); dsimp only [zo109_5_2]; go_simp; try with_reducible rfl)
        simp only [Act.put, pA, pB, pC]
        refine tK (i := 3) (oi := zo109_5_3) (v := ?_) rfl (by kernel_rfl) (fun _ _ _ h => h) (Or.inl ⟨rfl, ?_⟩) hS ?_
        rotate_left
        · (intro w' hS'; (try dsimp only at hS'); dsimp only [zo109_5_3]; go_simp; try with_reducible rfl)
        simp only [Act.put, pA, pB, pC]
        refine take_call (i := 4) (oi := zo109_5_4) rfl (by kernel_rfl) (by kernel_rfl) (by kernel_rfl) (fun _ _ _ h => h) 173 #[.tmp 23] _ rfl rfl #[.string xs[k].word] Tryz.call173 (by go_simp) (fun w => HW.out w) hS ?_
        simp only [Act.put, pA, pB, pC]
        refine tK (i := 5) (oi := zo109_5_5) (v := ?_) rfl (by kernel_rfl) (fun _ _ _ h => h) (Or.inl ⟨rfl, ?_⟩) hS ?_
        rotate_left
        · (intro w' hS'; (try dsimp only at hS'); dsimp only [zo109_5_5]; go_simp; try with_reducible rfl)
        simp only [Act.put, pA, pB, pC]
        refine tK (i := 6) (oi := zo109_5_6) (v := ?_) rfl (by kernel_rfl) (fun _ _ _ h => h) (Or.inl ⟨rfl, ?_⟩) hS ?_
        rotate_left
        · (intro w' hS'; (try dsimp only at hS'); dsimp only [zo109_5_6]; go_simp; try with_reducible rfl)
        simp only [Act.put, pA, pB, pC]
        refine tK (i := 7) (oi := zo109_5_7) (v := ?_) rfl (by kernel_rfl) (fun _ _ _ h => h) (Or.inl ⟨rfl, ?_⟩) hS ?_
        rotate_left
        · (intro w' hS'; (try dsimp only at hS'); dsimp only [zo109_5_7]; go_simp; try with_reducible rfl)
        simp only [Act.put, pA, pB, pC]
        refine tK (i := 8) (oi := zo109_5_8) (v := ?_) rfl (by kernel_rfl) (fun _ _ _ h => h) (Or.inl ⟨rfl, ?_⟩) hS ?_
        rotate_left
        · (intro w' hS'; (try dsimp only at hS'); dsimp only [zo109_5_8]; go_simp; try with_reducible rfl)
        simp only [Act.put, pA, pB, pC]
        refine tK (i := 9) (oi := zo109_5_9) (v := ?_) rfl (by kernel_rfl) (fun _ _ _ h => h) (Or.inl ⟨rfl, ?_⟩) hS ?_
        rotate_left
        · (intro w' hS'; (try dsimp only at hS'); dsimp only [zo109_5_9]; go_simp; try with_reducible rfl)
        simp only [Act.put, pA, pB, pC]
        refine tK (i := 10) (oi := zo109_5_10) (v := ?_) rfl (by kernel_rfl) (fun _ _ _ h => h) (Or.inl ⟨rfl, ?_⟩) hS ?_
        rotate_left
        · (intro w' hS'; (try dsimp only at hS'); dsimp only [zo109_5_10]; go_simp; try with_reducible rfl)
        simp only [Act.put, pA, pB, pC]
        refine take_call (i := 11) (oi := zo109_5_11) rfl (by kernel_rfl) (by kernel_rfl) (by kernel_rfl) (fun _ _ _ h => h) 111 #[.tmp 30, .const (.int .i64 0), .const (.int .i64 1000000)] _ rfl rfl #[.int .i64 xs[k].cost, .int .i64 0, .int .i64 1000000] Tryz.call111 (by go_simp) (fun w => HQ.out w) hS ?_
        simp only [Act.put, pA, pB, pC]
        refine tK (i := 12) (oi := zo109_5_12) (v := ?_) rfl (by kernel_rfl) (fun _ _ _ h => h) (Or.inl ⟨rfl, ?_⟩) hS ?_
        rotate_left
        · (intro w' hS'; (try dsimp only at hS'); dsimp only [zo109_5_12]; go_simp; try with_reducible rfl)
        simp only [Act.put, pA, pB, pC]
        refine tK (i := 13) (oi := zo109_5_13) (v := ?_) rfl (by kernel_rfl) (fun _ _ _ h => h) (Or.inl ⟨rfl, ?_⟩) hS ?_
        rotate_left
        · (intro w' hS'; (try dsimp only at hS'); dsimp only [zo109_5_13]; go_simp; try with_reducible rfl)
        simp only [Act.put, pA, pB, pC]
        refine tK (i := 14) (oi := zo109_5_14) (v := ?_) rfl (by kernel_rfl) (fun _ _ _ h => h) (Or.inl ⟨rfl, ?_⟩) hS ?_
        rotate_left
        · (intro w' hS'; (try dsimp only at hS'); dsimp only [zo109_5_14]; go_simp; try with_reducible rfl)
        simp only [Act.put, pA, pB, pC]
        refine tK (i := 15) (oi := zo109_5_15) rfl (by kernel_rfl) (fun _ _ _ h => h) (Or.inr ⟨rfl, rfl⟩) hS ?_
        simp only [Act.put, pA, pB, pC]
        refine tK (i := 16) (oi := zo109_5_16) rfl (by kernel_rfl) (fun _ _ _ h => h) (Or.inr ⟨rfl, rfl⟩) hS ?_
        simp only [Act.put, pA, pB, pC]
        refine tK (i := 17) (oi := zo109_5_17) rfl (by kernel_rfl) (fun _ _ _ h => h) (Or.inr ⟨rfl, rfl⟩) hS ?_
        simp only [Act.put, pA, pB, pC]
        refine tK (i := 18) (oi := zo109_5_18) rfl (by kernel_rfl) (fun _ _ _ h => h) (Or.inr ⟨rfl, rfl⟩) hS ?_
        simp only [Act.put, pA, pB, pC]
        refine tK (i := 19) (oi := zo109_5_19) rfl (by kernel_rfl) (fun _ _ _ h => h) (Or.inr ⟨rfl, rfl⟩) hS ?_
        simp only [Act.put, pA, pB, pC]
        refine tK (i := 20) (oi := zo109_5_20) rfl (by kernel_rfl) (fun _ _ _ h => h) (Or.inr ⟨rfl, rfl⟩) hS ?_
        simp only [Act.put, pA, pB, pC]
        refine tK (i := 21) (oi := zo109_5_21) rfl (by kernel_rfl) (fun _ _ _ h => h) (Or.inr ⟨rfl, rfl⟩) hS ?_
        simp only [Act.put, pA, pB, pC]
        refine tK (i := 22) (oi := zo109_5_22) rfl (by kernel_rfl) (fun _ _ _ h => h) (Or.inr ⟨rfl, rfl⟩) hS ?_
        simp only [Act.put, pA, pB, pC]
        refine tK (i := 23) (oi := zo109_5_23) rfl (by kernel_rfl) (fun _ _ _ h => h) (Or.inr ⟨rfl, rfl⟩) hS ?_
        simp only [Act.put, pA, pB, pC]
        refine tK (i := 24) (oi := zo109_5_24) rfl (by kernel_rfl) (fun _ _ _ h => h) (Or.inr ⟨rfl, rfl⟩) hS ?_
        simp only [Act.put, pA, pB, pC]
        refine tK (i := 25) (oi := zo109_5_25) rfl (by kernel_rfl) (fun _ _ _ h => h) (Or.inr ⟨rfl, rfl⟩) hS ?_
        simp only [Act.put, pA, pB, pC]
        refine tK (i := 26) (oi := zo109_5_26) rfl (by kernel_rfl) (fun _ _ _ h => h) (Or.inr ⟨rfl, rfl⟩) hS ?_
        simp only [Act.put, pA, pB, pC]
        refine tK (i := 27) (oi := zo109_5_27) rfl (by kernel_rfl) (fun _ _ _ h => h) (Or.inr ⟨rfl, rfl⟩) hS ?_
        simp only [Act.put, pA, pB, pC]
        refine tK (i := 28) (oi := zo109_5_28) rfl (by kernel_rfl) (fun _ _ _ h => h) (Or.inr ⟨rfl, rfl⟩) hS ?_
        simp only [Act.put, pA, pB, pC]
        refine tK (i := 29) (oi := zo109_5_29) rfl (by kernel_rfl) (fun _ _ _ h => h) (Or.inr ⟨rfl, rfl⟩) hS ?_
        simp only [Act.put, pA, pB, pC]
        refine tK (i := 30) (oi := zo109_5_30) rfl (by kernel_rfl) (fun _ _ _ h => h) (Or.inr ⟨rfl, rfl⟩) hS ?_
        simp only [Act.put, pA, pB, pC]
        refine tK (i := 31) (oi := zo109_5_31) rfl (by kernel_rfl) (fun _ _ _ h => h) (Or.inr ⟨rfl, rfl⟩) hS ?_
        simp only [Act.put, pA, pB, pC]
        refine tK (i := 32) (oi := zo109_5_32) rfl (by kernel_rfl) (fun _ _ _ h => h) (Or.inr ⟨rfl, rfl⟩) hS ?_
        simp only [Act.put, pA, pB, pC]
        refine tK (i := 33) (oi := zo109_5_33) (v := ?_) rfl (by kernel_rfl) (fun _ _ _ h => h) (Or.inl ⟨rfl, ?_⟩) hS ?_
        rotate_left
        · (intro w' hS'; (try dsimp only at hS'); dsimp only [zo109_5_33]; go_simp; try with_reducible rfl)
        simp only [Act.put, pA, pB, pC]
        refine wpAnyH_done (by kernel_rfl) ?_ _
        go_wp2_with fail
        go_ret
        exact ⟨ret_boolI HF.out.symm, _, by first | rfl | exact World.drewN_drewN _ _ _⟩
      · simp only [hq] at HQ
        by_cases hz : k = 0
        · have HK : Hid (entsOk xs (k + 1) = true) := by show _ = _; rw [hs1, hok.out, he, hw, hq]; simp [hz]
          have g0 : (0 < k) = False := eq_false (by omega)
          clear hr hz hw he hs1 hq
          go_wp2_with fail
          have hS : (fun w' : World => w'.cell? ⟨b, off + k * 2, none⟩ = some (.string xs[k].word) ∧ w'.cell? ⟨b, off + k * 2 + 1, none⟩ = some (.int .i64 xs[k].cost) ∧ w'.cell? ⟨g, f, none⟩ = some (.slice (some ⟨b, off, none⟩) xs.length c)) (w.drewN m).drew := ⟨h0, h1, c0⟩
          dsimp only at hS
          refine wp_region_held_drew (S := (fun w' : World => w'.cell? ⟨b, off + k * 2, none⟩ = some (.string xs[k].word) ∧ w'.cell? ⟨b, off + k * 2 + 1, none⟩ = some (.int .i64 xs[k].cost) ∧ w'.cell? ⟨g, f, none⟩ = some (.slice (some ⟨b, off, none⟩) xs.length c))) (by kernel_rfl) hS (fun _ => ?_)
          refine tK (i := 0) (oi := zo109_5_0) (v := ?_) rfl (by kernel_rfl) (fun _ _ _ h => h) (Or.inl ⟨rfl, ?_⟩) hS ?_
          rotate_left
          · (intro w' hS'; (try dsimp only at hS'); dsimp only [zo109_5_0]; go_simp; try with_reducible rfl)
          simp only [Act.put, pA, pB, pC]
          refine tK (i := 1) (oi := zo109_5_1) (v := ?_) rfl (by kernel_rfl) (fun _ _ _ h => h) (Or.inl ⟨rfl, ?_⟩) hS ?_
          rotate_left
          · (intro w' hS'; (try dsimp only at hS'); dsimp only [zo109_5_1]; go_simp; try with_reducible rfl)
          simp only [Act.put, pA, pB, pC]
          refine tK (i := 2) (oi := zo109_5_2) (v := ?_) rfl (by kernel_rfl) (fun _ _ _ h => h) (Or.inl ⟨rfl, ?_⟩) hS ?_
          rotate_left
          · (intro w' hS'; (try dsimp only at hS'); dsimp only [zo109_5_2]; go_simp; try with_reducible rfl)
          simp only [Act.put, pA, pB, pC]
          refine tK (i := 3) (oi := zo109_5_3) (v := ?_) rfl (by kernel_rfl) (fun _ _ _ h => h) (Or.inl ⟨rfl, ?_⟩) hS ?_
          rotate_left
          · (intro w' hS'; (try dsimp only at hS'); dsimp only [zo109_5_3]; go_simp; try with_reducible rfl)
          simp only [Act.put, pA, pB, pC]
          refine take_call (i := 4) (oi := zo109_5_4) rfl (by kernel_rfl) (by kernel_rfl) (by kernel_rfl) (fun _ _ _ h => h) 173 #[.tmp 23] _ rfl rfl #[.string xs[k].word] Tryz.call173 (by go_simp) (fun w => HW.out w) hS ?_
          simp only [Act.put, pA, pB, pC]
          refine tK (i := 5) (oi := zo109_5_5) (v := ?_) rfl (by kernel_rfl) (fun _ _ _ h => h) (Or.inl ⟨rfl, ?_⟩) hS ?_
          rotate_left
          · (intro w' hS'; (try dsimp only at hS'); dsimp only [zo109_5_5]; go_simp; try with_reducible rfl)
          simp only [Act.put, pA, pB, pC]
          refine tK (i := 6) (oi := zo109_5_6) (v := ?_) rfl (by kernel_rfl) (fun _ _ _ h => h) (Or.inl ⟨rfl, ?_⟩) hS ?_
          rotate_left
          · (intro w' hS'; (try dsimp only at hS'); dsimp only [zo109_5_6]; go_simp; try with_reducible rfl)
          simp only [Act.put, pA, pB, pC]
          refine tK (i := 7) (oi := zo109_5_7) (v := ?_) rfl (by kernel_rfl) (fun _ _ _ h => h) (Or.inl ⟨rfl, ?_⟩) hS ?_
          rotate_left
          · (intro w' hS'; (try dsimp only at hS'); dsimp only [zo109_5_7]; go_simp; try with_reducible rfl)
          simp only [Act.put, pA, pB, pC]
          refine tK (i := 8) (oi := zo109_5_8) (v := ?_) rfl (by kernel_rfl) (fun _ _ _ h => h) (Or.inl ⟨rfl, ?_⟩) hS ?_
          rotate_left
          · (intro w' hS'; (try dsimp only at hS'); dsimp only [zo109_5_8]; go_simp; try with_reducible rfl)
          simp only [Act.put, pA, pB, pC]
          refine tK (i := 9) (oi := zo109_5_9) (v := ?_) rfl (by kernel_rfl) (fun _ _ _ h => h) (Or.inl ⟨rfl, ?_⟩) hS ?_
          rotate_left
          · (intro w' hS'; (try dsimp only at hS'); dsimp only [zo109_5_9]; go_simp; try with_reducible rfl)
          simp only [Act.put, pA, pB, pC]
          refine tK (i := 10) (oi := zo109_5_10) (v := ?_) rfl (by kernel_rfl) (fun _ _ _ h => h) (Or.inl ⟨rfl, ?_⟩) hS ?_
          rotate_left
          · (intro w' hS'; (try dsimp only at hS'); dsimp only [zo109_5_10]; go_simp; try with_reducible rfl)
          simp only [Act.put, pA, pB, pC]
          refine take_call (i := 11) (oi := zo109_5_11) rfl (by kernel_rfl) (by kernel_rfl) (by kernel_rfl) (fun _ _ _ h => h) 111 #[.tmp 30, .const (.int .i64 0), .const (.int .i64 1000000)] _ rfl rfl #[.int .i64 xs[k].cost, .int .i64 0, .int .i64 1000000] Tryz.call111 (by go_simp) (fun w => HQ.out w) hS ?_
          simp only [Act.put, pA, pB, pC]
          refine tK (i := 12) (oi := zo109_5_12) (v := ?_) rfl (by kernel_rfl) (fun _ _ _ h => h) (Or.inl ⟨rfl, ?_⟩) hS ?_
          rotate_left
          · (intro w' hS'; (try dsimp only at hS'); dsimp only [zo109_5_12]; go_simp; try with_reducible rfl)
          simp only [Act.put, pA, pB, pC]
          refine tK (i := 13) (oi := zo109_5_13) (v := ?_) rfl (by kernel_rfl) (fun _ _ _ h => h) (Or.inl ⟨rfl, ?_⟩) hS ?_
          rotate_left
          · (intro w' hS'; (try dsimp only at hS'); dsimp only [zo109_5_13]; go_simp; try with_reducible rfl)
          simp only [Act.put, pA, pB, pC]
          refine tK (i := 14) (oi := zo109_5_14) (v := ?_) rfl (by kernel_rfl) (fun _ _ _ h => h) (Or.inl ⟨rfl, ?_⟩) hS ?_
          rotate_left
          · (intro w' hS'; (try dsimp only at hS'); dsimp only [zo109_5_14]; go_simp; try with_reducible rfl)
          simp only [Act.put, pA, pB, pC]
          refine tK (i := 15) (oi := zo109_5_15) (v := ?_) rfl (by kernel_rfl) (fun _ _ _ h => h) (Or.inl ⟨rfl, ?_⟩) hS ?_
          rotate_left
          · (intro w' hS'; (try dsimp only at hS'); dsimp only [zo109_5_15]; go_simp; try with_reducible rfl)
          simp only [Act.put, pA, pB, pC]
          refine tK (i := 16) (oi := zo109_5_16) (v := ?_) rfl (by kernel_rfl) (fun _ _ _ h => h) (Or.inl ⟨rfl, ?_⟩) hS ?_
          rotate_left
          · (intro w' hS'; (try dsimp only at hS'); dsimp only [zo109_5_16]; go_simp; try with_reducible rfl)
          simp only [Act.put, pA, pB, pC]
          refine tK (i := 17) (oi := zo109_5_17) (v := ?_) rfl (by kernel_rfl) (fun _ _ _ h => h) (Or.inl ⟨rfl, ?_⟩) hS ?_
          rotate_left
          · (intro w' hS'; (try dsimp only at hS'); dsimp only [zo109_5_17]; go_simp; try with_reducible rfl)
          simp only [Act.put, pA, pB, pC]
          refine tK (i := 18) (oi := zo109_5_18) rfl (by kernel_rfl) (fun _ _ _ h => h) (Or.inr ⟨rfl, rfl⟩) hS ?_
          simp only [Act.put, pA, pB, pC]
          refine tK (i := 19) (oi := zo109_5_19) rfl (by kernel_rfl) (fun _ _ _ h => h) (Or.inr ⟨rfl, rfl⟩) hS ?_
          simp only [Act.put, pA, pB, pC]
          refine tK (i := 20) (oi := zo109_5_20) rfl (by kernel_rfl) (fun _ _ _ h => h) (Or.inr ⟨rfl, rfl⟩) hS ?_
          simp only [Act.put, pA, pB, pC]
          refine tK (i := 21) (oi := zo109_5_21) rfl (by kernel_rfl) (fun _ _ _ h => h) (Or.inr ⟨rfl, rfl⟩) hS ?_
          simp only [Act.put, pA, pB, pC]
          refine tK (i := 22) (oi := zo109_5_22) rfl (by kernel_rfl) (fun _ _ _ h => h) (Or.inr ⟨rfl, rfl⟩) hS ?_
          simp only [Act.put, pA, pB, pC]
          refine tK (i := 23) (oi := zo109_5_23) rfl (by kernel_rfl) (fun _ _ _ h => h) (Or.inr ⟨rfl, rfl⟩) hS ?_
          simp only [Act.put, pA, pB, pC]
          refine tK (i := 24) (oi := zo109_5_24) rfl (by kernel_rfl) (fun _ _ _ h => h) (Or.inr ⟨rfl, rfl⟩) hS ?_
          simp only [Act.put, pA, pB, pC]
          refine tK (i := 25) (oi := zo109_5_25) rfl (by kernel_rfl) (fun _ _ _ h => h) (Or.inr ⟨rfl, rfl⟩) hS ?_
          simp only [Act.put, pA, pB, pC]
          refine tK (i := 26) (oi := zo109_5_26) rfl (by kernel_rfl) (fun _ _ _ h => h) (Or.inr ⟨rfl, rfl⟩) hS ?_
          simp only [Act.put, pA, pB, pC]
          refine tK (i := 27) (oi := zo109_5_27) rfl (by kernel_rfl) (fun _ _ _ h => h) (Or.inr ⟨rfl, rfl⟩) hS ?_
          simp only [Act.put, pA, pB, pC]
          refine tK (i := 28) (oi := zo109_5_28) rfl (by kernel_rfl) (fun _ _ _ h => h) (Or.inr ⟨rfl, rfl⟩) hS ?_
          simp only [Act.put, pA, pB, pC]
          refine tK (i := 29) (oi := zo109_5_29) rfl (by kernel_rfl) (fun _ _ _ h => h) (Or.inr ⟨rfl, rfl⟩) hS ?_
          simp only [Act.put, pA, pB, pC]
          refine tK (i := 30) (oi := zo109_5_30) rfl (by kernel_rfl) (fun _ _ _ h => h) (Or.inr ⟨rfl, rfl⟩) hS ?_
          simp only [Act.put, pA, pB, pC]
          refine tK (i := 31) (oi := zo109_5_31) rfl (by kernel_rfl) (fun _ _ _ h => h) (Or.inr ⟨rfl, rfl⟩) hS ?_
          simp only [Act.put, pA, pB, pC]
          refine tK (i := 32) (oi := zo109_5_32) (v := ?_) rfl (by kernel_rfl) (fun _ _ _ h => h) (Or.inl ⟨rfl, ?_⟩) hS ?_
          rotate_left
          · (intro w' hS'; (try dsimp only at hS'); dsimp only [zo109_5_32]; go_simp; try with_reducible rfl)
          simp only [Act.put, pA, pB, pC]
          refine tK (i := 33) (oi := zo109_5_33) (v := ?_) rfl (by kernel_rfl) (fun _ _ _ h => h) (Or.inl ⟨rfl, ?_⟩) hS ?_
          rotate_left
          · (intro w' hS'; (try dsimp only at hS'); dsimp only [zo109_5_33]; go_simp; try with_reducible rfl)
          simp only [Act.put, pA, pB, pC]
          refine wpAnyH_done (by kernel_rfl) ?_ _
          go_wp2_with fail
          go_roundw
          case rel => exact ⟨k + 1, by omega, by go_num, HK, _, by first | rfl | exact World.drewN_drewN _ _ _⟩
          case measure => simp [intOf]; omega
        · obtain ⟨j, hj⟩ : ∃ j, k = j + 1 := ⟨k - 1, by omega⟩
          have jl : j < xs.length := by omega
          obtain ⟨b', off', e', hbb', _, h3, _⟩ := hr j jl
          injection e' with e'
          injection e' with e1 e2 _
          subst e1; subst e2
          have g0 : (0 < k) = True := eq_true (by omega)
          have gj : IntKind.i64.wrap ((k : Int) - 1) = (j : Int) := (IntWalk.i64_in _ (by omega)).trans (by omega)
          have jl' : (j : Int) < (xs.length : Int) := by omega
          have j0 : (0 : Int) ≤ (j : Int) := by omega
          have hen : entAt xs (k - 1) = xs[j] := by subst hj; exact entAt_get jl
          have hle := leq_iff xs[k].word xs[j].word
          have dk : decide (k = 0) = false := decide_eq_false hz
          rw [hen, hw, hq, dk] at he
          clear hr
          cases hlw : bLess xs[j].word xs[k].word
          · have HF := Lib.hid (lexB_false hlt (by rw [he, hlw]; rfl))
            rw [hlw] at hle
            have HJ := Lib.hid hj
            clear hj hz hw he hs1 hq hen dk hlw
            go_wp2_with fail
            have hS : (fun w' : World => w'.cell? ⟨b, off + k * 2, none⟩ = some (.string xs[k].word) ∧ w'.cell? ⟨b, off + k * 2 + 1, none⟩ = some (.int .i64 xs[k].cost) ∧ w'.cell? ⟨g, f, none⟩ = some (.slice (some ⟨b, off, none⟩) xs.length c) ∧ w'.cell? ⟨b, off + j * 2, none⟩ = some (.string xs[j].word)) (w.drewN m).drew := ⟨h0, h1, c0, h3⟩
            dsimp only at hS
            refine wp_region_held_drew (S := (fun w' : World => w'.cell? ⟨b, off + k * 2, none⟩ = some (.string xs[k].word) ∧ w'.cell? ⟨b, off + k * 2 + 1, none⟩ = some (.int .i64 xs[k].cost) ∧ w'.cell? ⟨g, f, none⟩ = some (.slice (some ⟨b, off, none⟩) xs.length c) ∧ w'.cell? ⟨b, off + j * 2, none⟩ = some (.string xs[j].word))) (by kernel_rfl) hS (fun _ => ?_)
            refine tK (i := 0) (oi := zo109_5_0) (v := ?_) rfl (by kernel_rfl) (fun _ _ _ h => h) (Or.inl ⟨rfl, ?_⟩) hS ?_
            rotate_left
            · (intro w' hS'; (try dsimp only at hS'); dsimp only [zo109_5_0]; go_simp; try with_reducible rfl)
            simp only [Act.put, pA, pB, pC]
            refine tK (i := 1) (oi := zo109_5_1) (v := ?_) rfl (by kernel_rfl) (fun _ _ _ h => h) (Or.inl ⟨rfl, ?_⟩) hS ?_
            rotate_left
            · (intro w' hS'; (try dsimp only at hS'); dsimp only [zo109_5_1]; go_simp; try with_reducible rfl)
            simp only [Act.put, pA, pB, pC]
            refine tK (i := 2) (oi := zo109_5_2) (v := ?_) rfl (by kernel_rfl) (fun _ _ _ h => h) (Or.inl ⟨rfl, ?_⟩) hS ?_
            rotate_left
            · (intro w' hS'; (try dsimp only at hS'); dsimp only [zo109_5_2]; go_simp; try with_reducible rfl)
            simp only [Act.put, pA, pB, pC]
            refine tK (i := 3) (oi := zo109_5_3) (v := ?_) rfl (by kernel_rfl) (fun _ _ _ h => h) (Or.inl ⟨rfl, ?_⟩) hS ?_
            rotate_left
            · (intro w' hS'; (try dsimp only at hS'); dsimp only [zo109_5_3]; go_simp; try with_reducible rfl)
            simp only [Act.put, pA, pB, pC]
            refine take_call (i := 4) (oi := zo109_5_4) rfl (by kernel_rfl) (by kernel_rfl) (by kernel_rfl) (fun _ _ _ h => h) 173 #[.tmp 23] _ rfl rfl #[.string xs[k].word] Tryz.call173 (by go_simp) (fun w => HW.out w) hS ?_
            simp only [Act.put, pA, pB, pC]
            refine tK (i := 5) (oi := zo109_5_5) (v := ?_) rfl (by kernel_rfl) (fun _ _ _ h => h) (Or.inl ⟨rfl, ?_⟩) hS ?_
            rotate_left
            · (intro w' hS'; (try dsimp only at hS'); dsimp only [zo109_5_5]; go_simp; try with_reducible rfl)
            simp only [Act.put, pA, pB, pC]
            refine tK (i := 6) (oi := zo109_5_6) (v := ?_) rfl (by kernel_rfl) (fun _ _ _ h => h) (Or.inl ⟨rfl, ?_⟩) hS ?_
            rotate_left
            · (intro w' hS'; (try dsimp only at hS'); dsimp only [zo109_5_6]; go_simp; try with_reducible rfl)
            simp only [Act.put, pA, pB, pC]
            refine tK (i := 7) (oi := zo109_5_7) (v := ?_) rfl (by kernel_rfl) (fun _ _ _ h => h) (Or.inl ⟨rfl, ?_⟩) hS ?_
            rotate_left
            · (intro w' hS'; (try dsimp only at hS'); dsimp only [zo109_5_7]; go_simp; try with_reducible rfl)
            simp only [Act.put, pA, pB, pC]
            refine tK (i := 8) (oi := zo109_5_8) (v := ?_) rfl (by kernel_rfl) (fun _ _ _ h => h) (Or.inl ⟨rfl, ?_⟩) hS ?_
            rotate_left
            · (intro w' hS'; (try dsimp only at hS'); dsimp only [zo109_5_8]; go_simp; try with_reducible rfl)
            simp only [Act.put, pA, pB, pC]
            refine tK (i := 9) (oi := zo109_5_9) (v := ?_) rfl (by kernel_rfl) (fun _ _ _ h => h) (Or.inl ⟨rfl, ?_⟩) hS ?_
            rotate_left
            · (intro w' hS'; (try dsimp only at hS'); dsimp only [zo109_5_9]; go_simp; try with_reducible rfl)
            simp only [Act.put, pA, pB, pC]
            refine tK (i := 10) (oi := zo109_5_10) (v := ?_) rfl (by kernel_rfl) (fun _ _ _ h => h) (Or.inl ⟨rfl, ?_⟩) hS ?_
            rotate_left
            · (intro w' hS'; (try dsimp only at hS'); dsimp only [zo109_5_10]; go_simp; try with_reducible rfl)
            simp only [Act.put, pA, pB, pC]
            refine take_call (i := 11) (oi := zo109_5_11) rfl (by kernel_rfl) (by kernel_rfl) (by kernel_rfl) (fun _ _ _ h => h) 111 #[.tmp 30, .const (.int .i64 0), .const (.int .i64 1000000)] _ rfl rfl #[.int .i64 xs[k].cost, .int .i64 0, .int .i64 1000000] Tryz.call111 (by go_simp) (fun w => HQ.out w) hS ?_
            simp only [Act.put, pA, pB, pC]
            refine tK (i := 12) (oi := zo109_5_12) (v := ?_) rfl (by kernel_rfl) (fun _ _ _ h => h) (Or.inl ⟨rfl, ?_⟩) hS ?_
            rotate_left
            · (intro w' hS'; (try dsimp only at hS'); dsimp only [zo109_5_12]; go_simp; try with_reducible rfl)
            simp only [Act.put, pA, pB, pC]
            refine tK (i := 13) (oi := zo109_5_13) (v := ?_) rfl (by kernel_rfl) (fun _ _ _ h => h) (Or.inl ⟨rfl, ?_⟩) hS ?_
            rotate_left
            · (intro w' hS'; (try dsimp only at hS'); dsimp only [zo109_5_13]; go_simp; try with_reducible rfl)
            simp only [Act.put, pA, pB, pC]
            refine tK (i := 14) (oi := zo109_5_14) (v := ?_) rfl (by kernel_rfl) (fun _ _ _ h => h) (Or.inl ⟨rfl, ?_⟩) hS ?_
            rotate_left
            · (intro w' hS'; (try dsimp only at hS'); dsimp only [zo109_5_14]; go_simp; try with_reducible rfl)
            simp only [Act.put, pA, pB, pC]
            refine tK (i := 15) (oi := zo109_5_15) (v := ?_) rfl (by kernel_rfl) (fun _ _ _ h => h) (Or.inl ⟨rfl, ?_⟩) hS ?_
            rotate_left
            · (intro w' hS'; (try dsimp only at hS'); dsimp only [zo109_5_15]; go_simp; try with_reducible rfl)
            simp only [Act.put, pA, pB, pC]
            refine tK (i := 16) (oi := zo109_5_16) (v := ?_) rfl (by kernel_rfl) (fun _ _ _ h => h) (Or.inl ⟨rfl, ?_⟩) hS ?_
            rotate_left
            · (intro w' hS'; (try dsimp only at hS'); dsimp only [zo109_5_16]; go_simp; try with_reducible rfl)
            simp only [Act.put, pA, pB, pC]
            refine tK (i := 17) (oi := zo109_5_17) (v := ?_) rfl (by kernel_rfl) (fun _ _ _ h => h) (Or.inl ⟨rfl, ?_⟩) hS ?_
            rotate_left
            · (intro w' hS'; (try dsimp only at hS'); dsimp only [zo109_5_17]; go_simp; try with_reducible rfl)
            simp only [Act.put, pA, pB, pC]
            refine tK (i := 18) (oi := zo109_5_18) (v := ?_) rfl (by kernel_rfl) (fun _ _ _ h => h) (Or.inl ⟨rfl, ?_⟩) hS ?_
            rotate_left
            · (intro w' hS'; (try dsimp only at hS'); dsimp only [zo109_5_18]; go_simp; try with_reducible rfl)
            simp only [Act.put, pA, pB, pC]
            refine tK (i := 19) (oi := zo109_5_19) (v := ?_) rfl (by kernel_rfl) (fun _ _ _ h => h) (Or.inl ⟨rfl, ?_⟩) hS ?_
            rotate_left
            · (intro w' hS'; (try dsimp only at hS'); dsimp only [zo109_5_19]; go_simp; try with_reducible rfl)
            simp only [Act.put, pA, pB, pC]
            refine tK (i := 20) (oi := zo109_5_20) (v := ?_) rfl (by kernel_rfl) (fun _ _ _ h => h) (Or.inl ⟨rfl, ?_⟩) hS ?_
            rotate_left
            · (intro w' hS'; (try dsimp only at hS'); dsimp only [zo109_5_20]; go_simp; try with_reducible rfl)
            simp only [Act.put, pA, pB, pC]
            refine tK (i := 21) (oi := zo109_5_21) (v := ?_) rfl (by kernel_rfl) (fun _ _ _ h => h) (Or.inl ⟨rfl, ?_⟩) hS ?_
            rotate_left
            · (intro w' hS'; (try dsimp only at hS'); dsimp only [zo109_5_21]; go_simp; try with_reducible rfl)
            simp only [Act.put, pA, pB, pC]
            refine tK (i := 22) (oi := zo109_5_22) (v := ?_) rfl (by kernel_rfl) (fun _ _ _ h => h) (Or.inl ⟨rfl, ?_⟩) hS ?_
            rotate_left
            · (intro w' hS'; (try dsimp only at hS'); dsimp only [zo109_5_22]; go_simp; try with_reducible rfl)
            simp only [Act.put, pA, pB, pC]
            refine tK (i := 23) (oi := zo109_5_23) (v := ?_) rfl (by kernel_rfl) (fun _ _ _ h => h) (Or.inl ⟨rfl, ?_⟩) hS ?_
            rotate_left
            · (intro w' hS'; (try dsimp only at hS'); dsimp only [zo109_5_23]; go_simp; try with_reducible rfl)
            simp only [Act.put, pA, pB, pC]
            refine tK (i := 24) (oi := zo109_5_24) (v := ?_) rfl (by kernel_rfl) (fun _ _ _ h => h) (Or.inl ⟨rfl, ?_⟩) hS ?_
            rotate_left
            · (intro w' hS'; (try dsimp only at hS'); dsimp only [zo109_5_24]; go_simp; try with_reducible rfl)
            simp only [Act.put, pA, pB, pC]
            refine tK (i := 25) (oi := zo109_5_25) (v := ?_) rfl (by kernel_rfl) (fun _ _ _ h => h) (Or.inl ⟨rfl, ?_⟩) hS ?_
            rotate_left
            · (intro w' hS'; (try dsimp only at hS'); dsimp only [zo109_5_25]; go_simp; try with_reducible rfl)
            simp only [Act.put, pA, pB, pC]
            refine tK (i := 26) (oi := zo109_5_26) (v := ?_) rfl (by kernel_rfl) (fun _ _ _ h => h) (Or.inl ⟨rfl, ?_⟩) hS ?_
            rotate_left
            · (intro w' hS'; (try dsimp only at hS'); dsimp only [zo109_5_26]; go_simp; try with_reducible rfl)
            simp only [Act.put, pA, pB, pC]
            refine tK (i := 27) (oi := zo109_5_27) (v := ?_) rfl (by kernel_rfl) (fun _ _ _ h => h) (Or.inl ⟨rfl, ?_⟩) hS ?_
            rotate_left
            · (intro w' hS'; (try dsimp only at hS'); dsimp only [zo109_5_27]; go_simp; try with_reducible rfl)
            simp only [Act.put, pA, pB, pC]
            refine tK (i := 28) (oi := zo109_5_28) (v := ?_) rfl (by kernel_rfl) (fun _ _ _ h => h) (Or.inl ⟨rfl, ?_⟩) hS ?_
            rotate_left
            · (intro w' hS'; (try dsimp only at hS'); dsimp only [zo109_5_28]; go_simp; try with_reducible rfl)
            simp only [Act.put, pA, pB, pC]
            refine tK (i := 29) (oi := zo109_5_29) (v := ?_) rfl (by kernel_rfl) (fun _ _ _ h => h) (Or.inl ⟨rfl, ?_⟩) hS ?_
            rotate_left
            · (intro w' hS'; (try dsimp only at hS'); dsimp only [zo109_5_29]; go_simp; try with_reducible rfl)
            simp only [Act.put, pA, pB, pC]
            refine tK (i := 30) (oi := zo109_5_30) (v := ?_) rfl (by kernel_rfl) (fun _ _ _ h => h) (Or.inl ⟨rfl, ?_⟩) hS ?_
            rotate_left
            · (intro w' hS'; (try dsimp only at hS'); dsimp only [zo109_5_30]; go_simp; try with_reducible rfl)
            simp only [Act.put, pA, pB, pC]
            refine tK (i := 31) (oi := zo109_5_31) (v := ?_) rfl (by kernel_rfl) (fun _ _ _ h => h) (Or.inl ⟨rfl, ?_⟩) hS ?_
            rotate_left
            · (intro w' hS'; (try dsimp only at hS'); dsimp only [zo109_5_31]; go_simp; try with_reducible rfl)
            simp only [Act.put, pA, pB, pC]
            refine tK (i := 32) (oi := zo109_5_32) (v := ?_) rfl (by kernel_rfl) (fun _ _ _ h => h) (Or.inl ⟨rfl, ?_⟩) hS ?_
            rotate_left
            · (intro w' hS'; (try dsimp only at hS'); dsimp only [zo109_5_32]; go_simp; try with_reducible rfl)
            simp only [Act.put, pA, pB, pC]
            refine tK (i := 33) (oi := zo109_5_33) (v := ?_) rfl (by kernel_rfl) (fun _ _ _ h => h) (Or.inl ⟨rfl, ?_⟩) hS ?_
            rotate_left
            · (intro w' hS'; (try dsimp only at hS'); dsimp only [zo109_5_33]; go_simp; try with_reducible rfl)
            simp only [Act.put, pA, pB, pC]
            refine wpAnyH_done (by kernel_rfl) ?_ _
            go_wp2_with fail
            go_ret
            exact ⟨ret_boolI HF.out.symm, _, by first | rfl | exact World.drewN_drewN _ _ _⟩
          · have HK : Hid (entsOk xs (k + 1) = true) := by show _ = _; rw [hs1, hok.out, he, hlw]; rfl
            rw [hlw] at hle
            have HJ := Lib.hid hj
            clear hj hz hw he hs1 hq hen dk hlw
            go_wp2_with fail
            have hS : (fun w' : World => w'.cell? ⟨b, off + k * 2, none⟩ = some (.string xs[k].word) ∧ w'.cell? ⟨b, off + k * 2 + 1, none⟩ = some (.int .i64 xs[k].cost) ∧ w'.cell? ⟨g, f, none⟩ = some (.slice (some ⟨b, off, none⟩) xs.length c) ∧ w'.cell? ⟨b, off + j * 2, none⟩ = some (.string xs[j].word)) (w.drewN m).drew := ⟨h0, h1, c0, h3⟩
            dsimp only at hS
            refine wp_region_held_drew (S := (fun w' : World => w'.cell? ⟨b, off + k * 2, none⟩ = some (.string xs[k].word) ∧ w'.cell? ⟨b, off + k * 2 + 1, none⟩ = some (.int .i64 xs[k].cost) ∧ w'.cell? ⟨g, f, none⟩ = some (.slice (some ⟨b, off, none⟩) xs.length c) ∧ w'.cell? ⟨b, off + j * 2, none⟩ = some (.string xs[j].word))) (by kernel_rfl) hS (fun _ => ?_)
            refine tK (i := 0) (oi := zo109_5_0) (v := ?_) rfl (by kernel_rfl) (fun _ _ _ h => h) (Or.inl ⟨rfl, ?_⟩) hS ?_
            rotate_left
            · (intro w' hS'; (try dsimp only at hS'); dsimp only [zo109_5_0]; go_simp; try with_reducible rfl)
            simp only [Act.put, pA, pB, pC]
            refine tK (i := 1) (oi := zo109_5_1) (v := ?_) rfl (by kernel_rfl) (fun _ _ _ h => h) (Or.inl ⟨rfl, ?_⟩) hS ?_
            rotate_left
            · (intro w' hS'; (try dsimp only at hS'); dsimp only [zo109_5_1]; go_simp; try with_reducible rfl)
            simp only [Act.put, pA, pB, pC]
            refine tK (i := 2) (oi := zo109_5_2) (v := ?_) rfl (by kernel_rfl) (fun _ _ _ h => h) (Or.inl ⟨rfl, ?_⟩) hS ?_
            rotate_left
            · (intro w' hS'; (try dsimp only at hS'); dsimp only [zo109_5_2]; go_simp; try with_reducible rfl)
            simp only [Act.put, pA, pB, pC]
            refine tK (i := 3) (oi := zo109_5_3) (v := ?_) rfl (by kernel_rfl) (fun _ _ _ h => h) (Or.inl ⟨rfl, ?_⟩) hS ?_
            rotate_left
            · (intro w' hS'; (try dsimp only at hS'); dsimp only [zo109_5_3]; go_simp; try with_reducible rfl)
            simp only [Act.put, pA, pB, pC]
            refine take_call (i := 4) (oi := zo109_5_4) rfl (by kernel_rfl) (by kernel_rfl) (by kernel_rfl) (fun _ _ _ h => h) 173 #[.tmp 23] _ rfl rfl #[.string xs[k].word] Tryz.call173 (by go_simp) (fun w => HW.out w) hS ?_
            simp only [Act.put, pA, pB, pC]
            refine tK (i := 5) (oi := zo109_5_5) (v := ?_) rfl (by kernel_rfl) (fun _ _ _ h => h) (Or.inl ⟨rfl, ?_⟩) hS ?_
            rotate_left
            · (intro w' hS'; (try dsimp only at hS'); dsimp only [zo109_5_5]; go_simp; try with_reducible rfl)
            simp only [Act.put, pA, pB, pC]
            refine tK (i := 6) (oi := zo109_5_6) (v := ?_) rfl (by kernel_rfl) (fun _ _ _ h => h) (Or.inl ⟨rfl, ?_⟩) hS ?_
            rotate_left
            · (intro w' hS'; (try dsimp only at hS'); dsimp only [zo109_5_6]; go_simp; try with_reducible rfl)
            simp only [Act.put, pA, pB, pC]
            refine tK (i := 7) (oi := zo109_5_7) (v := ?_) rfl (by kernel_rfl) (fun _ _ _ h => h) (Or.inl ⟨rfl, ?_⟩) hS ?_
            rotate_left
            · (intro w' hS'; (try dsimp only at hS'); dsimp only [zo109_5_7]; go_simp; try with_reducible rfl)
            simp only [Act.put, pA, pB, pC]
            refine tK (i := 8) (oi := zo109_5_8) (v := ?_) rfl (by kernel_rfl) (fun _ _ _ h => h) (Or.inl ⟨rfl, ?_⟩) hS ?_
            rotate_left
            · (intro w' hS'; (try dsimp only at hS'); dsimp only [zo109_5_8]; go_simp; try with_reducible rfl)
            simp only [Act.put, pA, pB, pC]
            refine tK (i := 9) (oi := zo109_5_9) (v := ?_) rfl (by kernel_rfl) (fun _ _ _ h => h) (Or.inl ⟨rfl, ?_⟩) hS ?_
            rotate_left
            · (intro w' hS'; (try dsimp only at hS'); dsimp only [zo109_5_9]; go_simp; try with_reducible rfl)
            simp only [Act.put, pA, pB, pC]
            refine tK (i := 10) (oi := zo109_5_10) (v := ?_) rfl (by kernel_rfl) (fun _ _ _ h => h) (Or.inl ⟨rfl, ?_⟩) hS ?_
            rotate_left
            · (intro w' hS'; (try dsimp only at hS'); dsimp only [zo109_5_10]; go_simp; try with_reducible rfl)
            simp only [Act.put, pA, pB, pC]
            refine take_call (i := 11) (oi := zo109_5_11) rfl (by kernel_rfl) (by kernel_rfl) (by kernel_rfl) (fun _ _ _ h => h) 111 #[.tmp 30, .const (.int .i64 0), .const (.int .i64 1000000)] _ rfl rfl #[.int .i64 xs[k].cost, .int .i64 0, .int .i64 1000000] Tryz.call111 (by go_simp) (fun w => HQ.out w) hS ?_
            simp only [Act.put, pA, pB, pC]
            refine tK (i := 12) (oi := zo109_5_12) (v := ?_) rfl (by kernel_rfl) (fun _ _ _ h => h) (Or.inl ⟨rfl, ?_⟩) hS ?_
            rotate_left
            · (intro w' hS'; (try dsimp only at hS'); dsimp only [zo109_5_12]; go_simp; try with_reducible rfl)
            simp only [Act.put, pA, pB, pC]
            refine tK (i := 13) (oi := zo109_5_13) (v := ?_) rfl (by kernel_rfl) (fun _ _ _ h => h) (Or.inl ⟨rfl, ?_⟩) hS ?_
            rotate_left
            · (intro w' hS'; (try dsimp only at hS'); dsimp only [zo109_5_13]; go_simp; try with_reducible rfl)
            simp only [Act.put, pA, pB, pC]
            refine tK (i := 14) (oi := zo109_5_14) (v := ?_) rfl (by kernel_rfl) (fun _ _ _ h => h) (Or.inl ⟨rfl, ?_⟩) hS ?_
            rotate_left
            · (intro w' hS'; (try dsimp only at hS'); dsimp only [zo109_5_14]; go_simp; try with_reducible rfl)
            simp only [Act.put, pA, pB, pC]
            refine tK (i := 15) (oi := zo109_5_15) (v := ?_) rfl (by kernel_rfl) (fun _ _ _ h => h) (Or.inl ⟨rfl, ?_⟩) hS ?_
            rotate_left
            · (intro w' hS'; (try dsimp only at hS'); dsimp only [zo109_5_15]; go_simp; try with_reducible rfl)
            simp only [Act.put, pA, pB, pC]
            refine tK (i := 16) (oi := zo109_5_16) (v := ?_) rfl (by kernel_rfl) (fun _ _ _ h => h) (Or.inl ⟨rfl, ?_⟩) hS ?_
            rotate_left
            · (intro w' hS'; (try dsimp only at hS'); dsimp only [zo109_5_16]; go_simp; try with_reducible rfl)
            simp only [Act.put, pA, pB, pC]
            refine tK (i := 17) (oi := zo109_5_17) (v := ?_) rfl (by kernel_rfl) (fun _ _ _ h => h) (Or.inl ⟨rfl, ?_⟩) hS ?_
            rotate_left
            · (intro w' hS'; (try dsimp only at hS'); dsimp only [zo109_5_17]; go_simp; try with_reducible rfl)
            simp only [Act.put, pA, pB, pC]
            refine tK (i := 18) (oi := zo109_5_18) (v := ?_) rfl (by kernel_rfl) (fun _ _ _ h => h) (Or.inl ⟨rfl, ?_⟩) hS ?_
            rotate_left
            · (intro w' hS'; (try dsimp only at hS'); dsimp only [zo109_5_18]; go_simp; try with_reducible rfl)
            simp only [Act.put, pA, pB, pC]
            refine tK (i := 19) (oi := zo109_5_19) (v := ?_) rfl (by kernel_rfl) (fun _ _ _ h => h) (Or.inl ⟨rfl, ?_⟩) hS ?_
            rotate_left
            · (intro w' hS'; (try dsimp only at hS'); dsimp only [zo109_5_19]; go_simp; try with_reducible rfl)
            simp only [Act.put, pA, pB, pC]
            refine tK (i := 20) (oi := zo109_5_20) (v := ?_) rfl (by kernel_rfl) (fun _ _ _ h => h) (Or.inl ⟨rfl, ?_⟩) hS ?_
            rotate_left
            · (intro w' hS'; (try dsimp only at hS'); dsimp only [zo109_5_20]; go_simp; try with_reducible rfl)
            simp only [Act.put, pA, pB, pC]
            refine tK (i := 21) (oi := zo109_5_21) (v := ?_) rfl (by kernel_rfl) (fun _ _ _ h => h) (Or.inl ⟨rfl, ?_⟩) hS ?_
            rotate_left
            · (intro w' hS'; (try dsimp only at hS'); dsimp only [zo109_5_21]; go_simp; try with_reducible rfl)
            simp only [Act.put, pA, pB, pC]
            refine tK (i := 22) (oi := zo109_5_22) (v := ?_) rfl (by kernel_rfl) (fun _ _ _ h => h) (Or.inl ⟨rfl, ?_⟩) hS ?_
            rotate_left
            · (intro w' hS'; (try dsimp only at hS'); dsimp only [zo109_5_22]; go_simp; try with_reducible rfl)
            simp only [Act.put, pA, pB, pC]
            refine tK (i := 23) (oi := zo109_5_23) (v := ?_) rfl (by kernel_rfl) (fun _ _ _ h => h) (Or.inl ⟨rfl, ?_⟩) hS ?_
            rotate_left
            · (intro w' hS'; (try dsimp only at hS'); dsimp only [zo109_5_23]; go_simp; try with_reducible rfl)
            simp only [Act.put, pA, pB, pC]
            refine tK (i := 24) (oi := zo109_5_24) (v := ?_) rfl (by kernel_rfl) (fun _ _ _ h => h) (Or.inl ⟨rfl, ?_⟩) hS ?_
            rotate_left
            · (intro w' hS'; (try dsimp only at hS'); dsimp only [zo109_5_24]; go_simp; try with_reducible rfl)
            simp only [Act.put, pA, pB, pC]
            refine tK (i := 25) (oi := zo109_5_25) (v := ?_) rfl (by kernel_rfl) (fun _ _ _ h => h) (Or.inl ⟨rfl, ?_⟩) hS ?_
            rotate_left
            · (intro w' hS'; (try dsimp only at hS'); dsimp only [zo109_5_25]; go_simp; try with_reducible rfl)
            simp only [Act.put, pA, pB, pC]
            refine tK (i := 26) (oi := zo109_5_26) (v := ?_) rfl (by kernel_rfl) (fun _ _ _ h => h) (Or.inl ⟨rfl, ?_⟩) hS ?_
            rotate_left
            · (intro w' hS'; (try dsimp only at hS'); dsimp only [zo109_5_26]; go_simp; try with_reducible rfl)
            simp only [Act.put, pA, pB, pC]
            refine tK (i := 27) (oi := zo109_5_27) (v := ?_) rfl (by kernel_rfl) (fun _ _ _ h => h) (Or.inl ⟨rfl, ?_⟩) hS ?_
            rotate_left
            · (intro w' hS'; (try dsimp only at hS'); dsimp only [zo109_5_27]; go_simp; try with_reducible rfl)
            simp only [Act.put, pA, pB, pC]
            refine tK (i := 28) (oi := zo109_5_28) (v := ?_) rfl (by kernel_rfl) (fun _ _ _ h => h) (Or.inl ⟨rfl, ?_⟩) hS ?_
            rotate_left
            · (intro w' hS'; (try dsimp only at hS'); dsimp only [zo109_5_28]; go_simp; try with_reducible rfl)
            simp only [Act.put, pA, pB, pC]
            refine tK (i := 29) (oi := zo109_5_29) (v := ?_) rfl (by kernel_rfl) (fun _ _ _ h => h) (Or.inl ⟨rfl, ?_⟩) hS ?_
            rotate_left
            · (intro w' hS'; (try dsimp only at hS'); dsimp only [zo109_5_29]; go_simp; try with_reducible rfl)
            simp only [Act.put, pA, pB, pC]
            refine tK (i := 30) (oi := zo109_5_30) (v := ?_) rfl (by kernel_rfl) (fun _ _ _ h => h) (Or.inl ⟨rfl, ?_⟩) hS ?_
            rotate_left
            · (intro w' hS'; (try dsimp only at hS'); dsimp only [zo109_5_30]; go_simp; try with_reducible rfl)
            simp only [Act.put, pA, pB, pC]
            refine tK (i := 31) (oi := zo109_5_31) (v := ?_) rfl (by kernel_rfl) (fun _ _ _ h => h) (Or.inl ⟨rfl, ?_⟩) hS ?_
            rotate_left
            · (intro w' hS'; (try dsimp only at hS'); dsimp only [zo109_5_31]; go_simp; try with_reducible rfl)
            simp only [Act.put, pA, pB, pC]
            refine tK (i := 32) (oi := zo109_5_32) (v := ?_) rfl (by kernel_rfl) (fun _ _ _ h => h) (Or.inl ⟨rfl, ?_⟩) hS ?_
            rotate_left
            · (intro w' hS'; (try dsimp only at hS'); dsimp only [zo109_5_32]; go_simp; try with_reducible rfl)
            simp only [Act.put, pA, pB, pC]
            refine tK (i := 33) (oi := zo109_5_33) (v := ?_) rfl (by kernel_rfl) (fun _ _ _ h => h) (Or.inl ⟨rfl, ?_⟩) hS ?_
            rotate_left
            · (intro w' hS'; (try dsimp only at hS'); dsimp only [zo109_5_33]; go_simp; try with_reducible rfl)
            simp only [Act.put, pA, pB, pC]
            refine wpAnyH_done (by kernel_rfl) ?_ _
            go_wp2_with fail
            go_roundw
            case rel => exact ⟨k + 1, by omega, by go_num, HK, _, by first | rfl | exact World.drewN_drewN _ _ _⟩
            case measure => simp [intOf]; omega
  · obtain rfl : k = xs.length := by omega
    by_cases h60 : xs.length ≤ 60
    · have g6 : ((xs.length : Int) ≤ 60) = True := eq_true (by omega)
      have HF : Hid (lexB xs = true) := by show _ = _; simp [lexB, hok.out, h60]
      clear h60 hr
      go_wp2_with fail
      go_ret
      exact ⟨ret_boolI HF.out.symm, _, rfl⟩
    · have g6 : ((xs.length : Int) ≤ 60) = False := eq_false (by omega)
      have HF : Hid (lexB xs = false) := by show _ = _; simp [lexB, h60]
      clear h60 hr
      go_wp2_with fail
      go_ret
      exact ⟨ret_boolI HF.out.symm, _, rfl⟩
end Go.Proofs.YtkfadfddhbpngaaGreat
