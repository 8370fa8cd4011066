/- The program's own setups: stores and settings. Conditions: none. -/
import Derived.Test.YtboijogahclekaaGreatDoorShelfHask
import Derived.Test.YtboijogahclekaaGreatDoorFindk
import Derived.Deep.RegionHeld3
import Derived.Test.YtboijogahclekaaGreatDoorPgValidk
namespace Go.Proofs.YtboijogahclekaaGreatDoor
open Go Go.RowKit
set_option maxRecDepth 100000 in
set_option maxHeartbeats 400000 in
theorem IndexFunc_Feat {o : Bool} {e : TypeId} {xs : List PFeat} {v : Value} {F : List Nat} (K : FuncId) (p : PFeat → Bool) (w : World) (h : (pFeats e).rep o w xs [v] F) (hx : xs.length ≤ 1048576)
 (hK : ∀ args w, (callFunc K args).run Tryz.prog w = .ok (.enter K args) w) (hf : ∀ s ∈ xs, ∀ w : World, Calls Tryz.prog K #[.agg #[.int .i64 s.x, .int .i64 s.y, .int .i64 s.d]] w fun e w' => e = .returned (.bool (p s)) ∧ Below w.heap.size w w') :
 Calls Tryz.prog 197 #[v, .func (.func K) #[] #[]] w (FoundAt (xs.any p) w) := by
 obtain ⟨A, c, rfl, hc1, hc2, hr⟩ := pFeats_open h
 clear h
 have HF := Lib.hid hf
 clear hf
 go_enter Tryz.func197, Tryz.ntmps197
 go_wp2_with fail
 go_loopw [8] (fun i wr => ∃ k : Nat, k ≤ xs.length ∧ i = .int .i64 k ∧ Hid ((xs.take k).any p = false) ∧ Below w.heap.size w wr) (fun i _ => xs.length - (intOf i).toNat)
 case atStart => exact ⟨0, Nat.zero_le _, rfl, rfl, Below.refl _ _⟩
 case round =>
  obtain ⟨k, hk, rfl, hno, hb⟩ := hrel
  have hbs := hb.size
  by_cases hlt : k < xs.length
  · obtain ⟨b, off, rfl, hbb, _, h0, h1, h2, _⟩ := hr k hlt
    rw [← hb.cell (p := ⟨b, _, none⟩) hbb] at h0 h1 h2
    clear hr
    go_wp2_with fail
    refine (HF.out xs[k] (List.getElem_mem hlt) _).mono ?_
    rintro e w1 ⟨rfl, hb1⟩
    cases hp : p xs[k]
    · have HP := Lib.hid hp
      clear hp
      go_wp2_with fail
      go_roundw
      case rel => exact ⟨k + 1, by omega, by go_num, (by show _ = _; rw [List.take_succ_eq_append_getElem hlt, List.any_append, hno.out]; simp [HP.out]), hb.trans (hb1.mono hbs)⟩
      case measure => simp [intOf]; omega
    · have HP := Lib.hid hp
      clear hp
      go_wp2_with fail
      go_ret
      refine ⟨_, rfl, ?_, hb.trans (hb1.mono hbs)⟩
      have : xs.any p = true := List.any_eq_true.2 ⟨xs[k], List.getElem_mem hlt, HP.out⟩
      rw [this]; simp
  · obtain rfl : k = xs.length := by omega
    go_wp2_with fail
    go_ret
    refine ⟨_, rfl, ?_, hb⟩
    have := hno.out
    rw [List.take_length] at this
    rw [this]; rfl
set_option maxRecDepth 100000 in
set_option maxHeartbeats 400000 in
theorem ContainsFunc_Feat {o : Bool} {e : TypeId} {xs : List PFeat} {v : Value} {F : List Nat} (K : FuncId) (p : PFeat → Bool) (w : World) (h : (pFeats e).rep o w xs [v] F) (hx : xs.length ≤ 1048576)
 (hK : ∀ args w, (callFunc K args).run Tryz.prog w = .ok (.enter K args) w) (hf : ∀ s ∈ xs, ∀ w : World, Calls Tryz.prog K #[.agg #[.int .i64 s.x, .int .i64 s.y, .int .i64 s.d]] w fun e w' => e = .returned (.bool (p s)) ∧ Below w.heap.size w w') :
 Calls Tryz.prog 191 #[v, .func (.func K) #[] #[]] w fun e w' => e = .returned (.bool (xs.any p)) ∧ Below w.heap.size w w' := by
 have C := IndexFunc_Feat K p w h hx hK hf
 have HC := Lib.hid C
 clear C hf hK
 go_enter Tryz.func191, Tryz.ntmps191
 go_wp2_with fail
 refine HC.out.mono ?_
 rintro e w1 ⟨r, rfl, hr, hb⟩
 go_wp2_with fail
 all_goals go_ret
 all_goals first | exact ⟨ret_boolF hr, hb⟩ | exact ⟨rfl, hb⟩
set_option maxRecDepth 100000 in
set_option maxHeartbeats 400000 in
theorem IndexFunc_Template {o : Bool} {pe e : TypeId} {xs : List PTemp} {v : Value} {F : List Nat} (K : FuncId) (p : PTemp → Bool) (w : World) (h : (pTemps pe e).rep o w xs [v] F) (hx : xs.length ≤ 1048576)
 (hK : ∀ args w, (callFunc K args).run Tryz.prog w = .ok (.enter K args) w) (hf : ∀ s ∈ xs, ∀ (w : World) (u : Value) (G : List Nat), (pFeats pe).rep o w s.feats [u] G → Calls Tryz.prog K #[.agg #[.string s.label, u]] w fun e w' => e = .returned (.bool (p s)) ∧ Below w.heap.size w w') :
 Calls Tryz.prog 169 #[v, .func (.func K) #[] #[]] w (FoundAt (xs.any p) w) := by
 obtain ⟨A, c, rfl, hc1, hc2, hr⟩ := pTemps_open h
 clear h
 have HF := Lib.hid hf
 clear hf
 go_enter Tryz.func169, Tryz.ntmps169
 go_wp2_with fail
 go_loopw [8] (fun i wr => ∃ k : Nat, k ≤ xs.length ∧ i = .int .i64 k ∧ Hid ((xs.take k).any p = false) ∧ Below w.heap.size w wr) (fun i _ => xs.length - (intOf i).toNat)
 case atStart => exact ⟨0, Nat.zero_le _, rfl, rfl, Below.refl _ _⟩
 case round =>
  obtain ⟨k, hk, rfl, hno, hb⟩ := hrel
  have hbs := hb.size
  by_cases hlt : k < xs.length
  · obtain ⟨b, off, u, Fk, rfl, hbb, _, hls, hrk, _, h0, h1⟩ := hr k hlt
    rw [← hb.cell (p := ⟨b, _, none⟩) hbb] at h0 h1
    obtain ⟨Au, cu, rfl⟩ := slice_len hrk
    have hrk := hrk.below hb
    have HRK := Lib.hid hrk
    clear hr hrk
    go_wp2_with fail
    refine (HF.out xs[k] (List.getElem_mem hlt) _ _ _ HRK.out).mono ?_
    rintro e w1 ⟨rfl, hb1⟩
    cases hp : p xs[k]
    · have HP := Lib.hid hp
      clear hp
      go_wp2_with fail
      go_roundw
      case rel => exact ⟨k + 1, by omega, by go_num, (by show _ = _; rw [List.take_succ_eq_append_getElem hlt, List.any_append, hno.out]; simp [HP.out]), hb.trans (hb1.mono hbs)⟩
      case measure => simp [intOf]; omega
    · have HP := Lib.hid hp
      clear hp
      go_wp2_with fail
      go_ret
      refine ⟨_, rfl, ?_, hb.trans (hb1.mono hbs)⟩
      have : xs.any p = true := List.any_eq_true.2 ⟨xs[k], List.getElem_mem hlt, HP.out⟩
      rw [this]; simp
  · obtain rfl : k = xs.length := by omega
    go_wp2_with fail
    go_ret
    refine ⟨_, rfl, ?_, hb⟩
    have := hno.out
    rw [List.take_length] at this
    rw [this]; rfl
set_option maxRecDepth 100000 in
set_option maxHeartbeats 400000 in
theorem ContainsFunc_Template {o : Bool} {pe e : TypeId} {xs : List PTemp} {v : Value} {F : List Nat} (K : FuncId) (p : PTemp → Bool) (w : World) (h : (pTemps pe e).rep o w xs [v] F) (hx : xs.length ≤ 1048576)
 (hK : ∀ args w, (callFunc K args).run Tryz.prog w = .ok (.enter K args) w) (hf : ∀ s ∈ xs, ∀ (w : World) (u : Value) (G : List Nat), (pFeats pe).rep o w s.feats [u] G → Calls Tryz.prog K #[.agg #[.string s.label, u]] w fun e w' => e = .returned (.bool (p s)) ∧ Below w.heap.size w w') :
 Calls Tryz.prog 143 #[v, .func (.func K) #[] #[]] w fun e w' => e = .returned (.bool (xs.any p)) ∧ Below w.heap.size w w' := by
 have C := IndexFunc_Template K p w h hx hK hf
 have HC := Lib.hid C
 clear C hf hK
 go_enter Tryz.func143, Tryz.ntmps143
 go_wp2_with fail
 refine HC.out.mono ?_
 rintro e w1 ⟨r, rfl, hr, hb⟩
 go_wp2_with fail
 all_goals go_ret
 all_goals first | exact ⟨ret_boolF hr, hb⟩ | exact ⟨rfl, hb⟩
set_option maxHeartbeats 400000 in
theorem impl_ValidFeat_c (s : PFeat) (w : World) :
 Calls Tryz.prog 193 #[.agg #[.int .i64 s.x, .int .i64 s.y, .int .i64 s.d]] w fun e w' => e = .returned (.bool (featB s)) ∧ Below w.heap.size w w' := by
 have al : Below w.heap.size w (w.alloc (.cells #[.int .i64 s.x, .int .i64 s.y, .int .i64 s.d] 282)) := (Below.refl _ _).alloc (Nat.le_refl _) _
 have H0 := Lib.hid (impl_inR_c s.x 0 255)
 have H1 := Lib.hid (impl_inR_c s.y 0 255)
 have H2 := Lib.hid (impl_inR_c s.d 0 7)
 unfold featB
 generalize inR s.x 0 255 = d0 at H0 ⊢
 generalize inR s.y 0 255 = d1 at H1 ⊢
 generalize inR s.d 0 7 = d2 at H2 ⊢
 cases d0 <;> cases d1
 all_goals
  go_enter Tryz.func193, Tryz.ntmps193
  go_wp2_with (first | (go_at_call_of 72 (Value.int .i64 s.x); refine (H0.out _).mono ?_; rintro e w1 ⟨rfl, rfl⟩) | (go_at_call_of 72 (Value.int .i64 s.y); refine (H1.out _).mono ?_; rintro e w1 ⟨rfl, rfl⟩) | (go_at_call_of 72 (Value.int .i64 s.d); refine (H2.out _).mono ?_; rintro e w1 ⟨rfl, rfl⟩))
  go_ret
  exact ⟨rfl, al⟩
set_option maxHeartbeats 400000 in
theorem impl_ValidSetting_c (s : PSetting) (w : World) :
 Calls Tryz.prog 113 #[.agg #[.int .i64 s.points, .int .i64 s.most, .int .i64 s.pen]] w fun e w' => e = .returned (.bool (settingB s)) ∧ Below w.heap.size w w' := by
 have al : Below w.heap.size w (w.alloc (.cells #[.int .i64 s.points, .int .i64 s.most, .int .i64 s.pen] 53)) := (Below.refl _ _).alloc (Nat.le_refl _) _
 have H0 := Lib.hid (impl_inR_c s.points 2 24)
 have H1 := Lib.hid (impl_inR_c s.most 1 8)
 have H2 := Lib.hid (impl_inR_c s.pen 0 1000)
 unfold settingB
 generalize inR s.points 2 24 = d0 at H0 ⊢
 generalize inR s.most 1 8 = d1 at H1 ⊢
 generalize inR s.pen 0 1000 = d2 at H2 ⊢
 cases d0 <;> cases d1
 all_goals
  go_enter Tryz.func113, Tryz.ntmps113
  go_wp2_with (first | (go_at_call_of 72 (Value.int .i64 s.points); refine (H0.out _).mono ?_; rintro e w1 ⟨rfl, rfl⟩) | (go_at_call_of 72 (Value.int .i64 s.most); refine (H1.out _).mono ?_; rintro e w1 ⟨rfl, rfl⟩) | (go_at_call_of 72 (Value.int .i64 s.pen); refine (H2.out _).mono ?_; rintro e w1 ⟨rfl, rfl⟩))
  go_ret
  exact ⟨rfl, al⟩
set_option maxHeartbeats 400000 in
theorem impl_areFeats1_c (s : PFeat) (w : World) :
 Calls Tryz.prog 192 #[.agg #[.int .i64 s.x, .int .i64 s.y, .int .i64 s.d]] w fun e w' => e = .returned (.bool (!featB s)) ∧ Below w.heap.size w w' := by
 have C := Lib.hid (impl_ValidFeat_c s)
 generalize featB s = d at C ⊢
 have al : Below w.heap.size w (w.alloc (.cells #[.int .i64 s.x, .int .i64 s.y, .int .i64 s.d] 282)) := (Below.refl _ _).alloc (Nat.le_refl _) _
 go_enter Tryz.func192, Tryz.ntmps192
 go_wp2_with fail
 refine (C.out _).mono ?_
 rintro e w1 ⟨rfl, b1⟩
 go_wp2_with fail
 go_ret
 exact ⟨rfl, al.trans (b1.mono al.size)⟩
set_option maxRecDepth 100000 in
set_option maxHeartbeats 1000000 in
theorem impl_areFeats_c {o : Bool} {e : TypeId} {xs : List PFeat} {v : Value} {F : List Nat} (w : World) (h : (pFeats e).rep o w xs [v] F) (hx : xs.length ≤ 1048576) :
 Calls Tryz.prog 185 #[v, .int .i64 72] w fun e w' => e = .returned (.bool (featsB xs)) ∧ Below w.heap.size w w' := by
 have C := ContainsFunc_Feat 192 (fun s => !featB s) w h hx Tryz.call192 (fun s _ w => impl_areFeats1_c s w)
 have he : (xs.any fun s => !featB s) = !xs.all featB := by simp [List.any_eq_not_all_not]
 rw [he] at C
 have hfb : featsB xs = (xs.all featB && (decide (1 ≤ xs.length) && decide (xs.length ≤ 72))) := rfl
 rw [hfb]
 generalize xs.all featB = d at C ⊢
 have HC := Lib.hid C
 clear C he hfb
 obtain ⟨A, c, rfl⟩ := slice_len h
 by_cases h1 : 1 ≤ xs.length
 · have g1 : ((1 : Int) ≤ (xs.length : Int)) = True := eq_true (by omega)
   by_cases h2 : xs.length ≤ 72
   · have g2 : ((xs.length : Int) ≤ 72) = True := eq_true (by omega)
     rw [decide_eq_true h1, decide_eq_true h2]
     clear h1 h2
     go_enter Tryz.func185, Tryz.ntmps185
     go_wp2_with fail
     refine HC.out.mono ?_
     rintro e w1 ⟨rfl, b1⟩
     go_wp2_with fail
     go_ret
     exact ⟨by cases d <;> rfl, b1⟩
   · have g2 : ((xs.length : Int) ≤ 72) = False := eq_false (by omega)
     rw [decide_eq_true h1, decide_eq_false h2]
     clear h1 h2
     go_enter Tryz.func185, Tryz.ntmps185
     go_wp2_with fail
     go_ret
     exact ⟨by cases d <;> rfl, Below.refl _ _⟩
 · have g1 : ((1 : Int) ≤ (xs.length : Int)) = False := eq_false (by omega)
   rw [decide_eq_false h1]
   clear h1
   go_enter Tryz.func185, Tryz.ntmps185
   go_wp2_with fail
   go_ret
   exact ⟨by cases d <;> rfl, Below.refl _ _⟩
set_option maxHeartbeats 400000 in
theorem impl_ValidSeq_c {o : Bool} {e : TypeId} {xs : List PFeat} {v : Value} {F : List Nat} (w : World) (h : (pFeats e).rep o w xs [v] F) (hx : xs.length ≤ 1048576) :
 Calls Tryz.prog 171 #[v] w fun e w' => e = .returned (.bool (featsB xs)) ∧ Below w.heap.size w w' := by
 have C := Lib.hid (impl_areFeats_c w h hx)
 generalize featsB xs = d at C ⊢
 obtain ⟨A, c, rfl⟩ := slice_len h
 go_enter Tryz.func171, Tryz.ntmps171
 go_wp2_with fail
 refine C.out.mono ?_
 rintro e w1 ⟨rfl, b1⟩
 go_wp2_with fail
 go_ret
 exact ⟨rfl, b1⟩
set_option maxHeartbeats 400000 in
theorem impl_validTemplate_c {o : Bool} {e : TypeId} {t : PTemp} {v : Value} {F : List Nat} (w : World) (h : (pFeats e).rep o w t.feats [v] F) (hx : t.feats.length ≤ 1048576) (hl : t.label.size ≤ 1048576) :
 Calls Tryz.prog 145 #[.agg #[.string t.label, v]] w fun e w' => e = .returned (.bool (tempB t)) ∧ Below w.heap.size w w' := by
 have C1 := Lib.hid (fun w' => impl_IsLabel_c t.label w' hl)
 have C2 := Lib.hid (fun w' (q : (pFeats e).rep o w' t.feats [v] F) => impl_ValidSeq_c w' q hx)
 unfold tempB
 generalize labelB t.label = d1 at C1 ⊢
 generalize featsB t.feats = d2 at C2 ⊢
 have al : Below w.heap.size w (w.alloc (.cells #[.string t.label, v] 239)) := (Below.refl _ _).alloc (Nat.le_refl _) _
 replace h := h.alloc (.cells #[.string t.label, v] 239)
 have R := Row.new w 239 #[.string t.label, v]
 obtain ⟨A, c, rfl⟩ := slice_len h
 cases d1
 · go_enter Tryz.func145, Tryz.ntmps145
   go_wp2_with fail
   refine (C1.out _).mono ?_
   rintro e w1 ⟨rfl, rfl⟩
   go_wp2_with fail
   go_ret
   exact ⟨rfl, al⟩
 · go_enter Tryz.func145, Tryz.ntmps145
   go_wp2_with fail
   refine (C1.out _).mono ?_
   rintro e w1 ⟨rfl, rfl⟩
   go_wp2_with fail
   refine (C2.out _ h).mono ?_
   rintro e w2 ⟨rfl, b2⟩
   go_wp2_with fail
   go_ret
   exact ⟨rfl, al.trans (b2.mono al.size)⟩
set_option maxHeartbeats 400000 in
theorem impl_ValidStore1_c {o : Bool} {e : TypeId} {t : PTemp} {v : Value} {F : List Nat} (w : World) (h : (pFeats e).rep o w t.feats [v] F) (hx : t.feats.length ≤ 1048576) (hl : t.label.size ≤ 1048576) :
 Calls Tryz.prog 144 #[.agg #[.string t.label, v]] w fun e w' => e = .returned (.bool (!tempB t)) ∧ Below w.heap.size w w' := by
 have C := Lib.hid (fun w' (q : (pFeats e).rep o w' t.feats [v] F) => impl_validTemplate_c w' q hx hl)
 generalize tempB t = d at C ⊢
 have al : Below w.heap.size w (w.alloc (.cells #[.string t.label, v] 239)) := (Below.refl _ _).alloc (Nat.le_refl _) _
 obtain ⟨A, c, rfl⟩ := slice_len h
 go_enter Tryz.func144, Tryz.ntmps144
 go_wp2_with fail
 refine (C.out _ (h.alloc _)).mono ?_
 rintro e w1 ⟨rfl, b1⟩
 go_wp2_with fail
 go_ret
 exact ⟨rfl, al.trans (b1.mono al.size)⟩
set_option maxRecDepth 100000 in
set_option maxHeartbeats 1000000 in
theorem impl_ValidStore_c {o : Bool} {pe e : TypeId} {p : PSetup} {v : Value} {F : List Nat} (w : World) (h : (pTemps pe e).rep o w p.temps [v] F) (hp : SeSmall p) (hb : SeBytes p) :
 Calls Tryz.prog 112 #[.agg #[.int .i64 p.band, v]] w fun e w' => e = .returned (.bool (storeB p)) ∧ Below w.heap.size w w' := by
 have C1 := Lib.hid (impl_inR_c p.band 0 72)
 have he : (p.temps.any fun s => !tempB s) = !p.temps.all tempB := by simp [List.any_eq_not_all_not]
 have C2 : Hid (∀ w', (pTemps pe e).rep o w' p.temps [v] F → Calls Tryz.prog 143 #[v, .func (.func 144) #[] #[]] w' fun e w'' => e = .returned (.bool (!p.temps.all tempB)) ∧ Below w'.heap.size w' w'') := by
  intro w' q
  have := ContainsFunc_Template 144 (fun s => !tempB s) w' q hp.t Tryz.call144 (fun s hs w u G r => impl_ValidStore1_c w r (hp.f s hs) (hb.t s hs))
  rwa [he] at this
 unfold storeB
 generalize inR p.band 0 72 = d1 at C1 ⊢
 generalize p.temps.all tempB = d2 at C2 ⊢
 have al : Below w.heap.size w (w.alloc (.cells #[.int .i64 p.band, v] 52)) := (Below.refl _ _).alloc (Nat.le_refl _) _
 replace h := h.alloc (.cells #[.int .i64 p.band, v] 52)
 obtain ⟨A, c, rfl⟩ := slice_len h
 clear he
 cases d1
 · go_enter Tryz.func112, Tryz.ntmps112
   go_wp2_with fail
   refine (C1.out _).mono ?_
   rintro e w1 ⟨rfl, rfl⟩
   go_wp2_with fail
   go_ret
   exact ⟨by cases d2 <;> rfl, al⟩
 · by_cases h2 : p.temps.length ≤ 40
   · have g2 : ((p.temps.length : Int) ≤ 40) = True := eq_true (by omega)
     rw [decide_eq_true h2]
     clear h2
     go_enter Tryz.func112, Tryz.ntmps112
     go_wp2_with fail
     refine (C1.out _).mono ?_
     rintro e w1 ⟨rfl, rfl⟩
     go_wp2_with fail
     refine (C2.out _ h).mono ?_
     rintro e w2 ⟨rfl, b2⟩
     go_wp2_with fail
     go_ret
     exact ⟨by cases d2 <;> rfl, al.trans (b2.mono al.size)⟩
   · have g2 : ((p.temps.length : Int) ≤ 40) = False := eq_false (by omega)
     rw [decide_eq_false h2]
     clear h2
     go_enter Tryz.func112, Tryz.ntmps112
     go_wp2_with fail
     refine (C1.out _).mono ?_
     rintro e w1 ⟨rfl, rfl⟩
     go_wp2_with fail
     go_ret
     exact ⟨by cases d2 <;> rfl, al⟩
theorem impl_isCost_c (n : Int) (w : World) :
 Calls Tryz.prog 146 #[.int .i64 n] w fun e w' => e = .returned (.bool (costB n)) ∧ w' = w := by
 have C := impl_inR_c n 0 1000000
 unfold costB
 generalize inR n 0 1000000 = b at C
 have HC := Lib.hid C
 clear C
 go_enter Tryz.func146, Tryz.ntmps146
 go_wp2_with fail
 refine (HC.out _).mono ?_
 rintro e w1 ⟨rfl, rfl⟩
 go_wp2_with fail
 go_ret
 exact ⟨rfl, rfl⟩
section
variable {P : Program} {md : Region.Mode} {ops : Array Oper} {Q : Exit → Act → World → Prop} {S : World → Prop}
def StillCall (P : Program) (ops : Array Oper) (S : World → Prop) (o : Oper) (v : Value) (a : Act) : Prop :=
 Region.wanted o (yielded ops a.tmps) = true ∧ ∃ f args, ∀ w, S w → (execOp a.eval o).run P w = .ok (.enter f args) w ∧ Calls P f args w fun e w' => e = .returned v ∧ w' = w
theorem StillCall.now {i : Nat} {o : Oper} {v : Value} {a : Act} (hi : ops[i]? = some o) (hy : StillCall P ops S o v a) {K : Act → World → Prop} {w : World} (hS : S w) (h : K (a.put o.dst v) w) : wpOp P ops Q i K a w := by
 obtain ⟨hw, f, args, hc⟩ := hy
 obtain ⟨h1, h2⟩ := hc w hS
 unfold Go.wpOp
 simp only [hi, hw, if_true, Oper.wp, h1, Oper.upon]
 refine .inl (h2.mono fun e w' ⟨he, hw'⟩ => ?_)
 subst he; subst hw'
 exact h
theorem StillCall.same {o : Oper} {v : Value} {a a' : Act} (hy : StillCall P ops S o v a) (he : execOp a'.eval o = execOp a.eval o)
 (hw : Region.wanted o (yielded ops a'.tmps) = Region.wanted o (yielded ops a.tmps)) : StillCall P ops S o v a' := by
 unfold StillCall at *
 rw [he, hw]
 exact hy
theorem other_call {j : Nat} {oi oj : Oper} {v : Value} (hj : ops[j]? = some oj) (hap : oi.apart ops oj = true)
 (hsi : ∀ cs b, oi.op ≠ .select cs b) (hsj : ∀ cs b, oj.op ≠ .select cs b)
 (hQ : ∀ c a w, Q (.panic c) (a.put oi.dst v) w → Q (.panic c) a w) {K : Act → World → Prop} {a : Act} {w : World}
 (hy : StillCall P ops S oi v a) (h : wpOp P ops Q j K (a.put oi.dst v) w) :
 wpOp P ops Q j (fun a' w' => StillCall P ops S oi v a' ∧ K (a'.put oi.dst v) w') a w := by
 obtain ⟨h1, h2, h3⟩ := Oper.apart_spec hap
 have keep : ∀ (a : Act), StillCall P ops S oi v a → ∀ u, StillCall P ops S oi v (a.put oj.dst u) := fun a hy u =>
  hy.same (execOp_put oi hsi a oj.dst u h3) (wanted_put oi a oj.dst u h3)
 have fin : ∀ {u w'}, K ((a.put oi.dst v).put oj.dst u) w' → StillCall P ops S oi v (a.put oj.dst u) ∧ K ((a.put oj.dst u).put oi.dst v) w' := fun {u w'} hk =>
  ⟨keep a hy u, by rw [← Act.put_comm a v u h2]; exact hk⟩
 unfold wpOp at *
 simp only [hj] at *
 rw [wanted_put oj a oi.dst v h1] at h
 by_cases hw : Region.wanted oj (yielded ops a.tmps) = true
 · rw [if_pos hw] at h ⊢
   rcases h with h | ⟨hasks, hlets⟩
   · refine .inl ?_
     unfold Oper.wp at *
     rw [execOp_put oj hsj a oi.dst v h1] at h
     generalize (execOp a.eval oj).run P w = r at *
     match r, h with
     | .ok (.value u) w', h => exact fin h
     | .ok .skip w', h => exact fin h
     | .ok (.defer d) w', h =>
       have hd : StillCall P ops S oi v { a with defers := d :: a.defers } := hy.same rfl rfl
       refine ⟨hd.same (execOp_put oi hsi _ oj.dst undef h3) (wanted_put oi _ oj.dst undef h3), ?_⟩
       simp only [Oper.upon] at h
       rw [← Act.put_comm _ v undef h2, ← Act.put_defers]
       exact h
     | .ok (.enter f args) w', h =>
       refine Calls.mono h fun e w'' he => ?_
       match e, he with
       | .returned u, he => exact fin he
       | .panicked c, he => exact hQ _ _ _ he
       | .outgrown, he => exact he
     | .ok (.row row args) w', h => exact Rows.mono h fun u w'' he => fin he
     | .halt x w', h =>
       cases x <;> simp only [Oper.upon] at h ⊢
       case panic u => exact hQ _ _ _ h
   · exact .inr ⟨by unfold Oper.asks at *; rw [execOp_put oj hsj a oi.dst v h1] at hasks; exact hasks, hlets⟩
 · rw [if_neg hw] at h ⊢
   exact fin h
theorem first_call {i : Nat} {oi : Oper} {v : Value} (hi : ops[i]? = some oi) (hsel : ∀ (j : Nat) (o : Oper) cs b, ops[j]? = some o → o.op ≠ .select cs b)
 (hQ : ∀ c a w, Q (.panic c) (a.put oi.dst v) w → Q (.panic c) a w) :
 ∀ (fuel : Nat) (listed : Array Bool) (a : Act) (w : World),
  (∀ j oj, ops[j]? = some oj → j ≠ i → listed.getD j true = false → (∀ e ∈ oj.after, Region.binds md e = true → e.on ≠ i) → oi.apart ops oj = true) →
  i ∈ Region.ready md ops listed → StillCall P ops S oi v a → S w →
  wpAnyH P md ops Q S fuel (listed.setIfInBounds i true) (a.put oi.dst v) w → wpAnyH P md ops Q S (fuel + 1) listed a w
 | fuel, listed, a, w, hfree, hr, hy, hS, H => by
   refine ⟨fun h => by rw [h] at hr; (cases hr), fun j hj => ?_⟩
   by_cases hji : j = i
   · subst hji; exact hy.now hi hS ⟨hS, H⟩
   · have hj' := ready_mono hj hji
     match fuel, H with
     | 0, H => rw [H.1] at hj'; cases hj'
     | fuel + 1, H =>
       obtain ⟨hjun, oj, hoj, hall⟩ := mem_ready.1 hj
       have hnot : ∀ e ∈ oj.after, Region.binds md e = true → e.on ≠ i := fun e he hb heq => by
        have h1 := hall e he hb
        have h0 := (mem_ready.1 hr).1
        rw [heq] at h1
        rcases Nat.lt_or_ge i listed.size with h' | h'
        · simp [h'] at h0 h1; rw [h0] at h1; cases h1
        · simp [Array.getElem?_eq_none h'] at h1
       have h2 := other_call hoj (hfree j oj hoj hji hjun hnot) (fun cs b => hsel i oi cs b hi) (fun cs b => hsel j oj cs b hoj) hQ hy (H.2 j hj')
       refine wpOp_mono (fun a' w' h3 => ⟨h3.2.1, first_call hi hsel hQ fuel (listed.setIfInBounds j true) a' w' (fun k ok hk hki hun hno => hfree k ok hk hki ?_ hno) (ready_mono hr (Ne.symm hji)) h3.1 h3.2.1 (by rw [Array.setIfInBounds_comm _ _ hji]; exact h3.2.2)⟩) h2
       by_cases hjk : j = k
       · subst hjk; exact hjun
       · rw [getD_set_ne true hjk] at hun; exact hun
theorem take_call {i : Nat} {oi : Oper} {v : Value} {fuel : Nat} {listed : Array Bool} {a : Act} {w : World} (hi : ops[i]? = some oi)
 (hs : Region.noSelect ops = true) (hf : Region.free md ops listed i = true) (hr : (Region.ready md ops listed).contains i = true)
 (hQ : ∀ c a w, Q (.panic c) (a.put oi.dst v) w → Q (.panic c) a w) (f : FuncId) (xs : Array Operand) (ts : Array TypeId) (ho : oi.op = .call { callee := .value (.func f), args := xs, argTypes := ts })
 (hw : Region.wanted oi (yielded ops a.tmps) = true) (av : Array Value) (hcall : ∀ args w, (callFunc f args).run P w = .ok (.enter f args) w) (hx : xs.map a.eval = av)
 (hC : ∀ w, Calls P f av w fun e w' => e = .returned v ∧ w' = w) (hS : S w)
 (h : wpAnyH P md ops Q S fuel (listed.setIfInBounds i true) (a.put oi.dst v) w) : wpAnyH P md ops Q S (fuel + 1) listed a w := by
 refine first_call hi (Region.noSelect_spec hs) hQ fuel listed a w (Region.free_spec hi hf) (by simpa using hr) ⟨hw, f, av, fun w _ => ⟨?_, hC w⟩⟩ hS h
 unfold execOp
 have he : a.eval (.func f) = .func (.func f) #[] #[] := rfl
 simp only [ho, resolve, invoke, Sem.run_bind, he, hx, Deferred.ofValue, Sem.run_pure, Result.andThen_ok, Array.append_empty, Array.empty_append, hcall]
theorem tC {i : Nat} {oi : Oper} {v : Value} {fuel : Nat} {listed : Array Bool} {a : Act} {w : World} (f : FuncId) (xs : Array Operand) (av : Array Value) (hcall : ∀ args w, (callFunc f args).run P w = .ok (.enter f args) w)
 (hC : ∀ w, Calls P f av w fun e w' => e = .returned v ∧ w' = w) (hS : S w)
 (h : wpAnyH P md ops Q S fuel (listed.setIfInBounds i true) (a.put oi.dst v) w) {ts : Array TypeId} (hi : ops.toList[i]? = some oi := by rfl)
 (hs : Region.noSelect ops = true := by kernel_rfl) (hf : Region.free md ops listed i = true := by kernel_rfl) (hr : (Region.ready md ops listed).contains i = true := by kernel_rfl)
 (ho : oi.op = .call { callee := .value (.func f), args := xs, argTypes := ts } := by rfl)
 (hw : Region.wanted oi (yielded ops a.tmps) = true := by rfl) (hx : xs.map a.eval = av := by go_simp)
 (hQ : ∀ c a w, Q (.panic c) (a.put oi.dst v) w → Q (.panic c) a w := by exact fun _ _ _ h => h) : wpAnyH P md ops Q S (fuel + 1) listed a w :=
 take_call (by simpa using hi) hs hf hr hQ f xs ts ho hw av hcall hx hC hS h
end
end Go.Proofs.YtboijogahclekaaGreatDoor
