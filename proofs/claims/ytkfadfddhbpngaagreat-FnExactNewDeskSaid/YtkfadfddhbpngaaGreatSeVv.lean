/- The program's own setups: stores and settings. Conditions: none. -/
import Derived.Test.YtkfadfddhbpngaaGreatLabelv
import Derived.Test.YtkfadfddhbpngaaGreatPgMathv
import Derived.Test.YtkfadfddhbpngaaGreatPgImplv
namespace Go.Proofs.YtkfadfddhbpngaaGreat
open Go Go.RowKit


set_option maxRecDepth 100000 in
set_option maxHeartbeats 400000 in
theorem IndexFunc_Feat {o : Bool} {e : TypeId} {xs : List PFeat} {v : Value} {F : List Nat} (K : FuncId) (p : PFeat → Bool) (w : World) (h : (pFeats e).rep o w xs [v] F) (hx : xs.length ≤ 1048576)
 (hK : ∀ args w, (callFunc K args).run Tryz.prog w = .ok (.enter K args) w) (hf : ∀ s ∈ xs, ∀ w : World, Calls Tryz.prog K #[.agg #[.int .i64 s.x, .int .i64 s.y, .int .i64 s.d]] w fun e w' => e = .returned (.bool (p s)) ∧ Below w.heap.size w w') :
 Calls Tryz.prog 253 #[v, .func (.func K) #[] #[]] w (FoundAt (xs.any p) w) := by
 obtain ⟨A, c, rfl, hc1, hc2, hr⟩ := pFeats_open h
 clear h
 have HF := Lib.hid hf
 clear hf
 go_enter Tryz.func253, Tryz.ntmps253
 go_wp2_with fail
 go_loopw [8] (fun i wr => ∃ k : Nat, k ≤ xs.length ∧ i = .int .i64 k ∧ Hid ((xs.take k).any p = false) ∧ Below w.heap.size w wr) (fun i _ => xs.length - (intOf i).toNat)
 case atStart => exact ⟨0, Nat.zero_le _, rfl, rfl, Below.refl _ _⟩
 case round =>
  obtain ⟨k, hk, rfl, hno, hb⟩ := hrel
  have hbs := hb.size
  by_cases hlt : k < xs.length
  · obtain ⟨b, off, rfl, hbb, _, h0, h1, h2, _⟩ := hr k hlt
    rw [← hb.cell (p := ⟨b, _, none⟩) hbb] at h0 h1 h2
    clear hr
    go_wp2_with fail
    refine (HF.out xs[k] (List.getElem_mem hlt) _).mono ?_
    rintro e w1 ⟨rfl, hb1⟩
    cases hp : p xs[k]
    · have HP := Lib.hid hp
      clear hp
      go_wp2_with fail
      go_roundw
      case rel => exact ⟨k + 1, by omega, by go_num, (by show _ = _; rw [List.take_succ_eq_append_getElem hlt, List.any_append, hno.out]; simp [HP.out]), hb.trans (hb1.mono hbs)⟩
      case measure => simp [intOf]; omega
    · have HP := Lib.hid hp
      clear hp
      go_wp2_with fail
      go_ret
      refine ⟨_, rfl, ?_, hb.trans (hb1.mono hbs)⟩
      have : xs.any p = true := List.any_eq_true.2 ⟨xs[k], List.getElem_mem hlt, HP.out⟩
      rw [this]; simp
  · obtain rfl : k = xs.length := by omega
    go_wp2_with fail
    go_ret
    refine ⟨_, rfl, ?_, hb⟩
    have := hno.out
    rw [List.take_length] at this
    rw [this]; rfl
set_option maxRecDepth 100000 in
set_option maxHeartbeats 400000 in
theorem ContainsFunc_Feat {o : Bool} {e : TypeId} {xs : List PFeat} {v : Value} {F : List Nat} (K : FuncId) (p : PFeat → Bool) (w : World) (h : (pFeats e).rep o w xs [v] F) (hx : xs.length ≤ 1048576)
 (hK : ∀ args w, (callFunc K args).run Tryz.prog w = .ok (.enter K args) w) (hf : ∀ s ∈ xs, ∀ w : World, Calls Tryz.prog K #[.agg #[.int .i64 s.x, .int .i64 s.y, .int .i64 s.d]] w fun e w' => e = .returned (.bool (p s)) ∧ Below w.heap.size w w') :
 Calls Tryz.prog 247 #[v, .func (.func K) #[] #[]] w fun e w' => e = .returned (.bool (xs.any p)) ∧ Below w.heap.size w w' := by
 have C := IndexFunc_Feat K p w h hx hK hf
 have HC := Lib.hid C
 clear C hf hK
 go_enter Tryz.func247, Tryz.ntmps247
 go_wp2_with fail
 refine HC.out.mono ?_
 rintro e w1 ⟨r, rfl, hr, hb⟩
 go_wp2_with fail
 all_goals go_ret
 all_goals first | exact ⟨ret_boolF hr, hb⟩ | exact ⟨rfl, hb⟩

set_option maxRecDepth 100000 in
set_option maxHeartbeats 400000 in
theorem IndexFunc_Template {o : Bool} {pe e : TypeId} {xs : List PTemp} {v : Value} {F : List Nat} (K : FuncId) (p : PTemp → Bool) (w : World) (h : (pTemps pe e).rep o w xs [v] F) (hx : xs.length ≤ 1048576)
 (hK : ∀ args w, (callFunc K args).run Tryz.prog w = .ok (.enter K args) w) (hf : ∀ s ∈ xs, ∀ (w : World) (u : Value) (G : List Nat), (pFeats pe).rep o w s.feats [u] G → Calls Tryz.prog K #[.agg #[.string s.label, u]] w fun e w' => e = .returned (.bool (p s)) ∧ Below w.heap.size w w') :
 Calls Tryz.prog 215 #[v, .func (.func K) #[] #[]] w (FoundAt (xs.any p) w) := by
 obtain ⟨A, c, rfl, hc1, hc2, hr⟩ := pTemps_open h
 clear h
 have HF := Lib.hid hf
 clear hf
 go_enter Tryz.func215, Tryz.ntmps215
 go_wp2_with fail
 go_loopw [8] (fun i wr => ∃ k : Nat, k ≤ xs.length ∧ i = .int .i64 k ∧ Hid ((xs.take k).any p = false) ∧ Below w.heap.size w wr) (fun i _ => xs.length - (intOf i).toNat)
 case atStart => exact ⟨0, Nat.zero_le _, rfl, rfl, Below.refl _ _⟩
 case round =>
  obtain ⟨k, hk, rfl, hno, hb⟩ := hrel
  have hbs := hb.size
  by_cases hlt : k < xs.length
  · obtain ⟨b, off, u, Fk, rfl, hbb, _, hls, hrk, _, h0, h1⟩ := hr k hlt
    rw [← hb.cell (p := ⟨b, _, none⟩) hbb] at h0 h1
    obtain ⟨Au, cu, rfl⟩ := slice_len hrk
    have hrk := hrk.below hb
    have HRK := Lib.hid hrk
    clear hr hrk
    go_wp2_with fail
    refine (HF.out xs[k] (List.getElem_mem hlt) _ _ _ HRK.out).mono ?_
    rintro e w1 ⟨rfl, hb1⟩
    cases hp : p xs[k]
    · have HP := Lib.hid hp
      clear hp
      go_wp2_with fail
      go_roundw
      case rel => exact ⟨k + 1, by omega, by go_num, (by show _ = _; rw [List.take_succ_eq_append_getElem hlt, List.any_append, hno.out]; simp [HP.out]), hb.trans (hb1.mono hbs)⟩
      case measure => simp [intOf]; omega
    · have HP := Lib.hid hp
      clear hp
      go_wp2_with fail
      go_ret
      refine ⟨_, rfl, ?_, hb.trans (hb1.mono hbs)⟩
      have : xs.any p = true := List.any_eq_true.2 ⟨xs[k], List.getElem_mem hlt, HP.out⟩
      rw [this]; simp
  · obtain rfl : k = xs.length := by omega
    go_wp2_with fail
    go_ret
    refine ⟨_, rfl, ?_, hb⟩
    have := hno.out
    rw [List.take_length] at this
    rw [this]; rfl
set_option maxRecDepth 100000 in
set_option maxHeartbeats 400000 in
theorem ContainsFunc_Template {o : Bool} {pe e : TypeId} {xs : List PTemp} {v : Value} {F : List Nat} (K : FuncId) (p : PTemp → Bool) (w : World) (h : (pTemps pe e).rep o w xs [v] F) (hx : xs.length ≤ 1048576)
 (hK : ∀ args w, (callFunc K args).run Tryz.prog w = .ok (.enter K args) w) (hf : ∀ s ∈ xs, ∀ (w : World) (u : Value) (G : List Nat), (pFeats pe).rep o w s.feats [u] G → Calls Tryz.prog K #[.agg #[.string s.label, u]] w fun e w' => e = .returned (.bool (p s)) ∧ Below w.heap.size w w') :
 Calls Tryz.prog 179 #[v, .func (.func K) #[] #[]] w fun e w' => e = .returned (.bool (xs.any p)) ∧ Below w.heap.size w w' := by
 have C := IndexFunc_Template K p w h hx hK hf
 have HC := Lib.hid C
 clear C hf hK
 go_enter Tryz.func179, Tryz.ntmps179
 go_wp2_with fail
 refine HC.out.mono ?_
 rintro e w1 ⟨r, rfl, hr, hb⟩
 go_wp2_with fail
 all_goals go_ret
 all_goals first | exact ⟨ret_boolF hr, hb⟩ | exact ⟨rfl, hb⟩

set_option maxHeartbeats 400000 in
theorem impl_ValidFeat_c (s : PFeat) (w : World) :
 Calls Tryz.prog 249 #[.agg #[.int .i64 s.x, .int .i64 s.y, .int .i64 s.d]] w fun e w' => e = .returned (.bool (featB s)) ∧ Below w.heap.size w w' := by
 have al : Below w.heap.size w (w.alloc (.cells #[.int .i64 s.x, .int .i64 s.y, .int .i64 s.d] 224)) := (Below.refl _ _).alloc (Nat.le_refl _) _
 have H0 := Lib.hid (impl_inR_c s.x 0 255)
 have H1 := Lib.hid (impl_inR_c s.y 0 255)
 have H2 := Lib.hid (impl_inR_c s.d 0 7)
 unfold featB
 generalize inR s.x 0 255 = d0 at H0 ⊢
 generalize inR s.y 0 255 = d1 at H1 ⊢
 generalize inR s.d 0 7 = d2 at H2 ⊢
 cases d0 <;> cases d1
 all_goals
  go_enter Tryz.func249, Tryz.ntmps249
  go_wp2_with (first | (go_at_call_of 120 (Value.int .i64 s.x); refine (H0.out _).mono ?_; rintro e w1 ⟨rfl, rfl⟩) | (go_at_call_of 120 (Value.int .i64 s.y); refine (H1.out _).mono ?_; rintro e w1 ⟨rfl, rfl⟩) | (go_at_call_of 120 (Value.int .i64 s.d); refine (H2.out _).mono ?_; rintro e w1 ⟨rfl, rfl⟩))
  go_ret
  exact ⟨rfl, al⟩
set_option maxHeartbeats 400000 in
theorem impl_ValidSetting_c (s : PSetting) (w : World) :
 Calls Tryz.prog 117 #[.agg #[.int .i64 s.points, .int .i64 s.most, .int .i64 s.pen]] w fun e w' => e = .returned (.bool (settingB s)) ∧ Below w.heap.size w w' := by
 have al : Below w.heap.size w (w.alloc (.cells #[.int .i64 s.points, .int .i64 s.most, .int .i64 s.pen] 53)) := (Below.refl _ _).alloc (Nat.le_refl _) _
 have H0 := Lib.hid (impl_inR_c s.points 2 24)
 have H1 := Lib.hid (impl_inR_c s.most 1 8)
 have H2 := Lib.hid (impl_inR_c s.pen 0 1000)
 unfold settingB
 generalize inR s.points 2 24 = d0 at H0 ⊢
 generalize inR s.most 1 8 = d1 at H1 ⊢
 generalize inR s.pen 0 1000 = d2 at H2 ⊢
 cases d0 <;> cases d1
 all_goals
  go_enter Tryz.func117, Tryz.ntmps117
  go_wp2_with (first | (go_at_call_of 120 (Value.int .i64 s.points); refine (H0.out _).mono ?_; rintro e w1 ⟨rfl, rfl⟩) | (go_at_call_of 120 (Value.int .i64 s.most); refine (H1.out _).mono ?_; rintro e w1 ⟨rfl, rfl⟩) | (go_at_call_of 120 (Value.int .i64 s.pen); refine (H2.out _).mono ?_; rintro e w1 ⟨rfl, rfl⟩))
  go_ret
  exact ⟨rfl, al⟩
set_option maxHeartbeats 400000 in
theorem impl_areFeats1_c (s : PFeat) (w : World) :
 Calls Tryz.prog 248 #[.agg #[.int .i64 s.x, .int .i64 s.y, .int .i64 s.d]] w fun e w' => e = .returned (.bool (!featB s)) ∧ Below w.heap.size w w' := by
 have C := Lib.hid (impl_ValidFeat_c s)
 generalize featB s = d at C ⊢
 have al : Below w.heap.size w (w.alloc (.cells #[.int .i64 s.x, .int .i64 s.y, .int .i64 s.d] 224)) := (Below.refl _ _).alloc (Nat.le_refl _) _
 go_enter Tryz.func248, Tryz.ntmps248
 go_wp2_with fail
 refine (C.out _).mono ?_
 rintro e w1 ⟨rfl, b1⟩
 go_wp2_with fail
 go_ret
 exact ⟨rfl, al.trans (b1.mono al.size)⟩
set_option maxRecDepth 100000 in
set_option maxHeartbeats 1000000 in
theorem impl_areFeats_c {o : Bool} {e : TypeId} {xs : List PFeat} {v : Value} {F : List Nat} (w : World) (h : (pFeats e).rep o w xs [v] F) (hx : xs.length ≤ 1048576) :
 Calls Tryz.prog 238 #[v, .int .i64 72] w fun e w' => e = .returned (.bool (featsB xs)) ∧ Below w.heap.size w w' := by
 have C := ContainsFunc_Feat 248 (fun s => !featB s) w h hx Tryz.call248 (fun s _ w => impl_areFeats1_c s w)
 have he : (xs.any fun s => !featB s) = !xs.all featB := by simp [List.any_eq_not_all_not]
 rw [he] at C
 have hfb : featsB xs = (xs.all featB && (decide (1 ≤ xs.length) && decide (xs.length ≤ 72))) := rfl
 rw [hfb]
 generalize xs.all featB = d at C ⊢
 have HC := Lib.hid C
 clear C he hfb
 obtain ⟨A, c, rfl⟩ := slice_len h
 by_cases h1 : 1 ≤ xs.length
 · have g1 : ((1 : Int) ≤ (xs.length : Int)) = True := eq_true (by omega)
   by_cases h2 : xs.length ≤ 72
   · have g2 : ((xs.length : Int) ≤ 72) = True := eq_true (by omega)
     rw [decide_eq_true h1, decide_eq_true h2]
     clear h1 h2
     go_enter Tryz.func238, Tryz.ntmps238
     go_wp2_with fail
     refine HC.out.mono ?_
     rintro e w1 ⟨rfl, b1⟩
     go_wp2_with fail
     go_ret
     exact ⟨by cases d <;> rfl, b1⟩
   · have g2 : ((xs.length : Int) ≤ 72) = False := eq_false (by omega)
     rw [decide_eq_true h1, decide_eq_false h2]
     clear h1 h2
     go_enter Tryz.func238, Tryz.ntmps238
     go_wp2_with fail
     go_ret
     exact ⟨by cases d <;> rfl, Below.refl _ _⟩
 · have g1 : ((1 : Int) ≤ (xs.length : Int)) = False := eq_false (by omega)
   rw [decide_eq_false h1]
   clear h1
   go_enter Tryz.func238, Tryz.ntmps238
   go_wp2_with fail
   go_ret
   exact ⟨by cases d <;> rfl, Below.refl _ _⟩
set_option maxHeartbeats 400000 in
theorem impl_ValidSeq_c {o : Bool} {e : TypeId} {xs : List PFeat} {v : Value} {F : List Nat} (w : World) (h : (pFeats e).rep o w xs [v] F) (hx : xs.length ≤ 1048576) :
 Calls Tryz.prog 217 #[v] w fun e w' => e = .returned (.bool (featsB xs)) ∧ Below w.heap.size w w' := by
 have C := Lib.hid (impl_areFeats_c w h hx)
 generalize featsB xs = d at C ⊢
 obtain ⟨A, c, rfl⟩ := slice_len h
 go_enter Tryz.func217, Tryz.ntmps217
 go_wp2_with fail
 refine C.out.mono ?_
 rintro e w1 ⟨rfl, b1⟩
 go_wp2_with fail
 go_ret
 exact ⟨rfl, b1⟩
set_option maxHeartbeats 400000 in
theorem impl_validTemplate_c {o : Bool} {e : TypeId} {t : PTemp} {v : Value} {F : List Nat} (w : World) (h : (pFeats e).rep o w t.feats [v] F) (hx : t.feats.length ≤ 1048576) (hl : t.label.size ≤ 1048576) :
 Calls Tryz.prog 181 #[.agg #[.string t.label, v]] w fun e w' => e = .returned (.bool (tempB t)) ∧ Below w.heap.size w w' := by
 have C1 := Lib.hid (fun w' => impl_IsLabel_c t.label w' hl)
 have C2 := Lib.hid (fun w' (q : (pFeats e).rep o w' t.feats [v] F) => impl_ValidSeq_c w' q hx)
 unfold tempB
 generalize labelB t.label = d1 at C1 ⊢
 generalize featsB t.feats = d2 at C2 ⊢
 have al : Below w.heap.size w (w.alloc (.cells #[.string t.label, v] 215)) := (Below.refl _ _).alloc (Nat.le_refl _) _
 replace h := h.alloc (.cells #[.string t.label, v] 215)
 have R := Row.new w 215 #[.string t.label, v]
 obtain ⟨A, c, rfl⟩ := slice_len h
 cases d1
 · go_enter Tryz.func181, Tryz.ntmps181
   go_wp2_with fail
   refine (C1.out _).mono ?_
   rintro e w1 ⟨rfl, rfl⟩
   go_wp2_with fail
   go_ret
   exact ⟨rfl, al⟩
 · go_enter Tryz.func181, Tryz.ntmps181
   go_wp2_with fail
   refine (C1.out _).mono ?_
   rintro e w1 ⟨rfl, rfl⟩
   go_wp2_with fail
   refine (C2.out _ h).mono ?_
   rintro e w2 ⟨rfl, b2⟩
   go_wp2_with fail
   go_ret
   exact ⟨rfl, al.trans (b2.mono al.size)⟩
set_option maxHeartbeats 400000 in
theorem impl_ValidStore1_c {o : Bool} {e : TypeId} {t : PTemp} {v : Value} {F : List Nat} (w : World) (h : (pFeats e).rep o w t.feats [v] F) (hx : t.feats.length ≤ 1048576) (hl : t.label.size ≤ 1048576) :
 Calls Tryz.prog 180 #[.agg #[.string t.label, v]] w fun e w' => e = .returned (.bool (!tempB t)) ∧ Below w.heap.size w w' := by
 have C := Lib.hid (fun w' (q : (pFeats e).rep o w' t.feats [v] F) => impl_validTemplate_c w' q hx hl)
 generalize tempB t = d at C ⊢
 have al : Below w.heap.size w (w.alloc (.cells #[.string t.label, v] 215)) := (Below.refl _ _).alloc (Nat.le_refl _) _
 obtain ⟨A, c, rfl⟩ := slice_len h
 go_enter Tryz.func180, Tryz.ntmps180
 go_wp2_with fail
 refine (C.out _ (h.alloc _)).mono ?_
 rintro e w1 ⟨rfl, b1⟩
 go_wp2_with fail
 go_ret
 exact ⟨rfl, al.trans (b1.mono al.size)⟩
set_option maxRecDepth 100000 in
set_option maxHeartbeats 1000000 in
theorem impl_ValidStore_c {o : Bool} {pe e : TypeId} {p : PSetup} {v : Value} {F : List Nat} (w : World) (h : (pTemps pe e).rep o w p.temps [v] F) (hp : SeSmall p) (hb : SeBytes p) :
 Calls Tryz.prog 116 #[.agg #[.int .i64 p.band, v]] w fun e w' => e = .returned (.bool (storeB p)) ∧ Below w.heap.size w w' := by
 have C1 := Lib.hid (impl_inR_c p.band 0 72)
 have he : (p.temps.any fun s => !tempB s) = !p.temps.all tempB := by simp [List.any_eq_not_all_not]
 have C2 : Hid (∀ w', (pTemps pe e).rep o w' p.temps [v] F → Calls Tryz.prog 179 #[v, .func (.func 180) #[] #[]] w' fun e w'' => e = .returned (.bool (!p.temps.all tempB)) ∧ Below w'.heap.size w' w'') := by
  intro w' q
  have := ContainsFunc_Template 180 (fun s => !tempB s) w' q hp.t Tryz.call180 (fun s hs w u G r => impl_ValidStore1_c w r (hp.f s hs) (hb.t s hs))
  rwa [he] at this
 unfold storeB
 generalize inR p.band 0 72 = d1 at C1 ⊢
 generalize p.temps.all tempB = d2 at C2 ⊢
 have al : Below w.heap.size w (w.alloc (.cells #[.int .i64 p.band, v] 52)) := (Below.refl _ _).alloc (Nat.le_refl _) _
 replace h := h.alloc (.cells #[.int .i64 p.band, v] 52)
 obtain ⟨A, c, rfl⟩ := slice_len h
 clear he
 cases d1
 · go_enter Tryz.func116, Tryz.ntmps116
   go_wp2_with fail
   refine (C1.out _).mono ?_
   rintro e w1 ⟨rfl, rfl⟩
   go_wp2_with fail
   go_ret
   exact ⟨by cases d2 <;> rfl, al⟩
 · by_cases h2 : p.temps.length ≤ 40
   · have g2 : ((p.temps.length : Int) ≤ 40) = True := eq_true (by omega)
     rw [decide_eq_true h2]
     clear h2
     go_enter Tryz.func116, Tryz.ntmps116
     go_wp2_with fail
     refine (C1.out _).mono ?_
     rintro e w1 ⟨rfl, rfl⟩
     go_wp2_with fail
     refine (C2.out _ h).mono ?_
     rintro e w2 ⟨rfl, b2⟩
     go_wp2_with fail
     go_ret
     exact ⟨by cases d2 <;> rfl, al.trans (b2.mono al.size)⟩
   · have g2 : ((p.temps.length : Int) ≤ 40) = False := eq_false (by omega)
     rw [decide_eq_false h2]
     clear h2
     go_enter Tryz.func116, Tryz.ntmps116
     go_wp2_with fail
     refine (C1.out _).mono ?_
     rintro e w1 ⟨rfl, rfl⟩
     go_wp2_with fail
     go_ret
     exact ⟨by cases d2 <;> rfl, al⟩
theorem impl_isCost_c (n : Int) (w : World) :
 Calls Tryz.prog 182 #[.int .i64 n] w fun e w' => e = .returned (.bool (costB n)) ∧ w' = w := by
 have C := impl_inR_c n 0 1000000
 unfold costB
 generalize inR n 0 1000000 = b at C
 have HC := Lib.hid C
 clear C
 go_enter Tryz.func182, Tryz.ntmps182
 go_wp2_with fail
 refine (HC.out _).mono ?_
 rintro e w1 ⟨rfl, rfl⟩
 go_wp2_with fail
 go_ret
 exact ⟨rfl, rfl⟩
end Go.Proofs.YtkfadfddhbpngaaGreat
