/- Setups and sessions: which are valid, as plain data; the order of bigrams. Conditions: none. -/
import Derived.Test.YtkkignkoneeieaaGreatTyTempm
import Derived.Test.YtkkignkoneeieaaGreatConfm
import Derived.Test.YtkkignkoneeieaaGreatEqStrm
import Derived.Test.YtkkignkoneeieaaGreatInkEm
import Derived.Test.YtkkignkoneeieaaGreatLabelm
import Derived.Test.YtkkignkoneeieaaGreatPgMathm
import Derived.Test.YtkkignkoneeieaaGreatFindm
import Derived.Test.YtkkignkoneeieaaGreatPgWordsm
import Derived.Test.YtkkignkoneeieaaGreatCmpm
namespace Go.Proofs.YtkkignkoneeieaaGreat
open Go Go.RowKit
theorem pa174_1 (l : List Value) (i : Nat) (a : Value) : l.toArray.setIfInBounds i a = (l.set i a).toArray := List.setIfInBounds_toArray ..
theorem pb174_1 (a b : Value) (l : List Value) : (a :: l).set 0 b = b :: l := List.set_cons_zero ..
theorem pc174_1 (a b : Value) (l : List Value) (n : Nat) : (a :: l).set (n + 1) b = a :: l.set n b := List.set_cons_succ ..
theorem tk174_1 {P : Program} {md : Region.Mode} {ops : Array Oper} {Q : Exit → Act → World → Prop} {S : World → Prop} {i : Nat} {oi : Oper} {v : Value} {fuel : Nat} {listed : Array Bool} {a : Act} {w : World} (hi : ops[i]? = some oi)
    (hs : (Region.noSelect ops && (Region.free md ops listed i && (Region.ready md ops listed).contains i)) = true) (hQ : ∀ c a w, Q (.panic c) (a.put oi.dst v) w → Q (.panic c) a w) (hy : YieldsIf P ops S oi v a) (hS : S w)
    (h : wpAnyH P md ops Q S fuel (listed.setIfInBounds i true) (a.put oi.dst v) w) : wpAnyH P md ops Q S (fuel + 1) listed a w := by
  simp only [Bool.and_eq_true] at hs
  exact wpAnyH_take hi hs.1 hs.2.1 hs.2.2 hQ hy hS h
abbrev zo174_1_0 : Oper := { dst := some 5, op := Go.Op.fieldAddr 190 (Go.Operand.tmp 2) 0, type := 0, pos := "l18_language.go:35", after := #[], guard := none }
abbrev zo174_1_1 : Oper := { dst := some 6, op := Go.Op.load 9 (Go.Operand.tmp 5), type := 9, pos := "l18_language.go:35", after := #[{ on := 0, ground := Go.Ground.data }], guard := none }
abbrev zo174_1_2 : Oper := { dst := some 7, op := Go.Op.fieldAddr 190 (Go.Operand.tmp 3) 0, type := 0, pos := "l18_language.go:35", after := #[], guard := none }
abbrev zo174_1_3 : Oper := { dst := some 8, op := Go.Op.load 9 (Go.Operand.tmp 7), type := 9, pos := "l18_language.go:35", after := #[{ on := 2, ground := Go.Ground.data }], guard := none }
abbrev zo174_1_4 : Oper := { dst := some 9, op := Go.Op.call { callee := Go.Callee.value (Go.Operand.func 218), args := #[Go.Operand.tmp 6, Go.Operand.tmp 8], argTypes := #[9, 9] }, type := 3, pos := "l18_language.go:35", after := #[{ on := 1, ground := Go.Ground.data }, { on := 3, ground := Go.Ground.data }], guard := none }
abbrev zo174_1_5 : Oper := { dst := some 10, op := Go.Op.fieldAddr 190 (Go.Operand.tmp 2) 1, type := 0, pos := "l18_language.go:35", after := #[], guard := none }
abbrev zo174_1_6 : Oper := { dst := some 11, op := Go.Op.load 9 (Go.Operand.tmp 10), type := 9, pos := "l18_language.go:35", after := #[{ on := 5, ground := Go.Ground.data }], guard := none }
abbrev zo174_1_7 : Oper := { dst := some 12, op := Go.Op.fieldAddr 190 (Go.Operand.tmp 3) 1, type := 0, pos := "l18_language.go:35", after := #[], guard := none }
abbrev zo174_1_8 : Oper := { dst := some 13, op := Go.Op.load 9 (Go.Operand.tmp 12), type := 9, pos := "l18_language.go:35", after := #[{ on := 7, ground := Go.Ground.data }], guard := none }
abbrev zo174_1_9 : Oper := { dst := some 14, op := Go.Op.call { callee := Go.Callee.value (Go.Operand.func 218), args := #[Go.Operand.tmp 11, Go.Operand.tmp 13], argTypes := #[9, 9] }, type := 3, pos := "l18_language.go:35", after := #[{ on := 6, ground := Go.Ground.data }, { on := 8, ground := Go.Ground.data }, { on := 4, ground := Go.Ground.chain }], guard := none }
abbrev zo174_1_10 : Oper := { dst := some 15, op := Go.Op.buildSlice 289 2 #[(0, Go.Operand.tmp 9), (1, Go.Operand.tmp 14)], type := 289, pos := "l18_language.go:35", after := #[{ on := 4, ground := Go.Ground.data }, { on := 9, ground := Go.Ground.data }], guard := none }
abbrev zo174_1_11 : Oper := { dst := some 16, op := Go.Op.call { callee := Go.Callee.value (Go.Operand.func 217), args := #[Go.Operand.tmp 15], argTypes := #[289] }, type := 3, pos := "l18_language.go:35", after := #[{ on := 10, ground := Go.Ground.data }, { on := 9, ground := Go.Ground.chain }], guard := none }
abbrev zo174_1_12 : Oper := { dst := some 4, op := Go.Op.assign (Go.Operand.tmp 16), type := 3, pos := "l18_language.go:35", after := #[{ on := 11, ground := Go.Ground.data }, { on := 11, ground := Go.Ground.chain }, { on := 0, ground := Go.Ground.phase }, { on := 1, ground := Go.Ground.phase }, { on := 2, ground := Go.Ground.phase }, { on := 3, ground := Go.Ground.phase }, { on := 4, ground := Go.Ground.phase }, { on := 5, ground := Go.Ground.phase }, { on := 6, ground := Go.Ground.phase }, { on := 7, ground := Go.Ground.phase }, { on := 8, ground := Go.Ground.phase }, { on := 9, ground := Go.Ground.phase }, { on := 10, ground := Go.Ground.phase }, { on := 11, ground := Go.Ground.phase }], guard := none }

def featB (f : PFeat) : Bool := inR f.x 0 255 && (inR f.y 0 255 && inR f.d 0 7)
def featsB (fs : List PFeat) : Bool := fs.all featB && (decide (1 ≤ fs.length) && decide (fs.length ≤ 72))
def tempB (t : PTemp) : Bool := labelB t.label && featsB t.feats
def storeB (p : PSetup) : Bool := p.temps.all tempB && (inR p.band 0 72 && decide (p.temps.length ≤ 40))
def settingB (p : PSetting) : Bool := inR p.points 2 24 && (inR p.most 1 8 && inR p.pen 0 1000)
def costB (n : Int) : Bool := inR n 0 1000000
def entAt (xs : List PEntry) (k : Nat) : PEntry := xs.getD k ⟨.empty, 0⟩
def entOk (xs : List PEntry) (k : Nat) : Bool := isWordB (entAt xs k).word && (costB (entAt xs k).cost && (decide (k = 0) || bLess (entAt xs (k - 1)).word (entAt xs k).word))
def entsOk (xs : List PEntry) : Nat → Bool
  | 0 => true
  | k + 1 => entsOk xs k && entOk xs k
def lexB (xs : List PEntry) : Bool := entsOk xs xs.length && decide (xs.length ≤ 60)
def bigKey (b : PBigram) : CKey := (b.first, b.second)
def bigB (b : PBigram) : Bool := isWordB b.second && ((decide (b.first = .empty) || isWordB b.first) && costB b.cost)
def bigAt (xs : List PBigram) (k : Nat) : PBigram := xs.getD k ⟨.empty, .empty, 0⟩
def bigOk (xs : List PBigram) (k : Nat) : Bool := bigB (bigAt xs k) && (decide (k = 0) || cLess (bigKey (bigAt xs (k - 1))) (bigKey (bigAt xs k)))
def bigsOk (xs : List PBigram) : Nat → Bool
  | 0 => true
  | k + 1 => bigsOk xs k && bigOk xs k
def modelB (n : Int) (xs : List PBigram) : Bool := bigsOk xs xs.length && (costB n && decide (xs.length ≤ 60))
def setupB (p : PSetup) : Bool := storeB p && (settingB ⟨p.points, p.most, p.pen⟩ && (lexB p.entries && (modelB p.dflt p.bigrams && inR p.pause 1 60000)))
theorem entAt_get {xs : List PEntry} {k : Nat} (h : k < xs.length) : entAt xs k = xs[k] := by simp [entAt, List.getD_eq_getElem?_getD, List.getElem?_eq_getElem h]
theorem bigAt_get {xs : List PBigram} {k : Nat} (h : k < xs.length) : bigAt xs k = xs[k] := by simp [bigAt, List.getD_eq_getElem?_getD, List.getElem?_eq_getElem h]
theorem upto_false {f : Nat → Bool} {g : Nat → Bool} (hg : ∀ k, g (k + 1) = (g k && f k)) {k : Nat} (h : f k = false) : ∀ n, k < n → g n = false
  | 0, hk => by omega
  | n + 1, hk => by
    by_cases e : k = n
    · subst e; simp [hg, h]
    · rw [hg, upto_false hg h n (by omega)]; rfl
theorem entsOk_false {xs : List PEntry} {k n : Nat} (h : entOk xs k = false) (hk : k < n) : entsOk xs n = false := upto_false (f := entOk xs) (g := entsOk xs) (fun _ => rfl) h n hk
theorem bigsOk_false {xs : List PBigram} {k n : Nat} (h : bigOk xs k = false) (hk : k < n) : bigsOk xs n = false := upto_false (f := bigOk xs) (g := bigsOk xs) (fun _ => rfl) h n hk
/-- The end of ink; -1 if there is none. -/
def inkEndI (xs : List PStroke) : Int := if xs.length = 0 then -1 else (pt (xs.getD (xs.length - 1) []) ((xs.getD (xs.length - 1) []).length - 1)).t
def openB (q : PSess) : Bool := decide (q.opn.length = 0) || (strokeB q.opn && (decide (inkEndI q.strokes < (pt q.opn 0).t) && decide ((pt q.opn (q.opn.length - 1)).t ≤ q.time)))
def sessB (q : PSess) : Bool := setupB q.setup && (inkB q.strokes && (inR q.time 0 3600000 && (decide (inkEndI q.strokes ≤ q.time) && (openB q && (q.words.all isWordB && decide (q.words.length ≤ 60))))))
end Go.Proofs.YtkkignkoneeieaaGreat

/- The program's own setups: stores and settings. Conditions: none. -/
namespace Go.Proofs.YtkkignkoneeieaaGreat
open Go Go.RowKit


set_option maxRecDepth 100000 in
set_option maxHeartbeats 400000 in
theorem IndexFunc_Feat {o : Bool} {e : TypeId} {xs : List PFeat} {v : Value} {F : List Nat} (K : FuncId) (p : PFeat → Bool) (w : World) (h : (pFeats e).rep o w xs [v] F) (hx : xs.length ≤ 1048576)
    (hK : ∀ args w, (callFunc K args).run Tryz.prog w = .ok (.enter K args) w) (hf : ∀ s ∈ xs, ∀ w : World, Calls Tryz.prog K #[.agg #[.int .i64 s.x, .int .i64 s.y, .int .i64 s.d]] w fun e w' => e = .returned (.bool (p s)) ∧ Below w.heap.size w w') :
    Calls Tryz.prog 255 #[v, .func (.func K) #[] #[]] w (FoundAt (xs.any p) w) := by
  obtain ⟨A, c, rfl, hc1, hc2, hr⟩ := pFeats_open h
  clear h
  have HF := Lib.hid hf
  clear hf
  go_enter Tryz.func255, Tryz.ntmps255
  go_wp2_with fail
  go_loopw [8] (fun i wr => ∃ k : Nat, k ≤ xs.length ∧ i = .int .i64 k ∧ Hid ((xs.take k).any p = false) ∧ Below w.heap.size w wr) (fun i _ => xs.length - (intOf i).toNat)
  case atStart => exact ⟨0, Nat.zero_le _, rfl, rfl, Below.refl _ _⟩
  case round =>
    obtain ⟨k, hk, rfl, hno, hb⟩ := hrel
    have hbs := hb.size
    by_cases hlt : k < xs.length
    · obtain ⟨b, off, rfl, hbb, _, h0, h1, h2, _⟩ := hr k hlt
      rw [← hb.cell (p := ⟨b, _, none⟩) hbb] at h0 h1 h2
      clear hr
      go_wp2_with fail
      refine (HF.out xs[k] (List.getElem_mem hlt) _).mono ?_
      rintro e w1 ⟨rfl, hb1⟩
      cases hp : p xs[k]
      · have HP := Lib.hid hp
        clear hp
        go_wp2_with fail
        go_roundw
        case rel => exact ⟨k + 1, by omega, by go_num, (by show _ = _; rw [List.take_succ_eq_append_getElem hlt, List.any_append, hno.out]; simp [HP.out]), hb.trans (hb1.mono hbs)⟩
        case measure => simp [intOf]; omega
      · have HP := Lib.hid hp
        clear hp
        go_wp2_with fail
        go_ret
        refine ⟨_, rfl, ?_, hb.trans (hb1.mono hbs)⟩
        have : xs.any p = true := List.any_eq_true.2 ⟨xs[k], List.getElem_mem hlt, HP.out⟩
        rw [this]; simp
    · obtain rfl : k = xs.length := by omega
      go_wp2_with fail
      go_ret
      refine ⟨_, rfl, ?_, hb⟩
      have := hno.out
      rw [List.take_length] at this
      rw [this]; rfl
set_option maxRecDepth 100000 in
set_option maxHeartbeats 400000 in
theorem ContainsFunc_Feat {o : Bool} {e : TypeId} {xs : List PFeat} {v : Value} {F : List Nat} (K : FuncId) (p : PFeat → Bool) (w : World) (h : (pFeats e).rep o w xs [v] F) (hx : xs.length ≤ 1048576)
    (hK : ∀ args w, (callFunc K args).run Tryz.prog w = .ok (.enter K args) w) (hf : ∀ s ∈ xs, ∀ w : World, Calls Tryz.prog K #[.agg #[.int .i64 s.x, .int .i64 s.y, .int .i64 s.d]] w fun e w' => e = .returned (.bool (p s)) ∧ Below w.heap.size w w') :
    Calls Tryz.prog 249 #[v, .func (.func K) #[] #[]] w fun e w' => e = .returned (.bool (xs.any p)) ∧ Below w.heap.size w w' := by
  have C := IndexFunc_Feat K p w h hx hK hf
  have HC := Lib.hid C
  clear C hf hK
  go_enter Tryz.func249, Tryz.ntmps249
  go_wp2_with fail
  refine HC.out.mono ?_
  rintro e w1 ⟨r, rfl, hr, hb⟩
  go_wp2_with fail
  all_goals go_ret
  all_goals first | exact ⟨ret_boolF hr, hb⟩ | exact ⟨rfl, hb⟩

set_option maxRecDepth 100000 in
set_option maxHeartbeats 400000 in
theorem IndexFunc_Template {o : Bool} {pe e : TypeId} {xs : List PTemp} {v : Value} {F : List Nat} (K : FuncId) (p : PTemp → Bool) (w : World) (h : (pTemps pe e).rep o w xs [v] F) (hx : xs.length ≤ 1048576)
    (hK : ∀ args w, (callFunc K args).run Tryz.prog w = .ok (.enter K args) w) (hf : ∀ s ∈ xs, ∀ (w : World) (u : Value) (G : List Nat), (pFeats pe).rep o w s.feats [u] G → Calls Tryz.prog K #[.agg #[.string s.label, u]] w fun e w' => e = .returned (.bool (p s)) ∧ Below w.heap.size w w') :
    Calls Tryz.prog 214 #[v, .func (.func K) #[] #[]] w (FoundAt (xs.any p) w) := by
  obtain ⟨A, c, rfl, hc1, hc2, hr⟩ := pTemps_open h
  clear h
  have HF := Lib.hid hf
  clear hf
  go_enter Tryz.func214, Tryz.ntmps214
  go_wp2_with fail
  go_loopw [8] (fun i wr => ∃ k : Nat, k ≤ xs.length ∧ i = .int .i64 k ∧ Hid ((xs.take k).any p = false) ∧ Below w.heap.size w wr) (fun i _ => xs.length - (intOf i).toNat)
  case atStart => exact ⟨0, Nat.zero_le _, rfl, rfl, Below.refl _ _⟩
  case round =>
    obtain ⟨k, hk, rfl, hno, hb⟩ := hrel
    have hbs := hb.size
    by_cases hlt : k < xs.length
    · obtain ⟨b, off, u, Fk, rfl, hbb, _, hls, hrk, _, h0, h1⟩ := hr k hlt
      rw [← hb.cell (p := ⟨b, _, none⟩) hbb] at h0 h1
      obtain ⟨Au, cu, rfl⟩ := slice_len hrk
      have hrk := hrk.below hb
      have HRK := Lib.hid hrk
      clear hr hrk
      go_wp2_with fail
      refine (HF.out xs[k] (List.getElem_mem hlt) _ _ _ HRK.out).mono ?_
      rintro e w1 ⟨rfl, hb1⟩
      cases hp : p xs[k]
      · have HP := Lib.hid hp
        clear hp
        go_wp2_with fail
        go_roundw
        case rel => exact ⟨k + 1, by omega, by go_num, (by show _ = _; rw [List.take_succ_eq_append_getElem hlt, List.any_append, hno.out]; simp [HP.out]), hb.trans (hb1.mono hbs)⟩
        case measure => simp [intOf]; omega
      · have HP := Lib.hid hp
        clear hp
        go_wp2_with fail
        go_ret
        refine ⟨_, rfl, ?_, hb.trans (hb1.mono hbs)⟩
        have : xs.any p = true := List.any_eq_true.2 ⟨xs[k], List.getElem_mem hlt, HP.out⟩
        rw [this]; simp
    · obtain rfl : k = xs.length := by omega
      go_wp2_with fail
      go_ret
      refine ⟨_, rfl, ?_, hb⟩
      have := hno.out
      rw [List.take_length] at this
      rw [this]; rfl
set_option maxRecDepth 100000 in
set_option maxHeartbeats 400000 in
theorem ContainsFunc_Template {o : Bool} {pe e : TypeId} {xs : List PTemp} {v : Value} {F : List Nat} (K : FuncId) (p : PTemp → Bool) (w : World) (h : (pTemps pe e).rep o w xs [v] F) (hx : xs.length ≤ 1048576)
    (hK : ∀ args w, (callFunc K args).run Tryz.prog w = .ok (.enter K args) w) (hf : ∀ s ∈ xs, ∀ (w : World) (u : Value) (G : List Nat), (pFeats pe).rep o w s.feats [u] G → Calls Tryz.prog K #[.agg #[.string s.label, u]] w fun e w' => e = .returned (.bool (p s)) ∧ Below w.heap.size w w') :
    Calls Tryz.prog 169 #[v, .func (.func K) #[] #[]] w fun e w' => e = .returned (.bool (xs.any p)) ∧ Below w.heap.size w w' := by
  have C := IndexFunc_Template K p w h hx hK hf
  have HC := Lib.hid C
  clear C hf hK
  go_enter Tryz.func169, Tryz.ntmps169
  go_wp2_with fail
  refine HC.out.mono ?_
  rintro e w1 ⟨r, rfl, hr, hb⟩
  go_wp2_with fail
  all_goals go_ret
  all_goals first | exact ⟨ret_boolF hr, hb⟩ | exact ⟨rfl, hb⟩

set_option maxHeartbeats 400000 in
theorem impl_ValidFeat_c (s : PFeat) (w : World) :
    Calls Tryz.prog 251 #[.agg #[.int .i64 s.x, .int .i64 s.y, .int .i64 s.d]] w fun e w' => e = .returned (.bool (featB s)) ∧ Below w.heap.size w w' := by
  have al : Below w.heap.size w (w.alloc (.cells #[.int .i64 s.x, .int .i64 s.y, .int .i64 s.d] 266)) := (Below.refl _ _).alloc (Nat.le_refl _) _
  have H0 := Lib.hid (impl_inR_c s.x 0 255)
  have H1 := Lib.hid (impl_inR_c s.y 0 255)
  have H2 := Lib.hid (impl_inR_c s.d 0 7)
  unfold featB
  generalize inR s.x 0 255 = d0 at H0 ⊢
  generalize inR s.y 0 255 = d1 at H1 ⊢
  generalize inR s.d 0 7 = d2 at H2 ⊢
  cases d0 <;> cases d1
  all_goals
    go_enter Tryz.func251, Tryz.ntmps251
    go_wp2_with (first | (go_at_call_of 41 (Value.int .i64 s.x); refine (H0.out _).mono ?_; rintro e w1 ⟨rfl, rfl⟩) | (go_at_call_of 41 (Value.int .i64 s.y); refine (H1.out _).mono ?_; rintro e w1 ⟨rfl, rfl⟩) | (go_at_call_of 41 (Value.int .i64 s.d); refine (H2.out _).mono ?_; rintro e w1 ⟨rfl, rfl⟩))
    go_ret
    exact ⟨rfl, al⟩
set_option maxHeartbeats 400000 in
theorem impl_ValidSetting_c (s : PSetting) (w : World) :
    Calls Tryz.prog 99 #[.agg #[.int .i64 s.points, .int .i64 s.most, .int .i64 s.pen]] w fun e w' => e = .returned (.bool (settingB s)) ∧ Below w.heap.size w w' := by
  have al : Below w.heap.size w (w.alloc (.cells #[.int .i64 s.points, .int .i64 s.most, .int .i64 s.pen] 47)) := (Below.refl _ _).alloc (Nat.le_refl _) _
  have H0 := Lib.hid (impl_inR_c s.points 2 24)
  have H1 := Lib.hid (impl_inR_c s.most 1 8)
  have H2 := Lib.hid (impl_inR_c s.pen 0 1000)
  unfold settingB
  generalize inR s.points 2 24 = d0 at H0 ⊢
  generalize inR s.most 1 8 = d1 at H1 ⊢
  generalize inR s.pen 0 1000 = d2 at H2 ⊢
  cases d0 <;> cases d1
  all_goals
    go_enter Tryz.func99, Tryz.ntmps99
    go_wp2_with (first | (go_at_call_of 41 (Value.int .i64 s.points); refine (H0.out _).mono ?_; rintro e w1 ⟨rfl, rfl⟩) | (go_at_call_of 41 (Value.int .i64 s.most); refine (H1.out _).mono ?_; rintro e w1 ⟨rfl, rfl⟩) | (go_at_call_of 41 (Value.int .i64 s.pen); refine (H2.out _).mono ?_; rintro e w1 ⟨rfl, rfl⟩))
    go_ret
    exact ⟨rfl, al⟩
set_option maxHeartbeats 400000 in
theorem impl_areFeats1_c (s : PFeat) (w : World) :
    Calls Tryz.prog 250 #[.agg #[.int .i64 s.x, .int .i64 s.y, .int .i64 s.d]] w fun e w' => e = .returned (.bool (!featB s)) ∧ Below w.heap.size w w' := by
  have C := Lib.hid (impl_ValidFeat_c s)
  generalize featB s = d at C ⊢
  have al : Below w.heap.size w (w.alloc (.cells #[.int .i64 s.x, .int .i64 s.y, .int .i64 s.d] 266)) := (Below.refl _ _).alloc (Nat.le_refl _) _
  go_enter Tryz.func250, Tryz.ntmps250
  go_wp2_with fail
  refine (C.out _).mono ?_
  rintro e w1 ⟨rfl, b1⟩
  go_wp2_with fail
  go_ret
  exact ⟨rfl, al.trans (b1.mono al.size)⟩
set_option maxRecDepth 100000 in
set_option maxHeartbeats 1000000 in
theorem impl_areFeats_c {o : Bool} {e : TypeId} {xs : List PFeat} {v : Value} {F : List Nat} (w : World) (h : (pFeats e).rep o w xs [v] F) (hx : xs.length ≤ 1048576) :
    Calls Tryz.prog 237 #[v, .int .i64 72] w fun e w' => e = .returned (.bool (featsB xs)) ∧ Below w.heap.size w w' := by
  have C := ContainsFunc_Feat 250 (fun s => !featB s) w h hx Tryz.call250 (fun s _ w => impl_areFeats1_c s w)
  have he : (xs.any fun s => !featB s) = !xs.all featB := by simp [List.any_eq_not_all_not]
  rw [he] at C
  have hfb : featsB xs = (xs.all featB && (decide (1 ≤ xs.length) && decide (xs.length ≤ 72))) := rfl
  rw [hfb]
  generalize xs.all featB = d at C ⊢
  have HC := Lib.hid C
  clear C he hfb
  obtain ⟨A, c, rfl⟩ := slice_len h
  by_cases h1 : 1 ≤ xs.length
  · have g1 : ((1 : Int) ≤ (xs.length : Int)) = True := eq_true (by omega)
    by_cases h2 : xs.length ≤ 72
    · have g2 : ((xs.length : Int) ≤ 72) = True := eq_true (by omega)
      rw [decide_eq_true h1, decide_eq_true h2]
      clear h1 h2
      go_enter Tryz.func237, Tryz.ntmps237
      go_wp2_with fail
      refine HC.out.mono ?_
      rintro e w1 ⟨rfl, b1⟩
      go_wp2_with fail
      go_ret
      exact ⟨by cases d <;> rfl, b1⟩
    · have g2 : ((xs.length : Int) ≤ 72) = False := eq_false (by omega)
      rw [decide_eq_true h1, decide_eq_false h2]
      clear h1 h2
      go_enter Tryz.func237, Tryz.ntmps237
      go_wp2_with fail
      go_ret
      exact ⟨by cases d <;> rfl, Below.refl _ _⟩
  · have g1 : ((1 : Int) ≤ (xs.length : Int)) = False := eq_false (by omega)
    rw [decide_eq_false h1]
    clear h1
    go_enter Tryz.func237, Tryz.ntmps237
    go_wp2_with fail
    go_ret
    exact ⟨by cases d <;> rfl, Below.refl _ _⟩
set_option maxHeartbeats 400000 in
theorem impl_ValidSeq_c {o : Bool} {e : TypeId} {xs : List PFeat} {v : Value} {F : List Nat} (w : World) (h : (pFeats e).rep o w xs [v] F) (hx : xs.length ≤ 1048576) :
    Calls Tryz.prog 216 #[v] w fun e w' => e = .returned (.bool (featsB xs)) ∧ Below w.heap.size w w' := by
  have C := Lib.hid (impl_areFeats_c w h hx)
  generalize featsB xs = d at C ⊢
  obtain ⟨A, c, rfl⟩ := slice_len h
  go_enter Tryz.func216, Tryz.ntmps216
  go_wp2_with fail
  refine C.out.mono ?_
  rintro e w1 ⟨rfl, b1⟩
  go_wp2_with fail
  go_ret
  exact ⟨rfl, b1⟩
set_option maxHeartbeats 400000 in
theorem impl_validTemplate_c {o : Bool} {e : TypeId} {t : PTemp} {v : Value} {F : List Nat} (w : World) (h : (pFeats e).rep o w t.feats [v] F) (hx : t.feats.length ≤ 1048576) (hl : t.label.size ≤ 1048576) :
    Calls Tryz.prog 171 #[.agg #[.string t.label, v]] w fun e w' => e = .returned (.bool (tempB t)) ∧ Below w.heap.size w w' := by
  have C1 := Lib.hid (fun w' => impl_IsLabel_c t.label w' hl)
  have C2 := Lib.hid (fun w' (q : (pFeats e).rep o w' t.feats [v] F) => impl_ValidSeq_c w' q hx)
  unfold tempB
  generalize labelB t.label = d1 at C1 ⊢
  generalize featsB t.feats = d2 at C2 ⊢
  have al : Below w.heap.size w (w.alloc (.cells #[.string t.label, v] 229)) := (Below.refl _ _).alloc (Nat.le_refl _) _
  replace h := h.alloc (.cells #[.string t.label, v] 229)
  have R := Row.new w 229 #[.string t.label, v]
  obtain ⟨A, c, rfl⟩ := slice_len h
  cases d1
  · go_enter Tryz.func171, Tryz.ntmps171
    go_wp2_with fail
    refine (C1.out _).mono ?_
    rintro e w1 ⟨rfl, rfl⟩
    go_wp2_with fail
    go_ret
    exact ⟨rfl, al⟩
  · go_enter Tryz.func171, Tryz.ntmps171
    go_wp2_with fail
    refine (C1.out _).mono ?_
    rintro e w1 ⟨rfl, rfl⟩
    go_wp2_with fail
    refine (C2.out _ h).mono ?_
    rintro e w2 ⟨rfl, b2⟩
    go_wp2_with fail
    go_ret
    exact ⟨rfl, al.trans (b2.mono al.size)⟩
set_option maxHeartbeats 400000 in
theorem impl_ValidStore1_c {o : Bool} {e : TypeId} {t : PTemp} {v : Value} {F : List Nat} (w : World) (h : (pFeats e).rep o w t.feats [v] F) (hx : t.feats.length ≤ 1048576) (hl : t.label.size ≤ 1048576) :
    Calls Tryz.prog 170 #[.agg #[.string t.label, v]] w fun e w' => e = .returned (.bool (!tempB t)) ∧ Below w.heap.size w w' := by
  have C := Lib.hid (fun w' (q : (pFeats e).rep o w' t.feats [v] F) => impl_validTemplate_c w' q hx hl)
  generalize tempB t = d at C ⊢
  have al : Below w.heap.size w (w.alloc (.cells #[.string t.label, v] 229)) := (Below.refl _ _).alloc (Nat.le_refl _) _
  obtain ⟨A, c, rfl⟩ := slice_len h
  go_enter Tryz.func170, Tryz.ntmps170
  go_wp2_with fail
  refine (C.out _ (h.alloc _)).mono ?_
  rintro e w1 ⟨rfl, b1⟩
  go_wp2_with fail
  go_ret
  exact ⟨rfl, al.trans (b1.mono al.size)⟩
set_option maxRecDepth 100000 in
set_option maxHeartbeats 1000000 in
theorem impl_ValidStore_c {o : Bool} {pe e : TypeId} {p : PSetup} {v : Value} {F : List Nat} (w : World) (h : (pTemps pe e).rep o w p.temps [v] F) (hp : SeSmall p) (hb : SeBytes p) :
    Calls Tryz.prog 98 #[.agg #[.int .i64 p.band, v]] w fun e w' => e = .returned (.bool (storeB p)) ∧ Below w.heap.size w w' := by
  have C1 := Lib.hid (impl_inR_c p.band 0 72)
  have he : (p.temps.any fun s => !tempB s) = !p.temps.all tempB := by simp [List.any_eq_not_all_not]
  have C2 : Hid (∀ w', (pTemps pe e).rep o w' p.temps [v] F → Calls Tryz.prog 169 #[v, .func (.func 170) #[] #[]] w' fun e w'' => e = .returned (.bool (!p.temps.all tempB)) ∧ Below w'.heap.size w' w'') := by
    intro w' q
    have := ContainsFunc_Template 170 (fun s => !tempB s) w' q hp.t Tryz.call170 (fun s hs w u G r => impl_ValidStore1_c w r (hp.f s hs) (hb.t s hs))
    rwa [he] at this
  unfold storeB
  generalize inR p.band 0 72 = d1 at C1 ⊢
  generalize p.temps.all tempB = d2 at C2 ⊢
  have al : Below w.heap.size w (w.alloc (.cells #[.int .i64 p.band, v] 46)) := (Below.refl _ _).alloc (Nat.le_refl _) _
  replace h := h.alloc (.cells #[.int .i64 p.band, v] 46)
  obtain ⟨A, c, rfl⟩ := slice_len h
  clear he
  cases d1
  · go_enter Tryz.func98, Tryz.ntmps98
    go_wp2_with fail
    refine (C1.out _).mono ?_
    rintro e w1 ⟨rfl, rfl⟩
    go_wp2_with fail
    go_ret
    exact ⟨by cases d2 <;> rfl, al⟩
  · by_cases h2 : p.temps.length ≤ 40
    · have g2 : ((p.temps.length : Int) ≤ 40) = True := eq_true (by omega)
      rw [decide_eq_true h2]
      clear h2
      go_enter Tryz.func98, Tryz.ntmps98
      go_wp2_with fail
      refine (C1.out _).mono ?_
      rintro e w1 ⟨rfl, rfl⟩
      go_wp2_with fail
      refine (C2.out _ h).mono ?_
      rintro e w2 ⟨rfl, b2⟩
      go_wp2_with fail
      go_ret
      exact ⟨by cases d2 <;> rfl, al.trans (b2.mono al.size)⟩
    · have g2 : ((p.temps.length : Int) ≤ 40) = False := eq_false (by omega)
      rw [decide_eq_false h2]
      clear h2
      go_enter Tryz.func98, Tryz.ntmps98
      go_wp2_with fail
      refine (C1.out _).mono ?_
      rintro e w1 ⟨rfl, rfl⟩
      go_wp2_with fail
      go_ret
      exact ⟨by cases d2 <;> rfl, al⟩
theorem impl_isCost_c (n : Int) (w : World) :
    Calls Tryz.prog 172 #[.int .i64 n] w fun e w' => e = .returned (.bool (costB n)) ∧ w' = w := by
  have C := impl_inR_c n 0 1000000
  unfold costB
  generalize inR n 0 1000000 = b at C
  have HC := Lib.hid C
  clear C
  go_enter Tryz.func172, Tryz.ntmps172
  go_wp2_with fail
  refine (HC.out _).mono ?_
  rintro e w1 ⟨rfl, rfl⟩
  go_wp2_with fail
  go_ret
  exact ⟨rfl, rfl⟩
end Go.Proofs.YtkkignkoneeieaaGreat

/- The order of bigrams, in the program. Conditions: none. -/
namespace Go.Proofs.YtkkignkoneeieaaGreat
open Go Go.RowKit

set_option maxRecDepth 100000 in
set_option maxHeartbeats 1000000 in
theorem impl_compareBigrams_c (x y : PBigram) (w : World) : Calls Tryz.prog 174 #[.agg #[.string x.first, .string x.second, .int .i64 x.cost], .agg #[.string y.first, .string y.second, .int .i64 y.cost]] w fun e w' => e = .returned (.int .i64 (cmpC (bigKey x) (bigKey y))) ∧ Grw w w' := by
  obtain ⟨a, b, n⟩ := x
  obtain ⟨c, d, m⟩ := y
  dsimp only [bigKey, cmpC]
  have HC1 := Lib.hid (Compare_c a c)
  have HC2 := Lib.hid (Compare_c b d)
  generalize cmpF a c = r1 at HC1 ⊢
  generalize cmpF b d = r2 at HC2 ⊢
  obtain ⟨r, hr⟩ : ∃ r, (if r1 ≠ 0 then r1 else r2) = r := ⟨_, rfl⟩
  rw [hr]
  have HR := Lib.hid hr
  clear hr
  have GW := Lib.hid (((Grw.refl w).alloc (.cells #[.string a, .string b, .int .i64 n] 190)).alloc (.cells #[.string c, .string d, .int .i64 m] 190))
  have R1 := (Row.new w 190 #[.string a, .string b, .int .i64 n]).alloc (.cells #[.string c, .string d, .int .i64 m] 190)
  have R2 := Row.new (w.alloc (.cells #[.string a, .string b, .int .i64 n] 190)) 190 #[.string c, .string d, .int .i64 m]
  rw [World.size_alloc] at R2
  go_enter Tryz.func174, Tryz.ntmps174
  go_wp2_with fail
  generalize (w.alloc (.cells #[.string a, .string b, .int .i64 n] 190)).alloc (.cells #[.string c, .string d, .int .i64 m] 190) = w2 at *
  have p0 := R1.cell' (i := 0) rfl
  have p1 := R1.cell' (i := 1) rfl
  have q0 := R2.cell' (i := 0) rfl
  have q1 := R2.cell' (i := 1) rfl
  have hS : (fun w' : World => w'.cell? ⟨w.heap.size, 0, none⟩ = some (.string a) ∧ w'.cell? ⟨w.heap.size, 1, none⟩ = some (.string b) ∧ w'.cell? ⟨w.heap.size + 1, 0, none⟩ = some (.string c) ∧ w'.cell? ⟨w.heap.size + 1, 1, none⟩ = some (.string d)) w2.drew := ⟨p0, p1, q0, q1⟩
  refine wp_region_held_drew (S := fun w' : World => w'.cell? ⟨w.heap.size, 0, none⟩ = some (.string a) ∧ w'.cell? ⟨w.heap.size, 1, none⟩ = some (.string b) ∧ w'.cell? ⟨w.heap.size + 1, 0, none⟩ = some (.string c) ∧ w'.cell? ⟨w.heap.size + 1, 1, none⟩ = some (.string d)) (by kernel_rfl) hS (fun _ => ?_)
  refine tk174_1 (i := 0) (oi := zo174_1_0) (v := ?_) rfl (by kernel_rfl) (fun _ _ _ h => h) (Or.inl ⟨rfl, ?_⟩) hS ?_
  rotate_left
  · (intro w' hS'; (try dsimp only at hS'); dsimp only [zo174_1_0]; go_simp; try with_reducible rfl)
  simp only [Act.put, pa174_1, pb174_1, pc174_1]
  refine tk174_1 (i := 1) (oi := zo174_1_1) (v := ?_) rfl (by kernel_rfl) (fun _ _ _ h => h) (Or.inl ⟨rfl, ?_⟩) hS ?_
  rotate_left
  · (intro w' hS'; (try dsimp only at hS'); dsimp only [zo174_1_1]; go_simp; try with_reducible rfl)
  simp only [Act.put, pa174_1, pb174_1, pc174_1]
  refine tk174_1 (i := 2) (oi := zo174_1_2) (v := ?_) rfl (by kernel_rfl) (fun _ _ _ h => h) (Or.inl ⟨rfl, ?_⟩) hS ?_
  rotate_left
  · (intro w' hS'; (try dsimp only at hS'); dsimp only [zo174_1_2]; go_simp; try with_reducible rfl)
  simp only [Act.put, pa174_1, pb174_1, pc174_1]
  refine tk174_1 (i := 3) (oi := zo174_1_3) (v := ?_) rfl (by kernel_rfl) (fun _ _ _ h => h) (Or.inl ⟨rfl, ?_⟩) hS ?_
  rotate_left
  · (intro w' hS'; (try dsimp only at hS'); dsimp only [zo174_1_3]; go_simp; try with_reducible rfl)
  simp only [Act.put, pa174_1, pb174_1, pc174_1]
  refine take_call (i := 4) (oi := zo174_1_4) rfl (by kernel_rfl) (by kernel_rfl) (by kernel_rfl) (fun _ _ _ h => h) 218 #[Go.Operand.tmp 6, Go.Operand.tmp 8] _ rfl rfl #[.string a, .string c] Tryz.call218 (by go_simp) (fun w => HC1.out w) hS ?_
  simp only [Act.put, pa174_1, pb174_1, pc174_1]
  refine tk174_1 (i := 5) (oi := zo174_1_5) (v := ?_) rfl (by kernel_rfl) (fun _ _ _ h => h) (Or.inl ⟨rfl, ?_⟩) hS ?_
  rotate_left
  · (intro w' hS'; (try dsimp only at hS'); dsimp only [zo174_1_5]; go_simp; try with_reducible rfl)
  simp only [Act.put, pa174_1, pb174_1, pc174_1]
  refine tk174_1 (i := 6) (oi := zo174_1_6) (v := ?_) rfl (by kernel_rfl) (fun _ _ _ h => h) (Or.inl ⟨rfl, ?_⟩) hS ?_
  rotate_left
  · (intro w' hS'; (try dsimp only at hS'); dsimp only [zo174_1_6]; go_simp; try with_reducible rfl)
  simp only [Act.put, pa174_1, pb174_1, pc174_1]
  refine tk174_1 (i := 7) (oi := zo174_1_7) (v := ?_) rfl (by kernel_rfl) (fun _ _ _ h => h) (Or.inl ⟨rfl, ?_⟩) hS ?_
  rotate_left
  · (intro w' hS'; (try dsimp only at hS'); dsimp only [zo174_1_7]; go_simp; try with_reducible rfl)
  simp only [Act.put, pa174_1, pb174_1, pc174_1]
  refine tk174_1 (i := 8) (oi := zo174_1_8) (v := ?_) rfl (by kernel_rfl) (fun _ _ _ h => h) (Or.inl ⟨rfl, ?_⟩) hS ?_
  rotate_left
  · (intro w' hS'; (try dsimp only at hS'); dsimp only [zo174_1_8]; go_simp; try with_reducible rfl)
  simp only [Act.put, pa174_1, pb174_1, pc174_1]
  refine take_call (i := 9) (oi := zo174_1_9) rfl (by kernel_rfl) (by kernel_rfl) (by kernel_rfl) (fun _ _ _ h => h) 218 #[Go.Operand.tmp 11, Go.Operand.tmp 13] _ rfl rfl #[.string b, .string d] Tryz.call218 (by go_simp) (fun w => HC2.out w) hS ?_
  simp only [Act.put, pa174_1, pb174_1, pc174_1]
  refine wpAnyH_ready (rs := [10]) (by kernel_rfl) (by simp) ?_
  refine AllReadyH.cons (o := zo174_1_10) rfl (fun K hK => ?_) .nil
  go_simp
  have R3 := Row.new w2.drew 3 #[.int .i64 r1, .int .i64 r2]
  have GW3 := Lib.hid (GW.out.drew.alloc (.cells #[.int .i64 r1, .int .i64 r2] 3))
  replace hS := and_intro4 (((R1.drew).alloc (.cells #[.int .i64 r1, .int .i64 r2] 3)).cell' (i := 0) rfl) (((R1.drew).alloc (.cells #[.int .i64 r1, .int .i64 r2] 3)).cell' (i := 1) rfl) (((R2.drew).alloc (.cells #[.int .i64 r1, .int .i64 r2] 3)).cell' (i := 0) rfl) (((R2.drew).alloc (.cells #[.int .i64 r1, .int .i64 r2] 3)).cell' (i := 1) rfl)
  refine hK.out _ _ hS (fun _ => ?_)
  clear hK K
  have RO := Or_c r1 r2 _ R3
  rw [HR.out] at RO
  refine wpAnyH_ready (rs := [11]) (by kernel_rfl) (by simp) ?_
  refine AllReadyH.cons (o := zo174_1_11) rfl (fun K hK => ?_) .nil
  refine step_call 217 #[Go.Operand.tmp 15] _ rfl rfl #[.slice (some ⟨w2.heap.size, 0, none⟩) 2 2] Tryz.call217 (by go_simp) RO ?_
  rintro e w1 ⟨rfl, rfl⟩
  refine ⟨_, rfl, ?_⟩
  refine hK.out _ _ ?_ (fun hHeld => ?_)
  · exact hS
  clear hK K hHeld
  simp only [Act.put, pa174_1, pb174_1, pc174_1]
  refine tk174_1 (i := 12) (oi := zo174_1_12) (v := ?_) rfl (by kernel_rfl) (fun _ _ _ h => h) (Or.inl ⟨rfl, ?_⟩) hS ?_
  rotate_left
  · (intro w' hS'; (try dsimp only at hS'); dsimp only [zo174_1_12]; go_simp; try with_reducible rfl)
  simp only [Act.put, pa174_1, pb174_1, pc174_1]
  refine wpAnyH_done (by kernel_rfl) ?_ _
  go_wp2_with fail
  go_ret
  exact ⟨rfl, GW3.out⟩
end Go.Proofs.YtkkignkoneeieaaGreat
