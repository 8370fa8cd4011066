/- Confusions, in plain Lean: counting into an ordered list is sorting and counting neighbours; the order of strings. No program is named here. Conditions: none. -/
import Derived.Test.YtboijogahclekaaGreatDoorStrSk
import Derived.Laws.Strings
import Derived.Laws.StructEq
import Derived.Test.YtboijogahclekaaGreatDoorLibk
import Derived.Test.YtboijogahclekaaGreatDoorRows
import Derived.Test.YtboijogahclekaaGreatDoorTyBigramk
import Derived.Test.YtboijogahclekaaGreatDoorTyStrokek
import Derived.Test.YtboijogahclekaaGreatDoorTkk
import Derived.Test.YtboijogahclekaaGreatDoorPgValidk
namespace Go.Proofs.YtboijogahclekaaGreatDoor
open Go Go.RowKit
section
variable {K : Type} [DecidableEq K] (lt : K → K → Bool)
structure STO : Prop where
 irr : ∀ a, lt a a = false
 tr : ∀ a b c, lt a b = true → lt b c = true → lt a c = true
 tot : ∀ a b, lt a b = false → lt b a = false → a = b
variable {lt}
omit [DecidableEq K] in
theorem STO.asym (h : STO lt) {a b : K} (h1 : lt a b = true) : lt b a = false := by
 cases h2 : lt b a with
 | false => rfl
 | true => have := h.tr _ _ _ h1 h2; rw [h.irr] at this; cases this
omit [DecidableEq K] in
theorem STO.ne (h : STO lt) {a b : K} (h1 : lt a b = true) : a ≠ b := fun e => by rw [e, h.irr] at h1; cases h1
omit [DecidableEq K] in
theorem STO.cases (h : STO lt) (a b : K) : (lt a b = true ∧ lt b a = false ∧ a ≠ b ∧ b ≠ a) ∨ a = b ∨ (lt a b = false ∧ lt b a = true ∧ a ≠ b ∧ b ≠ a) := by
 cases h1 : lt a b with
 | true => exact .inl ⟨rfl, h.asym h1, h.ne h1, (h.ne h1).symm⟩
 | false =>
   cases h2 : lt b a with
   | true => exact .inr (.inr ⟨rfl, rfl, (h.ne h2).symm, h.ne h2⟩)
   | false => exact .inr (.inl (h.tot _ _ h1 h2))
omit [DecidableEq K] in
end
theorem bl_irr : ∀ l : List UInt8, Op.bytesLess l l = false
 | [] => rfl
 | a :: l => by simp [Op.bytesLess, bl_irr l]
theorem bl_tr : ∀ x y z : List UInt8, Op.bytesLess x y = true → Op.bytesLess y z = true → Op.bytesLess x z = true
 | _, [], _, h, _ => by cases ‹List UInt8› <;> simp [Op.bytesLess] at h
 | _, _ :: _, [], _, h => by simp [Op.bytesLess] at h
 | [], _ :: _, _ :: _, _, _ => rfl
 | a :: x, b :: y, c :: z, h1, h2 => by
   simp only [Op.bytesLess, Bool.or_eq_true, Bool.and_eq_true, decide_eq_true_eq, beq_iff_eq] at h1 h2 ⊢
   rcases h1 with h1 | ⟨rfl, h1⟩
   · rcases h2 with h2 | ⟨rfl, h2⟩
     · exact .inl (UInt8.lt_trans h1 h2)
     · exact .inl h1
   · rcases h2 with h2 | ⟨rfl, h2⟩
     · exact .inl h2
     · exact .inr ⟨rfl, bl_tr x y z h1 h2⟩
theorem bl_tot : ∀ x y : List UInt8, Op.bytesLess x y = false → Op.bytesLess y x = false → x = y
 | [], [], _, _ => rfl
 | [], _ :: _, h, _ => by simp [Op.bytesLess] at h
 | _ :: _, [], _, h => by simp [Op.bytesLess] at h
 | a :: x, b :: y, h1, h2 => by
   simp only [Op.bytesLess, Bool.or_eq_false_iff, decide_eq_false_iff_not] at h1 h2
   have e : a = b := by
    have l1 := UInt8.not_lt.1 h1.1
    have l2 := UInt8.not_lt.1 h2.1
    exact UInt8.le_antisymm l2 l1
   subst e
   rw [bl_tot x y (by simpa using h1.2) (by simpa using h2.2)]
def bLess (a b : ByteArray) : Bool := Op.bytesLess a.toList b.toList
theorem toList_inj {a b : ByteArray} (h : a.toList = b.toList) : a = b := by
 have := str_eq a b
 rw [h] at this
 simpa using this.symm
theorem bLess_sto : STO bLess := ⟨fun _ => bl_irr _, fun _ _ _ => bl_tr _ _ _, fun _ _ h1 h2 => toList_inj (bl_tot _ _ h1 h2)⟩
abbrev CKey := ByteArray × ByteArray
def cLess (x y : CKey) : Bool := bLess x.1 y.1 || (decide (x.1 = y.1) && bLess x.2 y.2)
def cmpF (x y : ByteArray) : Int := if bLess x y then -1 else if bLess y x then 1 else 0
theorem cmpF_neg (x y : ByteArray) : cmpF x y < 0 ↔ bLess x y = true := by
 unfold cmpF
 split
 · simp [*]
 · split <;> simp [*]
theorem cmpF_zero (x y : ByteArray) : cmpF x y = 0 ↔ x = y := by
 unfold cmpF
 rcases bLess_sto.cases x y with h | rfl | h
 · simp [h.1, h.2.2.1]
 · simp [bLess_sto.irr]
 · simp [h.1, h.2.1, h.2.2.1]
def cmpC (x y : CKey) : Int := if cmpF x.1 y.1 ≠ 0 then cmpF x.1 y.1 else cmpF x.2 y.2
theorem cmpC_neg (x y : CKey) : decide (cmpC x y < 0) = cLess x y := by
 unfold cmpC cLess
 rw [Bool.eq_iff_iff]
 by_cases h : cmpF x.1 y.1 = 0
 · rw [if_neg (by simpa using h), decide_eq_true_iff, cmpF_neg]
   have e := (cmpF_zero _ _).1 h
   simp [e, bLess_sto.irr]
 · rw [if_pos h, decide_eq_true_iff, cmpF_neg]
   have e : x.1 ≠ y.1 := fun e => h ((cmpF_zero _ _).2 e)
   simp [e]
def GivesB (b : Bool) (w : World) (e : Ending) (w' : World) : Prop := e = .returned (.bool b) ∧ ∃ n, w' = w.drewN n
theorem ret_boolI {a b : Bool} (h : a = b) : Ending.returned (.bool a) = .returned (.bool b) := by rw [h]
def inR (n lo hi : Int) : Bool := decide (lo ≤ n) && decide (n ≤ hi)
set_option maxHeartbeats 400000 in
theorem spec_inR_c (n lo hi : Int) (w : World) :
 Calls Tryz.prog 55 #[.int .i64 n, .int .i64 lo, .int .i64 hi] w fun e w' => e = .returned (.bool (inR n lo hi)) ∧ w = w' := by
 by_cases h : lo ≤ n
 · have g : decide (lo ≤ n) = true := by simpa using h
   go_enter Tryz.func55, Tryz.ntmps55
   go_wp2_with fail
   all_goals go_ret
   all_goals exact ⟨ret_boolI (by simp [inR, *]), rfl⟩
 · have g : decide (lo ≤ n) = false := by simpa using h
   go_enter Tryz.func55, Tryz.ntmps55
   go_wp2_with fail
   all_goals go_ret
   all_goals exact ⟨ret_boolI (by simp [inR, *]), rfl⟩
set_option maxHeartbeats 400000 in
theorem impl_inR_c (n lo hi : Int) (w : World) :
 Calls Tryz.prog 72 #[.int .i64 n, .int .i64 lo, .int .i64 hi] w fun e w' => e = .returned (.bool (inR n lo hi)) ∧ w = w' := by
 by_cases h : lo ≤ n
 · have g : decide (lo ≤ n) = true := by simpa using h
   go_enter Tryz.func72, Tryz.ntmps72
   go_wp2_with fail
   all_goals go_ret
   all_goals exact ⟨ret_boolI (by simp [inR, *]), rfl⟩
 · have g : decide (lo ≤ n) = false := by simpa using h
   go_enter Tryz.func72, Tryz.ntmps72
   go_wp2_with fail
   all_goals go_ret
   all_goals exact ⟨ret_boolI (by simp [inR, *]), rfl⟩
theorem impl_isCoord_c (n : Int) (w : World) :
 Calls Tryz.prog 149 #[.int .i64 n] w fun e w' => e = .returned (.bool (inR n 0 4095)) ∧ w = w' := by
 have C := impl_inR_c n 0 4095
 generalize inR n 0 4095 = b at C
 have HC := Lib.hid C
 clear C
 go_enter Tryz.func149, Tryz.ntmps149
 go_wp2_with fail
 refine (HC.out _).mono ?_
 rintro e w1 ⟨rfl, rfl⟩
 go_wp2_with fail
 go_ret
 exact ⟨rfl, rfl⟩
def pointB (p : PPoint) : Bool := inR p.x 0 4095 && (inR p.y 0 4095 && inR p.t 0 3600000)
set_option maxHeartbeats 400000 in
theorem impl_validPoint_c (p : PPoint) (w : World) :
 Calls Tryz.prog 116 #[.agg #[.int .i64 p.x, .int .i64 p.y, .int .i64 p.t]] w fun e w' => e = .returned (.bool (pointB p)) ∧ w' = w.alloc (.cells #[.int .i64 p.x, .int .i64 p.y, .int .i64 p.t] 147) := by
 have CX := impl_isCoord_c p.x
 have CY := impl_isCoord_c p.y
 have CT := impl_inR_c p.t 0 3600000
 unfold pointB
 generalize inR p.x 0 4095 = bx at CX ⊢
 generalize inR p.y 0 4095 = cy at CY ⊢
 generalize inR p.t 0 3600000 = dt at CT ⊢
 have HX := Lib.hid CX
 have HY := Lib.hid CY
 have HT := Lib.hid CT
 clear CX CY CT
 cases bx <;> cases cy
 all_goals
  go_enter Tryz.func116, Tryz.ntmps116
  go_wp2_with (first | (go_at_call_of 149 (Value.int .i64 p.x); refine (HX.out _).mono ?_; rintro e w1 ⟨rfl, rfl⟩) | (go_at_call_of 149 (Value.int .i64 p.y); refine (HY.out _).mono ?_; rintro e w1 ⟨rfl, rfl⟩) | (go_at_call 72; refine (HT.out _).mono ?_; rintro e w1 ⟨rfl, rfl⟩))
  go_ret
  exact ⟨rfl, rfl⟩
set_option maxHeartbeats 400000 in
theorem spec_l02Point_c (p : PPoint) (w : World) :
 Calls Tryz.prog 103 #[.agg #[.int .i64 p.x, .int .i64 p.y, .int .i64 p.t]] w fun e w' => e = .returned (.bool (pointB p)) ∧ w' = w.alloc (.cells #[.int .i64 p.x, .int .i64 p.y, .int .i64 p.t] 147) := by
 have CX := spec_inR_c p.x 0 4095
 have CY := spec_inR_c p.y 0 4095
 have CT := spec_inR_c p.t 0 3600000
 unfold pointB
 generalize inR p.x 0 4095 = bx at CX ⊢
 generalize inR p.y 0 4095 = cy at CY ⊢
 generalize inR p.t 0 3600000 = dt at CT ⊢
 have HX := Lib.hid CX
 have HY := Lib.hid CY
 have HT := Lib.hid CT
 clear CX CY CT
 cases bx <;> cases cy
 all_goals
  go_enter Tryz.func103, Tryz.ntmps103
  go_wp2_with (first | (go_at_call_of 55 (Value.int .i64 p.x); refine (HX.out _).mono ?_; rintro e w1 ⟨rfl, rfl⟩) | (go_at_call_of 55 (Value.int .i64 p.y); refine (HY.out _).mono ?_; rintro e w1 ⟨rfl, rfl⟩) | (go_at_call_of 55 (Value.int .i64 p.t); refine (HT.out _).mono ?_; rintro e w1 ⟨rfl, rfl⟩))
  go_ret
  exact ⟨rfl, rfl⟩
def pt (s : PStroke) (k : Nat) : PPoint := s.getD k ⟨0, 0, 0⟩
theorem pt_get {s : PStroke} {k : Nat} (h : k < s.length) : pt s k = s[k] := by simp [pt, List.getD_eq_getElem?_getD, List.getElem?_eq_getElem h]
def ptOk (s : PStroke) (k : Nat) : Bool := pointB (pt s k) && (decide (k = 0) || decide ((pt s (k - 1)).t < (pt s k).t))
def ptsOk (s : PStroke) : Nat → Bool
 | 0 => true
 | k + 1 => ptsOk s k && ptOk s k
theorem ptsOk_false {s : PStroke} {k : Nat} (h : ptOk s k = false) : ∀ n, k < n → ptsOk s n = false
 | 0, hk => by omega
 | n + 1, hk => by
   by_cases e : k = n
   · subst e; simp [ptsOk, h]
   · simp [ptsOk, ptsOk_false h n (by omega)]
def strokeB (s : PStroke) : Bool := ptsOk s s.length && (decide (1 ≤ s.length) && decide (s.length ≤ 60))
theorem strokeB_false {s : PStroke} {k : Nat} (hk : k < s.length) (h : ptOk s k = false) : strokeB s = false := by simp [strokeB, ptsOk_false h _ hk]
theorem ptOk_step {s : PStroke} {k : Nat} (hk : k < s.length) (h : pointB s[k] = true) (h' : k = 0 ∨ ∃ j, k = j + 1 ∧ ∀ hj : j < s.length, s[j].t < s[k].t) : ptOk s k = true := by
 unfold ptOk
 rw [pt_get hk, h]
 rcases h' with rfl | ⟨j, rfl, h2⟩
 · simp
 · rw [show j + 1 - 1 = j from rfl, pt_get (show j < s.length by omega)]
   simp [h2 (by omega)]
theorem ptOk_bad {s : PStroke} {k : Nat} (hk : k < s.length) (h : pointB s[k] = false) : ptOk s k = false := by
 unfold ptOk
 rw [pt_get hk, h]
 rfl
theorem ptOk_late {s : PStroke} {j : Nat} (hk : j + 1 < s.length) (h : s[j + 1].t ≤ s[j].t) : ptOk s (j + 1) = false := by
 unfold ptOk
 rw [pt_get hk, show j + 1 - 1 = j from rfl, pt_get (show j < s.length by omega)]
 have : ¬ (s[j].t < s[j + 1].t) := by omega
 simp [this]
set_option maxRecDepth 100000 in
set_option maxHeartbeats 1000000 in
theorem impl_ValidStroke_c {o : Bool} {e : TypeId} {xs : PStroke} {v : Value} {F : List Nat} (w : World) (h : (pPoints e).rep o w xs [v] F) (hx : xs.length ≤ 1048576) :
 Calls Tryz.prog 74 #[.agg #[v]] w fun e w' => e = .returned (.bool (strokeB xs)) ∧ Below w.heap.size w w' := by
 obtain ⟨A, c, rfl, hc1, hc2, hr⟩ := pPoints_open h
 clear h
 go_enter Tryz.func74, Tryz.ntmps74
 go_wp2_with fail
 go_loopw [8] (fun i wr => ∃ k : Nat, k ≤ xs.length ∧ i = .int .i64 k ∧ Hid (ptsOk xs k = true) ∧ wr.cell? ⟨w.heap.size, 0, none⟩ = some (.slice A xs.length c) ∧ w.heap.size < wr.heap.size ∧ Below w.heap.size w wr) (fun i _ => xs.length - (intOf i).toNat)
 case atStart => exact ⟨0, Nat.zero_le _, rfl, rfl, by simp, by simp, (Below.refl _ _).alloc (Nat.le_refl _) _⟩
 case round =>
  obtain ⟨k, hk, rfl, hok, hself, hsl, hb⟩ := hrel
  have hbs := hb.size
  by_cases hlt : k < xs.length
  · obtain ⟨b, off, rfl, hbb, _, h0, h1, h2, _⟩ := hr k hlt
    rw [← hb.cell (p := ⟨b, _, none⟩) hbb] at h0 h1 h2
    have HC := Lib.hid (impl_validPoint_c xs[k])
    have RN := (Row.new wr 147 #[.int .i64 xs[k].x, .int .i64 xs[k].y, .int .i64 xs[k].t]).drew
    have RM := RN.alloc (.cells #[.int .i64 xs[k].x, .int .i64 xs[k].y, .int .i64 xs[k].t] 147)
    have al : Below w.heap.size w ((wr.alloc (.cells #[.int .i64 xs[k].x, .int .i64 xs[k].y, .int .i64 xs[k].t] 147)).drew.alloc (.cells #[.int .i64 xs[k].x, .int .i64 xs[k].y, .int .i64 xs[k].t] 147)) := ((hb.alloc hbs _).drew).alloc (by simp; omega) _
    have kp : ∀ (g i : Nat) (u : Value), g < wr.heap.size → wr.cell? ⟨g, i, none⟩ = some u → (wr.alloc (.cells #[.int .i64 xs[k].x, .int .i64 xs[k].y, .int .i64 xs[k].t] 147)).drew.cell? ⟨g, i, none⟩ = some u ∧ ((wr.alloc (.cells #[.int .i64 xs[k].x, .int .i64 xs[k].y, .int .i64 xs[k].t] 147)).drew.alloc (.cells #[.int .i64 xs[k].x, .int .i64 xs[k].y, .int .i64 xs[k].t] 147)).cell? ⟨g, i, none⟩ = some u := by
     intro g i u hg hc
     have x1 : (wr.alloc (.cells #[.int .i64 xs[k].x, .int .i64 xs[k].y, .int .i64 xs[k].t] 147)).drew.cell? ⟨g, i, none⟩ = some u := (World.cell?_alloc_past (w := wr) _ _ _ hg).trans hc
     exact ⟨x1, (World.cell?_alloc_past _ _ _ (by simp; omega)).trans x1⟩
    have hsz : w.heap.size < ((wr.alloc (.cells #[.int .i64 xs[k].x, .int .i64 xs[k].y, .int .i64 xs[k].t] 147)).drew.alloc (.cells #[.int .i64 xs[k].x, .int .i64 xs[k].y, .int .i64 xs[k].t] 147)).heap.size := by simp; omega
    have hself2 := kp _ _ _ hsl hself
    cases hp : pointB xs[k]
    · have HF := Lib.hid (strokeB_false hlt (ptOk_bad hlt hp))
      simp only [hp] at HC
      clear hr hp
      go_wp2_with fail
      have hS : (fun w' => w'.cell? ⟨wr.heap.size, 0, none⟩ = some (.int .i64 xs[k].x) ∧ w'.cell? ⟨wr.heap.size, 1, none⟩ = some (.int .i64 xs[k].y) ∧ w'.cell? ⟨wr.heap.size, 2, none⟩ = some (.int .i64 xs[k].t)) (wr.alloc (.cells #[.int .i64 xs[k].x, .int .i64 xs[k].y, .int .i64 xs[k].t] 147)).drew := ⟨RN.c0, RN.c1, RN.c2⟩
      dsimp only at hS
      refine wp_region_held_drew (S := (fun w' => w'.cell? ⟨wr.heap.size, 0, none⟩ = some (.int .i64 xs[k].x) ∧ w'.cell? ⟨wr.heap.size, 1, none⟩ = some (.int .i64 xs[k].y) ∧ w'.cell? ⟨wr.heap.size, 2, none⟩ = some (.int .i64 xs[k].t))) (by kernel_rfl) hS (fun _ => ?_)
      refine tJ 0 hS ?_
      refine rJ 1 fun K hK => ?_
      refine step_call 116 #[.tmp 13] _ rfl rfl #[.agg #[.int .i64 xs[k].x, .int .i64 xs[k].y, .int .i64 xs[k].t]] Tryz.call116 (by go_simp) (HC.out _) ?_
      rintro e w1 ⟨rfl, rfl⟩
      refine ⟨_, rfl, ?_⟩
      replace hS : (fun w' => w'.cell? ⟨wr.heap.size, 0, none⟩ = some (.int .i64 xs[k].x) ∧ w'.cell? ⟨wr.heap.size, 1, none⟩ = some (.int .i64 xs[k].y) ∧ w'.cell? ⟨wr.heap.size, 2, none⟩ = some (.int .i64 xs[k].t)) ((wr.alloc (.cells #[.int .i64 xs[k].x, .int .i64 xs[k].y, .int .i64 xs[k].t] 147)).drew.alloc (.cells #[.int .i64 xs[k].x, .int .i64 xs[k].y, .int .i64 xs[k].t] 147)) := ⟨RM.c0, RM.c1, RM.c2⟩
      dsimp only at hS
      refine bJ hK hS ?_
      clear hK K
      simp only [Act.put, pA, pB, pC]
      refine tJ 2 hS ?_
      refine tJ 3 hS ?_
      refine tJ0 4 hS ?_
      refine tJ0 5 hS ?_
      refine tJ0 6 hS ?_
      refine tJ0 7 hS ?_
      refine tJ0 8 hS ?_
      refine tJ0 9 hS ?_
      refine tJ0 10 hS ?_
      refine tJ0 11 hS ?_
      refine tJ0 12 hS ?_
      refine tJ0 13 hS ?_
      refine tJ0 14 hS ?_
      refine tJ0 15 hS ?_
      refine tJ0 16 hS ?_
      refine tJ0 17 hS ?_
      refine tJ 18 hS ?_
      refine wpAnyH_done (by kernel_rfl) ?_ _
      go_wp2_with fail
      go_ret
      exact ⟨ret_boolI HF.out.symm, al⟩
    · have HP := Lib.hid hp
      simp only [hp] at HC
      clear hp
      by_cases hz : k = 0
      · have HK : Hid (ptsOk xs (k + 1) = true) := by show _ = _; rw [ptsOk, hok.out, ptOk_step hlt HP.out (.inl hz)]; rfl
        have g0 : (0 < k) = False := eq_false (by omega)
        clear hr hz
        go_wp2_with fail
        have hS : (fun w' => w'.cell? ⟨wr.heap.size, 0, none⟩ = some (.int .i64 xs[k].x) ∧ w'.cell? ⟨wr.heap.size, 1, none⟩ = some (.int .i64 xs[k].y) ∧ w'.cell? ⟨wr.heap.size, 2, none⟩ = some (.int .i64 xs[k].t)) (wr.alloc (.cells #[.int .i64 xs[k].x, .int .i64 xs[k].y, .int .i64 xs[k].t] 147)).drew := ⟨RN.c0, RN.c1, RN.c2⟩
        dsimp only at hS
        refine wp_region_held_drew (S := (fun w' => w'.cell? ⟨wr.heap.size, 0, none⟩ = some (.int .i64 xs[k].x) ∧ w'.cell? ⟨wr.heap.size, 1, none⟩ = some (.int .i64 xs[k].y) ∧ w'.cell? ⟨wr.heap.size, 2, none⟩ = some (.int .i64 xs[k].t))) (by kernel_rfl) hS (fun _ => ?_)
        refine tJ 0 hS ?_
        refine rJ 1 fun K hK => ?_
        refine step_call 116 #[.tmp 13] _ rfl rfl #[.agg #[.int .i64 xs[k].x, .int .i64 xs[k].y, .int .i64 xs[k].t]] Tryz.call116 (by go_simp) (HC.out _) ?_
        rintro e w1 ⟨rfl, rfl⟩
        refine ⟨_, rfl, ?_⟩
        replace hS : (fun w' => w'.cell? ⟨wr.heap.size, 0, none⟩ = some (.int .i64 xs[k].x) ∧ w'.cell? ⟨wr.heap.size, 1, none⟩ = some (.int .i64 xs[k].y) ∧ w'.cell? ⟨wr.heap.size, 2, none⟩ = some (.int .i64 xs[k].t)) ((wr.alloc (.cells #[.int .i64 xs[k].x, .int .i64 xs[k].y, .int .i64 xs[k].t] 147)).drew.alloc (.cells #[.int .i64 xs[k].x, .int .i64 xs[k].y, .int .i64 xs[k].t] 147)) := ⟨RM.c0, RM.c1, RM.c2⟩
        dsimp only at hS
        refine bJ hK hS ?_
        clear hK K
        simp only [Act.put, pA, pB, pC]
        refine tJ 2 hS ?_
        refine tJ 3 hS ?_
        refine tJ 4 hS ?_
        refine tJ 5 hS ?_
        refine tJ 6 hS ?_
        refine tJ0 7 hS ?_
        refine tJ0 8 hS ?_
        refine tJ0 9 hS ?_
        refine tJ0 10 hS ?_
        refine tJ0 11 hS ?_
        refine tJ0 12 hS ?_
        refine tJ0 13 hS ?_
        refine tJ0 14 hS ?_
        refine tJ0 15 hS ?_
        refine tJ0 16 hS ?_
        refine tJ 17 hS ?_
        refine tJ 18 hS ?_
        refine wpAnyH_done (by kernel_rfl) ?_ _
        go_wp2_with fail
        go_roundw
        case rel => exact ⟨k + 1, by omega, by go_num, HK, hself2.2, hsz, al⟩
        case measure => simp [intOf]; omega
      · obtain ⟨j, hj⟩ : ∃ j, k = j + 1 := ⟨k - 1, by omega⟩
        have jl : j < xs.length := by omega
        obtain ⟨b', off', e', hbb', _, _, _, h3, _⟩ := hr j jl
        injection e' with e'
        injection e' with e1 e2 _
        subst e1; subst e2
        rw [← hb.cell (p := ⟨b, _, none⟩) hbb] at h3
        have h32 := kp _ _ _ (by omega) h3
        have g0 : (0 < k) = True := eq_true (by omega)
        have gj : IntKind.i64.wrap ((k : Int) - 1) = (j : Int) := (IntWalk.i64_in _ (by omega)).trans (by omega)
        have jl' : (j : Int) < (xs.length : Int) := by omega
        have j0 : (0 : Int) ≤ (j : Int) := by omega
        clear hr h3
        by_cases ht : xs[k].t ≤ xs[j].t
        · have HF : Hid (strokeB xs = false) := strokeB_false hlt (by subst hj; exact ptOk_late hlt ht)
          have gt : (xs[k].t ≤ xs[j].t) = True := eq_true ht
          have HJ := Lib.hid hj
          clear hj ht hz
          go_wp2_with fail
          have hS : (fun w' => w'.cell? ⟨wr.heap.size, 0, none⟩ = some (.int .i64 xs[k].x) ∧ w'.cell? ⟨wr.heap.size, 1, none⟩ = some (.int .i64 xs[k].y) ∧ w'.cell? ⟨wr.heap.size, 2, none⟩ = some (.int .i64 xs[k].t) ∧ w'.cell? ⟨w.heap.size, 0, none⟩ = some (.slice (some ⟨b, off, none⟩) xs.length c) ∧ w'.cell? ⟨b, off + j * 3 + 2, none⟩ = some (.int .i64 xs[j].t)) (wr.alloc (.cells #[.int .i64 xs[k].x, .int .i64 xs[k].y, .int .i64 xs[k].t] 147)).drew := ⟨RN.c0, RN.c1, RN.c2, hself2.1, h32.1⟩
          dsimp only at hS
          refine wp_region_held_drew (S := (fun w' => w'.cell? ⟨wr.heap.size, 0, none⟩ = some (.int .i64 xs[k].x) ∧ w'.cell? ⟨wr.heap.size, 1, none⟩ = some (.int .i64 xs[k].y) ∧ w'.cell? ⟨wr.heap.size, 2, none⟩ = some (.int .i64 xs[k].t) ∧ w'.cell? ⟨w.heap.size, 0, none⟩ = some (.slice (some ⟨b, off, none⟩) xs.length c) ∧ w'.cell? ⟨b, off + j * 3 + 2, none⟩ = some (.int .i64 xs[j].t))) (by kernel_rfl) hS (fun _ => ?_)
          refine tJ 0 hS ?_
          refine rJ 1 fun K hK => ?_
          refine step_call 116 #[.tmp 13] _ rfl rfl #[.agg #[.int .i64 xs[k].x, .int .i64 xs[k].y, .int .i64 xs[k].t]] Tryz.call116 (by go_simp) (HC.out _) ?_
          rintro e w1 ⟨rfl, rfl⟩
          refine ⟨_, rfl, ?_⟩
          replace hS : (fun w' => w'.cell? ⟨wr.heap.size, 0, none⟩ = some (.int .i64 xs[k].x) ∧ w'.cell? ⟨wr.heap.size, 1, none⟩ = some (.int .i64 xs[k].y) ∧ w'.cell? ⟨wr.heap.size, 2, none⟩ = some (.int .i64 xs[k].t) ∧ w'.cell? ⟨w.heap.size, 0, none⟩ = some (.slice (some ⟨b, off, none⟩) xs.length c) ∧ w'.cell? ⟨b, off + j * 3 + 2, none⟩ = some (.int .i64 xs[j].t)) ((wr.alloc (.cells #[.int .i64 xs[k].x, .int .i64 xs[k].y, .int .i64 xs[k].t] 147)).drew.alloc (.cells #[.int .i64 xs[k].x, .int .i64 xs[k].y, .int .i64 xs[k].t] 147)) := ⟨RM.c0, RM.c1, RM.c2, hself2.2, h32.2⟩
          dsimp only at hS
          refine bJ hK hS ?_
          clear hK K
          simp only [Act.put, pA, pB, pC]
          refine tJ 2 hS ?_
          refine tJ 3 hS ?_
          refine tJ 4 hS ?_
          refine tJ 5 hS ?_
          refine tJ 6 hS ?_
          refine tJ 7 hS ?_
          refine tJ 8 hS ?_
          refine tJ 9 hS ?_
          refine tJ 10 hS ?_
          refine tJ 11 hS ?_
          refine tJ 12 hS ?_
          refine tJ 13 hS ?_
          refine tJ 14 hS ?_
          refine tJ 15 hS ?_
          refine tJ 16 hS ?_
          refine tJ 17 hS ?_
          refine tJ 18 hS ?_
          refine wpAnyH_done (by kernel_rfl) ?_ _
          go_wp2_with fail
          go_ret
          exact ⟨ret_boolI HF.out.symm, al⟩
        · have HK : Hid (ptsOk xs (k + 1) = true) := by
           show _ = _
           rw [ptsOk, hok.out, ptOk_step hlt HP.out (.inr ⟨j, hj, fun _ => by omega⟩)]; rfl
          have gt : (xs[k].t ≤ xs[j].t) = False := eq_false ht
          have HJ := Lib.hid hj
          clear hj ht hz
          go_wp2_with fail
          have hS : (fun w' => w'.cell? ⟨wr.heap.size, 0, none⟩ = some (.int .i64 xs[k].x) ∧ w'.cell? ⟨wr.heap.size, 1, none⟩ = some (.int .i64 xs[k].y) ∧ w'.cell? ⟨wr.heap.size, 2, none⟩ = some (.int .i64 xs[k].t) ∧ w'.cell? ⟨w.heap.size, 0, none⟩ = some (.slice (some ⟨b, off, none⟩) xs.length c) ∧ w'.cell? ⟨b, off + j * 3 + 2, none⟩ = some (.int .i64 xs[j].t)) (wr.alloc (.cells #[.int .i64 xs[k].x, .int .i64 xs[k].y, .int .i64 xs[k].t] 147)).drew := ⟨RN.c0, RN.c1, RN.c2, hself2.1, h32.1⟩
          dsimp only at hS
          refine wp_region_held_drew (S := (fun w' => w'.cell? ⟨wr.heap.size, 0, none⟩ = some (.int .i64 xs[k].x) ∧ w'.cell? ⟨wr.heap.size, 1, none⟩ = some (.int .i64 xs[k].y) ∧ w'.cell? ⟨wr.heap.size, 2, none⟩ = some (.int .i64 xs[k].t) ∧ w'.cell? ⟨w.heap.size, 0, none⟩ = some (.slice (some ⟨b, off, none⟩) xs.length c) ∧ w'.cell? ⟨b, off + j * 3 + 2, none⟩ = some (.int .i64 xs[j].t))) (by kernel_rfl) hS (fun _ => ?_)
          refine tJ 0 hS ?_
          refine rJ 1 fun K hK => ?_
          refine step_call 116 #[.tmp 13] _ rfl rfl #[.agg #[.int .i64 xs[k].x, .int .i64 xs[k].y, .int .i64 xs[k].t]] Tryz.call116 (by go_simp) (HC.out _) ?_
          rintro e w1 ⟨rfl, rfl⟩
          refine ⟨_, rfl, ?_⟩
          replace hS : (fun w' => w'.cell? ⟨wr.heap.size, 0, none⟩ = some (.int .i64 xs[k].x) ∧ w'.cell? ⟨wr.heap.size, 1, none⟩ = some (.int .i64 xs[k].y) ∧ w'.cell? ⟨wr.heap.size, 2, none⟩ = some (.int .i64 xs[k].t) ∧ w'.cell? ⟨w.heap.size, 0, none⟩ = some (.slice (some ⟨b, off, none⟩) xs.length c) ∧ w'.cell? ⟨b, off + j * 3 + 2, none⟩ = some (.int .i64 xs[j].t)) ((wr.alloc (.cells #[.int .i64 xs[k].x, .int .i64 xs[k].y, .int .i64 xs[k].t] 147)).drew.alloc (.cells #[.int .i64 xs[k].x, .int .i64 xs[k].y, .int .i64 xs[k].t] 147)) := ⟨RM.c0, RM.c1, RM.c2, hself2.2, h32.2⟩
          dsimp only at hS
          refine bJ hK hS ?_
          clear hK K
          simp only [Act.put, pA, pB, pC]
          refine tJ 2 hS ?_
          refine tJ 3 hS ?_
          refine tJ 4 hS ?_
          refine tJ 5 hS ?_
          refine tJ 6 hS ?_
          refine tJ 7 hS ?_
          refine tJ 8 hS ?_
          refine tJ 9 hS ?_
          refine tJ 10 hS ?_
          refine tJ 11 hS ?_
          refine tJ 12 hS ?_
          refine tJ 13 hS ?_
          refine tJ 14 hS ?_
          refine tJ 15 hS ?_
          refine tJ 16 hS ?_
          refine tJ 17 hS ?_
          refine tJ 18 hS ?_
          refine wpAnyH_done (by kernel_rfl) ?_ _
          go_wp2_with fail
          go_roundw
          case rel => exact ⟨k + 1, by omega, by go_num, HK, hself2.2, hsz, al⟩
          case measure => simp [intOf]; omega
  · obtain rfl : k = xs.length := by omega
    clear hr
    have HV : Hid (strokeB xs = (decide (1 ≤ xs.length) && decide (xs.length ≤ 60))) := by show _ = _; rw [strokeB, hok.out]; rfl
    by_cases h1 : 1 ≤ xs.length
    · have g1 : decide ((1 : Int) ≤ (xs.length : Int)) = true := by simp; omega
      go_wp2_with fail
      go_ret
      exact ⟨ret_boolI (by rw [HV.out, decide_eq_true h1, Bool.true_and, decide_eq_decide]; omega), hb⟩
    · have g1 : decide ((1 : Int) ≤ (xs.length : Int)) = false := by simp; omega
      go_wp2_with fail
      go_ret
      exact ⟨ret_boolI (by rw [HV.out, decide_eq_false h1]; simp), hb⟩
end Go.Proofs.YtboijogahclekaaGreatDoor
