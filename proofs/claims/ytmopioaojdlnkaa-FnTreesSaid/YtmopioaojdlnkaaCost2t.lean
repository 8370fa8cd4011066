/- What it costs to join two boxes and whether they fit, in the reference; signs. Conditions: none. -/
import Derived.Test.YtmopioaojdlnkaaCostt
import Derived.Deep.QuietTactic
import Derived.BigQuiet
import Derived.Shelf.Strings.Search1
import Derived.Shelf.Strings.Search2
import Derived.Shelf.Strings.Search3
import Derived.Test.YtmopioaojdlnkaaLibt
import Derived.Test.YtmopioaojdlnkaaProg
import Derived.Test.YtmopioaojdlnkaaRows
namespace Go.Proofs.Ytmopioaojdlnkaa
open Go Go.RowKit
theorem impl_signOf_c (kind : Int) (w : World) : Calls Try.prog 39 #[.int .i64 kind] w fun e w' => e = .returned (.string (labelF kind)) ∧ w' = w := by
 by_cases h2 : kind = 2
 · subst h2
   go_enter Try.func39, Try.ntmps39
   go_wp2_with fail
   go_ret
   exact ⟨rfl, rfl⟩
 · by_cases h5 : kind = 5
   · subst h5
     go_enter Try.func39, Try.ntmps39
     go_wp2_with fail
     go_ret
     exact ⟨rfl, rfl⟩
   · have g2 : (kind == 2) = false := by simp [h2]
     have g5 : (kind == 5) = false := by simp [h5]
     have e : labelF kind = .empty := by simp [labelF, h2, h5]
     rw [e]
     clear e h2 h5
     go_enter Try.func39, Try.ntmps39
     go_wp2_with fail
     go_ret
     exact ⟨rfl, rfl⟩
theorem spec_l21Label_c (kind : Int) (w : World) : Calls Try.prog 40 #[.int .i64 kind] w fun e w' => e = .returned (.string (labelF kind)) ∧ w' = w := by
 by_cases h2 : kind = 2
 · subst h2
   go_enter Try.func40, Try.ntmps40
   go_wp2_with fail
   go_ret
   exact ⟨rfl, rfl⟩
 · by_cases h5 : kind = 5
   · subst h5
     go_enter Try.func40, Try.ntmps40
     go_wp2_with fail
     go_ret
     exact ⟨rfl, rfl⟩
   · have g2 : (kind == 2) = false := by simp [h2]
     have g5 : (kind == 5) = false := by simp [h5]
     have e : labelF kind = .empty := by simp [labelF, h2, h5]
     rw [e]
     clear e h2 h5
     go_enter Try.func40, Try.ntmps40
     go_wp2_with fail
     go_ret
     exact ⟨rfl, rfl⟩
set_option maxRecDepth 100000 in
set_option maxHeartbeats 4000000 in
theorem spec_l21Own_c (kind : Int) (a b s : PBox) (w : World) (ha : boxIn a) (hb : boxIn b) (hs : boxIn s) :
 Calls Try.prog 98 #[.int .i64 kind, .agg #[.int .i64 s.x1, .int .i64 s.y1, .int .i64 s.x2, .int .i64 s.y2], .agg #[.int .i64 a.x1, .int .i64 a.y1, .int .i64 a.x2, .int .i64 a.y2], .agg #[.int .i64 b.x1, .int .i64 b.y1, .int .i64 b.x2, .int .i64 b.y2]] w fun e w' => e = .returned (.int .i64 (ownF kind a b s)) ∧ Below w.heap.size w w' := by
 have al : ∀ x y z : Obj, ∀ n, Below w.heap.size w ((((w.alloc x).alloc y).alloc z).drewN n) := fun x y z n => below_drewN ((((Below.refl _ _).alloc (Nat.le_refl _) _).alloc (by simp) _).alloc (by simp; omega) _) n
 have al0 : ∀ x y z : Obj, Below w.heap.size w (((w.alloc x).alloc y).alloc z) := fun x y z => (((Below.refl _ _).alloc (Nat.le_refl _) _).alloc (by simp) _).alloc (by simp; omega) _
 unfold boxIn at ha hb hs
 by_cases k1 : kind = 1
 · subst k1
   have e1 := IntWalk.i64_in (a.y1 + a.y2) (by omega)
   have e2 := IntWalk.i64_in (a.y1 + a.y2 - b.y1) (by omega)
   have e3 := IntWalk.i64_in (a.y1 + a.y2 - b.y1 - b.y2) (by omega)
   have e4 := IntWalk.i64_in (b.x1 - a.x2) (by omega)
   have h1 := absI_le (n := a.y1 + a.y2 - b.y1 - b.y2) (m := 9000) (by omega)
   have e6 := IntWalk.i64_in (absI (a.y1 + a.y2 - b.y1 - b.y2) + max 0 (b.x1 - a.x2)) (by omega)
   go_enter Try.func98, Try.ntmps98
   go_wp2_with fail
   go_quiet ((first | (go_at_call 106; exact Calls.quiet_of_same (spec_size_c _ _ (by omega))) | (go_at_call 60; exact Calls.quiet_of_same (spec_max_c _ _ _))))
   go_wp2_with fail
   go_ret
   exact ⟨ret_intJ (by simp only [ownF, if_true]; omega), al _ _ _ _⟩
 · by_cases k2 : kind = 2
   · subst k2
     have e1 := IntWalk.i64_in (a.x1 + a.x2) (by omega)
     have e2 := IntWalk.i64_in (a.x1 + a.x2 - s.x1) (by omega)
     have e3 := IntWalk.i64_in (a.x1 + a.x2 - s.x1 - s.x2) (by omega)
     have e4 := IntWalk.i64_in (b.x1 + b.x2) (by omega)
     have e5 := IntWalk.i64_in (b.x1 + b.x2 - s.x1) (by omega)
     have e6 := IntWalk.i64_in (b.x1 + b.x2 - s.x1 - s.x2) (by omega)
     have h1 := absI_le (n := a.x1 + a.x2 - s.x1 - s.x2) (m := 9000) (by omega)
     have h2 := absI_le (n := b.x1 + b.x2 - s.x1 - s.x2) (m := 9000) (by omega)
     have e7 := IntWalk.i64_in (absI (a.x1 + a.x2 - s.x1 - s.x2) + absI (b.x1 + b.x2 - s.x1 - s.x2)) (by omega)
     go_enter Try.func98, Try.ntmps98
     go_wp2_with fail
     go_quiet ((first | (go_at_call 106; exact Calls.quiet_of_same (spec_size_c _ _ (by omega))) | (go_at_call 60; exact Calls.quiet_of_same (spec_max_c _ _ _))))
     go_wp2_with fail
     go_ret
     exact ⟨ret_intJ (by simp [ownF]), al _ _ _ _⟩
   · by_cases k3 : kind = 3
     · subst k3
       have e1 := IntWalk.i64_in (b.x1 - a.x2) (by omega)
       have e2 := IntWalk.i64_in (b.y2 - a.y1) (by omega)
       have h1 := absI_le (n := b.x1 - a.x2) (m := 9000) (by omega)
       have h2 := absI_le (n := b.y2 - a.y1) (m := 9000) (by omega)
       have e3 := IntWalk.i64_in (absI (b.x1 - a.x2) + absI (b.y2 - a.y1)) (by omega)
       have e4 := IntWalk.i64_in (absI (b.x1 - a.x2) + absI (b.y2 - a.y1) + 20) (by omega)
       go_enter Try.func98, Try.ntmps98
       go_wp2_with fail
       go_quiet ((first | (go_at_call 106; exact Calls.quiet_of_same (spec_size_c _ _ (by omega))) | (go_at_call 60; exact Calls.quiet_of_same (spec_max_c _ _ _))))
       go_wp2_with fail
       go_ret
       exact ⟨ret_intJ (by simp [ownF]), al _ _ _ _⟩
     · by_cases k4 : kind = 4
       · subst k4
         have e1 := IntWalk.i64_in (b.x1 - a.x2) (by omega)
         have e2 := IntWalk.i64_in (b.y1 - a.y2) (by omega)
         have h1 := absI_le (n := b.x1 - a.x2) (m := 9000) (by omega)
         have h2 := absI_le (n := b.y1 - a.y2) (m := 9000) (by omega)
         have e3 := IntWalk.i64_in (absI (b.x1 - a.x2) + absI (b.y1 - a.y2)) (by omega)
         have e4 := IntWalk.i64_in (absI (b.x1 - a.x2) + absI (b.y1 - a.y2) + 20) (by omega)
         go_enter Try.func98, Try.ntmps98
         go_wp2_with fail
         go_quiet ((first | (go_at_call 106; exact Calls.quiet_of_same (spec_size_c _ _ (by omega))) | (go_at_call 60; exact Calls.quiet_of_same (spec_max_c _ _ _))))
         go_wp2_with fail
         go_ret
         exact ⟨ret_intJ (by simp [ownF]), al _ _ _ _⟩
       · have g1 : (kind == 1) = false := by simp [k1]
         have g2 : (kind == 2) = false := by simp [k2]
         have g3 : (kind == 3) = false := by simp [k3]
         have g4 : (kind == 4) = false := by simp [k4]
         have r1 : ownF kind a b s = 0 := by simp [ownF, k1, k2, k3, k4]
         rw [r1]
         clear k1 k2 k3 k4 r1
         go_enter Try.func98, Try.ntmps98
         go_wp2_with fail
         go_ret
         exact ⟨rfl, al0 _ _ _⟩
set_option maxRecDepth 100000 in
set_option maxHeartbeats 4000000 in
theorem spec_l21Fits_c (kind : Int) (a b s : PBox) (w : World) (hk : kind = 1 ∨ kind = 2 ∨ kind = 3 ∨ kind = 4 ∨ kind = 5) (ha : boxIn a) (hb : boxIn b) (hs : boxIn s) :
 Calls Try.prog 97 #[.int .i64 kind, .agg #[.int .i64 s.x1, .int .i64 s.y1, .int .i64 s.x2, .int .i64 s.y2], .agg #[.int .i64 a.x1, .int .i64 a.y1, .int .i64 a.x2, .int .i64 a.y2], .agg #[.int .i64 b.x1, .int .i64 b.y1, .int .i64 b.x2, .int .i64 b.y2]] w fun e w' => e = .returned (.bool (fitsF kind a b s)) ∧ Below w.heap.size w w' := by
 have al : ∀ x y z u v : Obj, Below w.heap.size w (((((w.alloc x).alloc y).alloc z).alloc u).alloc v) := fun x y z u v => (((((Below.refl _ _).alloc (Nat.le_refl _) _).alloc (by simp) _).alloc (by simp; omega) _).alloc (by simp; omega) _).alloc (by simp; omega) _
 obtain ⟨Ra, Rb, Rs⟩ := three_boxes w s a b
 rcases hk with rfl | rfl | rfl | rfl | rfl
 · go_enter Try.func97, Try.ntmps97
   go_wp2_with fail
   refine (spec_l20Relation_c a b _ ha hb).mono ?_
   rintro e w1 ⟨rfl, rfl⟩
   go_wp2_with fail
   go_ret
   exact ⟨ret_boolI (by rw [Bool.eq_iff_iff]; simp [fitsF]), al _ _ _ _ _⟩
 · by_cases hr : relF s a = 2
   · have g : (relF s a == 2) = true := by simp [hr]
     have R := Lib.hid hr
     clear hr
     have Qs := (Rs.alloc (.cells #[.int .i64 s.x1, .int .i64 s.y1, .int .i64 s.x2, .int .i64 s.y2] 48)).alloc (.cells #[.int .i64 a.x1, .int .i64 a.y1, .int .i64 a.x2, .int .i64 a.y2] 48)
     have Qa := (Ra.alloc (.cells #[.int .i64 s.x1, .int .i64 s.y1, .int .i64 s.x2, .int .i64 s.y2] 48)).alloc (.cells #[.int .i64 a.x1, .int .i64 a.y1, .int .i64 a.x2, .int .i64 a.y2] 48)
     have s0 := Qa.c0
     have s1 := Qa.c1
     have s2 := Qa.c2
     have s3 := Qa.c3
     have b0 := Qs.c0
     have b1 := Qs.c1
     have b2 := Qs.c2
     have b3 := Qs.c3
     go_enter Try.func97, Try.ntmps97
     go_wp2_with fail
     refine (spec_l20Relation_c s a _ hs ha).mono ?_
     rintro e w1 ⟨rfl, rfl⟩
     go_wp2_with fail
     refine (spec_l20Relation_c s b _ hs hb).mono ?_
     rintro e w1 ⟨rfl, rfl⟩
     go_wp2_with fail
     go_ret
     exact ⟨ret_boolI (by rw [Bool.eq_iff_iff]; simp [fitsF, R.out]), ((al _ _ _ _ _).alloc (by simp; omega) _).alloc (by simp; omega) _⟩
   · have g : (relF s a == 2) = false := by simp [hr]
     have R := Lib.hid hr
     clear hr
     go_enter Try.func97, Try.ntmps97
     go_wp2_with fail
     refine (spec_l20Relation_c s a _ hs ha).mono ?_
     rintro e w1 ⟨rfl, rfl⟩
     go_wp2_with fail
     go_ret
     exact ⟨ret_boolI (by rw [Bool.eq_iff_iff]; simp [fitsF, R.out]), al _ _ _ _ _⟩
 · go_enter Try.func97, Try.ntmps97
   go_wp2_with fail
   refine (spec_l20Relation_c a b _ ha hb).mono ?_
   rintro e w1 ⟨rfl, rfl⟩
   go_wp2_with fail
   go_ret
   exact ⟨ret_boolI (by rw [Bool.eq_iff_iff]; simp [fitsF]), al _ _ _ _ _⟩
 · go_enter Try.func97, Try.ntmps97
   go_wp2_with fail
   refine (spec_l20Relation_c a b _ ha hb).mono ?_
   rintro e w1 ⟨rfl, rfl⟩
   go_wp2_with fail
   go_ret
   exact ⟨ret_boolI (by rw [Bool.eq_iff_iff]; simp [fitsF]), al _ _ _ _ _⟩
 · go_enter Try.func97, Try.ntmps97
   go_wp2_with fail
   refine (spec_l20Relation_c s a _ hs ha).mono ?_
   rintro e w1 ⟨rfl, rfl⟩
   go_wp2_with fail
   go_ret
   exact ⟨ret_boolI (by rw [Bool.eq_iff_iff]; simp [fitsF]), al _ _ _ _ _⟩
end Go.Proofs.Ytmopioaojdlnkaa
namespace Go.Proofs.Ytmopioaojdlnkaa
open Go Go.Shelf Go.RowKit
def lays144_ren : Go.Shelf.Ren := ⟨fun | 144 => 66 | 143 => 81 | 219 => 91 | 217 => 99 | 225 => 100 | 224 => 101 | 267 => 102 | 266 => 107 | 314 => 108 | n => n, fun | 9 => 9 | 4 => 4 | 3 => 3 | 5 => 5 | 46 => 135 | 146 => 150 | 51 => 149 | n => n, fun | 1 => 0 | n => n⟩
theorem lays144 : Go.Proofs.Lays.n144 Try.prog lays144_ren := {
 mixed := by kernel_rfl
 f143 := Try.func81.trans (congrArg some (by kernel_rfl))
 f144 := Try.func66.trans (congrArg some (by kernel_rfl))
 f217 := Try.func99.trans (congrArg some (by kernel_rfl))
 f219 := Try.func91.trans (congrArg some (by kernel_rfl))
 f224 := Try.func101.trans (congrArg some (by kernel_rfl))
 f225 := Try.func100.trans (congrArg some (by kernel_rfl))
 f266 := Try.func107.trans (congrArg some (by kernel_rfl))
 f267 := Try.func102.trans (congrArg some (by kernel_rfl))
 f314 := Try.func108.trans (congrArg some (by kernel_rfl))
 t3 := Try.underlying3
 a3 := Try.isAgg3
 z3 := Try.sizeOf3
 v3 := Try.zeroValue3
 t4 := Try.underlying4
 a4 := Try.isAgg4
 z4 := Try.sizeOf4
 v4 := Try.zeroValue4
 t5 := Try.underlying5
 a5 := Try.isAgg5
 z5 := Try.sizeOf5
 v5 := Try.zeroValue5
 t9 := Try.underlying9
 a9 := Try.isAgg9
 z9 := Try.sizeOf9
 v9 := Try.zeroValue9
 t46 := Try.underlying135
 a46 := Try.isAgg135
 z46 := Try.sizeOf135
 v46 := Try.zeroValue135
 t51 := Try.underlying149
 a51 := Try.isAgg149
 z51 := Try.sizeOf149
 v51 := Try.zeroValue149
 t146 := Try.underlying150
 a146 := Try.isAgg150
 z146 := Try.sizeOf150
 v146 := Try.zeroValue150
 g1 := by kernel_rfl }
open Go.RowKit Go.Lib in
theorem strings_Contains_one (s : ByteArray) (c : UInt8) (w : World) :
 Calls Try.prog 66 #[.string s, .string ⟨#[c]⟩] w fun e w' => e = .returned (.bool (decide (0 ≤ Lib.indexByte s.data.toList c))) ∧ w' = w := Any.strings_Contains_one lays144 s c w
theorem ret_boolL {a b : Bool} (h : a = b) : Ending.returned (.bool a) = .returned (.bool b) := by rw [h]
def labelC (n : Int) : Bool := (decide (97 ≤ n) && decide (n ≤ 122)) || ((decide (48 ≤ n) && decide (n ≤ 57)) || decide (n = 43 ∨ n = 45 ∨ n = 42 ∨ n = 47 ∨ n = 61 ∨ n = 40 ∨ n = 41 ∨ n = 46 ∨ n = 44))
set_option maxHeartbeats 400000 in
theorem impl_isLetter_i (n : Int) (w : World) :
 Calls Try.prog 65 #[.int .u8 n] w fun e w' => e = .returned (.bool (decide (97 ≤ n) && decide (n ≤ 122))) ∧ w' = w := by
 by_cases h : 97 ≤ n
 · have g : decide (97 ≤ n) = true := by simpa using h
   go_enter Try.func65, Try.ntmps65
   go_wp2_with fail
   all_goals go_ret
   all_goals exact ⟨ret_boolL (by simp [*]), rfl⟩
 · have g : decide (97 ≤ n) = false := by simpa using h
   go_enter Try.func65, Try.ntmps65
   go_wp2_with fail
   all_goals go_ret
   all_goals exact ⟨ret_boolL (by simp [*]), rfl⟩
set_option maxHeartbeats 400000 in
theorem spec_l01Small_i (n : Int) (w : World) :
 Calls Try.prog 85 #[.int .u8 n] w fun e w' => e = .returned (.bool (decide (97 ≤ n) && decide (n ≤ 122))) ∧ w' = w := by
 by_cases h : 97 ≤ n
 · have g : decide (97 ≤ n) = true := by simpa using h
   go_enter Try.func85, Try.ntmps85
   go_wp2_with fail
   all_goals go_ret
   all_goals exact ⟨ret_boolL (by simp [*]), rfl⟩
 · have g : decide (97 ≤ n) = false := by simpa using h
   go_enter Try.func85, Try.ntmps85
   go_wp2_with fail
   all_goals go_ret
   all_goals exact ⟨ret_boolL (by simp [*]), rfl⟩
set_option maxHeartbeats 1000000 in
theorem spec_l11Label_c (n : Int) (w : World) :
 Calls Try.prog 71 #[.int .u8 n] w fun e w' => e = .returned (.bool (labelC n)) ∧ w' = w := by
 by_cases hs : n = 43 ∨ n = 45 ∨ n = 42 ∨ n = 47 ∨ n = 61 ∨ n = 40 ∨ n = 41 ∨ n = 46 ∨ n = 44
 · have hl : labelC n = true := by simp [labelC, hs]
   rw [hl]
   clear hl
   rcases hs with rfl | rfl | rfl | rfl | rfl | rfl | rfl | rfl | rfl
   all_goals
    go_enter Try.func71, Try.ntmps71
    go_wp2_with fail
    go_ret
    exact ⟨rfl, rfl⟩
 · have hl : labelC n = ((decide (97 ≤ n) && decide (n ≤ 122)) || (decide (48 ≤ n) && decide (n ≤ 57))) := by simp [labelC, hs]
   rw [hl]
   clear hl
   have C := spec_l01Small_i n
   generalize (decide (97 ≤ n) && decide (n ≤ 122)) = d at C ⊢
   have HC := Lib.hid C
   clear C
   have g1 : (n == 43) = false := by simp; omega
   have g2 : (n == 45) = false := by simp; omega
   have g3 : (n == 42) = false := by simp; omega
   have g4 : (n == 47) = false := by simp; omega
   have g5 : (n == 61) = false := by simp; omega
   have g6 : (n == 40) = false := by simp; omega
   have g7 : (n == 41) = false := by simp; omega
   have g8 : (n == 46) = false := by simp; omega
   have g9 : (n == 44) = false := by simp; omega
   clear hs
   cases d
   · by_cases h : 48 ≤ n
     · have g : decide (48 ≤ n) = true := by simpa using h
       go_enter Try.func71, Try.ntmps71
       go_wp2_with (go_at_call 85; refine (HC.out _).mono ?_; rintro e w1 ⟨rfl, rfl⟩)
       all_goals go_ret
       all_goals exact ⟨ret_boolL (by simp [*]), rfl⟩
     · have g : decide (48 ≤ n) = false := by simpa using h
       go_enter Try.func71, Try.ntmps71
       go_wp2_with (go_at_call 85; refine (HC.out _).mono ?_; rintro e w1 ⟨rfl, rfl⟩)
       all_goals go_ret
       all_goals exact ⟨ret_boolL (by simp [*]), rfl⟩
   · go_enter Try.func71, Try.ntmps71
     go_wp2_with (go_at_call 85; refine (HC.out _).mono ?_; rintro e w1 ⟨rfl, rfl⟩)
     all_goals go_ret
     all_goals exact ⟨rfl, rfl⟩
def labelB (s : ByteArray) : Bool := decide (s.size = 1) && labelC ((s.data[0]?.getD 0).toNat : Int)
theorem one_byte {s : ByteArray} (h : s.size = 1) : ∃ c, s = ⟨#[c]⟩ := by
 obtain ⟨⟨l⟩⟩ := s
 simp only [ByteArray.size] at h
 match l, h with
 | [c], _ => exact ⟨c, rfl⟩
theorem has_label : ∀ c : UInt8, ((decide (97 ≤ (c.toNat : Int)) && decide ((c.toNat : Int) ≤ 122)) || decide (0 ≤ Lib.indexByte [48, 49, 50, 51, 52, 53, 54, 55, 56, 57, 43, 45, 42, 47, 61, 40, 41, 46, 44] c)) = labelC (c.toNat : Int) := by
 have h : ∀ n : Fin 256, ((decide (97 ≤ ((UInt8.ofNat n.val).toNat : Int)) && decide (((UInt8.ofNat n.val).toNat : Int) ≤ 122)) || decide (0 ≤ Lib.indexByte [48, 49, 50, 51, 52, 53, 54, 55, 56, 57, 43, 45, 42, 47, 61, 40, 41, 46, 44] (UInt8.ofNat n.val))) = labelC ((UInt8.ofNat n.val).toNat : Int) := by decide +kernel
 intro c
 have := h ⟨c.toNat, UInt8.toNat_lt c⟩
 simpa using this
set_option maxHeartbeats 400000 in
theorem spec_IsLabel_c (s : ByteArray) (w : World) (hs : s.size ≤ 1048576) :
 Calls Try.prog 52 #[.string s] w fun e w' => e = .returned (.bool (labelB s)) ∧ w' = w := by
 by_cases h : s.size = 1
 · obtain ⟨c, rfl⟩ := one_byte h
   have hl : labelB ⟨#[c]⟩ = labelC (c.toNat : Int) := by simp [labelB, ByteArray.size]
   rw [hl]
   have HC := Lib.hid (spec_l11Label_c (c.toNat : Int))
   clear hl
   go_enter Try.func52, Try.ntmps52
   go_wp2_with fail
   refine (HC.out _).mono ?_
   rintro e w1 ⟨rfl, rfl⟩
   go_wp2_with fail
   go_ret
   exact ⟨rfl, rfl⟩
 · have hl : labelB s = false := by simp [labelB, h]
   rw [hl]
   have g : ((s.size : Int) == 1) = false := by rw [beq_eq_false_iff_ne]; omega
   clear hl h
   go_enter Try.func52, Try.ntmps52
   go_wp2_with fail
   go_ret
   exact ⟨rfl, rfl⟩
set_option maxHeartbeats 400000 in
theorem impl_IsLabel_c (s : ByteArray) (w : World) (hs : s.size ≤ 1048576) :
 Calls Try.prog 49 #[.string s] w fun e w' => e = .returned (.bool (labelB s)) ∧ w' = w := by
 by_cases h : s.size = 1
 · obtain ⟨c, rfl⟩ := one_byte h
   have hl : labelB ⟨#[c]⟩ = labelC (c.toNat : Int) := by simp [labelB, ByteArray.size]
   have hh := has_label c
   rw [hl, ← hh]
   have C1 := impl_isLetter_i (c.toNat : Int)
   have C2 := strings_Contains_one ⟨#[48, 49, 50, 51, 52, 53, 54, 55, 56, 57, 43, 45, 42, 47, 61, 40, 41, 46, 44]⟩ c
   generalize (decide (97 ≤ (c.toNat : Int)) && decide ((c.toNat : Int) ≤ 122)) = d at C1 ⊢
   generalize decide (0 ≤ Lib.indexByte [48, 49, 50, 51, 52, 53, 54, 55, 56, 57, 43, 45, 42, 47, 61, 40, 41, 46, 44] c) = b at C2 ⊢
   have H1 := Lib.hid C1
   have H2 := Lib.hid C2
   clear hl hh C1 C2
   cases d
   all_goals
    go_enter Try.func49, Try.ntmps49
    go_wp2_with (first | (go_at_call 65; refine (H1.out _).mono ?_; rintro e w1 ⟨rfl, rfl⟩) | (go_at_call 66; refine (H2.out _).mono ?_; rintro e w1 ⟨rfl, rfl⟩))
    go_ret
    exact ⟨rfl, rfl⟩
 · have hl : labelB s = false := by simp [labelB, h]
   rw [hl]
   have g : ((s.size : Int) == 1) = false := by rw [beq_eq_false_iff_ne]; omega
   clear hl h
   go_enter Try.func49, Try.ntmps49
   go_wp2_with fail
   go_ret
   exact ⟨rfl, rfl⟩
end Go.Proofs.Ytmopioaojdlnkaa
