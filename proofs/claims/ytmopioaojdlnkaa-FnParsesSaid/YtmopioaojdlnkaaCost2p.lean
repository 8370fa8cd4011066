/- What it costs to join two boxes and whether they fit, in the reference; signs. Conditions: none. -/
import Derived.Test.YtmopioaojdlnkaaCostp
import Derived.Deep.QuietTactic
import Derived.BigQuiet
import Derived.Shelf.Strings.Search1
import Derived.Shelf.Strings.Search2
import Derived.Shelf.Strings.Search3
import Derived.Test.YtmopioaojdlnkaaLibp
import Derived.Test.YtmopioaojdlnkaaProg
import Derived.Test.YtmopioaojdlnkaaRows
import Derived.Test.YtmopioaojdlnkaaTree1p
import Derived.Test.YtmopioaojdlnkaaInp
namespace Go.Proofs.Ytmopioaojdlnkaa
open Go Go.RowKit

theorem impl_signOf_c (kind : Int) (w : World) : Calls Try.prog 39 #[.int .i64 kind] w fun e w' => e = .returned (.string (labelF kind)) ∧ w' = w := by
 by_cases h2 : kind = 2
 · subst h2
   go_enter Try.func39, Try.ntmps39
   go_wp2_with fail
   go_ret
   exact ⟨rfl, rfl⟩
 · by_cases h5 : kind = 5
   · subst h5
     go_enter Try.func39, Try.ntmps39
     go_wp2_with fail
     go_ret
     exact ⟨rfl, rfl⟩
   · have g2 : (kind == 2) = false := by simp [h2]
     have g5 : (kind == 5) = false := by simp [h5]
     have e : labelF kind = .empty := by simp [labelF, h2, h5]
     rw [e]
     clear e h2 h5
     go_enter Try.func39, Try.ntmps39
     go_wp2_with fail
     go_ret
     exact ⟨rfl, rfl⟩
theorem spec_l21Label_c (kind : Int) (w : World) : Calls Try.prog 40 #[.int .i64 kind] w fun e w' => e = .returned (.string (labelF kind)) ∧ w' = w := by
 by_cases h2 : kind = 2
 · subst h2
   go_enter Try.func40, Try.ntmps40
   go_wp2_with fail
   go_ret
   exact ⟨rfl, rfl⟩
 · by_cases h5 : kind = 5
   · subst h5
     go_enter Try.func40, Try.ntmps40
     go_wp2_with fail
     go_ret
     exact ⟨rfl, rfl⟩
   · have g2 : (kind == 2) = false := by simp [h2]
     have g5 : (kind == 5) = false := by simp [h5]
     have e : labelF kind = .empty := by simp [labelF, h2, h5]
     rw [e]
     clear e h2 h5
     go_enter Try.func40, Try.ntmps40
     go_wp2_with fail
     go_ret
     exact ⟨rfl, rfl⟩
set_option maxRecDepth 100000 in
set_option maxHeartbeats 4000000 in
theorem spec_l21Own_c (kind : Int) (a b s : PBox) (w : World) (ha : boxIn a) (hb : boxIn b) (hs : boxIn s) :
 Calls Try.prog 98 #[.int .i64 kind, .agg #[.int .i64 s.x1, .int .i64 s.y1, .int .i64 s.x2, .int .i64 s.y2], .agg #[.int .i64 a.x1, .int .i64 a.y1, .int .i64 a.x2, .int .i64 a.y2], .agg #[.int .i64 b.x1, .int .i64 b.y1, .int .i64 b.x2, .int .i64 b.y2]] w fun e w' => e = .returned (.int .i64 (ownF kind a b s)) ∧ Below w.heap.size w w' := by
 have al : ∀ x y z : Obj, ∀ n, Below w.heap.size w ((((w.alloc x).alloc y).alloc z).drewN n) := fun x y z n => below_drewN ((((Below.refl _ _).alloc (Nat.le_refl _) _).alloc (by simp) _).alloc (by simp; omega) _) n
 have al0 : ∀ x y z : Obj, Below w.heap.size w (((w.alloc x).alloc y).alloc z) := fun x y z => (((Below.refl _ _).alloc (Nat.le_refl _) _).alloc (by simp) _).alloc (by simp; omega) _
 unfold boxIn at ha hb hs
 by_cases k1 : kind = 1
 · subst k1
   have e1 : IntKind.i64.wrap (a.y1 + a.y2) = a.y1 + a.y2 := IntWalk.i64_in _ (by omega)
   have e2 : IntKind.i64.wrap (a.y1 + a.y2 - b.y1) = a.y1 + a.y2 - b.y1 := IntWalk.i64_in _ (by omega)
   have e3 : IntKind.i64.wrap (a.y1 + a.y2 - b.y1 - b.y2) = a.y1 + a.y2 - b.y1 - b.y2 := IntWalk.i64_in _ (by omega)
   have e4 : IntKind.i64.wrap (b.x1 - a.x2) = b.x1 - a.x2 := IntWalk.i64_in _ (by omega)
   have h1 := absI_le (n := a.y1 + a.y2 - b.y1 - b.y2) (m := 9000) (by omega)
   have e6 : IntKind.i64.wrap (absI (a.y1 + a.y2 - b.y1 - b.y2) + max 0 (b.x1 - a.x2)) = absI (a.y1 + a.y2 - b.y1 - b.y2) + max 0 (b.x1 - a.x2) := IntWalk.i64_in _ (by omega)
   go_enter Try.func98, Try.ntmps98
   go_wp2_with fail
   go_quiet ((first | (go_at_call 106; exact Calls.quiet_of_same (spec_size_c _ _ (by omega))) | (go_at_call 60; exact Calls.quiet_of_same (spec_max_c _ _ _))))
   go_wp2_with fail
   go_ret
   exact ⟨ret_intJ (by simp only [ownF, if_true]; omega), al _ _ _ _⟩
 · by_cases k2 : kind = 2
   · subst k2
     have e1 : IntKind.i64.wrap (a.x1 + a.x2) = a.x1 + a.x2 := IntWalk.i64_in _ (by omega)
     have e2 : IntKind.i64.wrap (a.x1 + a.x2 - s.x1) = a.x1 + a.x2 - s.x1 := IntWalk.i64_in _ (by omega)
     have e3 : IntKind.i64.wrap (a.x1 + a.x2 - s.x1 - s.x2) = a.x1 + a.x2 - s.x1 - s.x2 := IntWalk.i64_in _ (by omega)
     have e4 : IntKind.i64.wrap (b.x1 + b.x2) = b.x1 + b.x2 := IntWalk.i64_in _ (by omega)
     have e5 : IntKind.i64.wrap (b.x1 + b.x2 - s.x1) = b.x1 + b.x2 - s.x1 := IntWalk.i64_in _ (by omega)
     have e6 : IntKind.i64.wrap (b.x1 + b.x2 - s.x1 - s.x2) = b.x1 + b.x2 - s.x1 - s.x2 := IntWalk.i64_in _ (by omega)
     have h1 := absI_le (n := a.x1 + a.x2 - s.x1 - s.x2) (m := 9000) (by omega)
     have h2 := absI_le (n := b.x1 + b.x2 - s.x1 - s.x2) (m := 9000) (by omega)
     have e7 : IntKind.i64.wrap (absI (a.x1 + a.x2 - s.x1 - s.x2) + absI (b.x1 + b.x2 - s.x1 - s.x2)) = absI (a.x1 + a.x2 - s.x1 - s.x2) + absI (b.x1 + b.x2 - s.x1 - s.x2) := IntWalk.i64_in _ (by omega)
     go_enter Try.func98, Try.ntmps98
     go_wp2_with fail
     go_quiet ((first | (go_at_call 106; exact Calls.quiet_of_same (spec_size_c _ _ (by omega))) | (go_at_call 60; exact Calls.quiet_of_same (spec_max_c _ _ _))))
     go_wp2_with fail
     go_ret
     exact ⟨ret_intJ (by simp [ownF]), al _ _ _ _⟩
   · by_cases k3 : kind = 3
     · subst k3
       have e1 : IntKind.i64.wrap (b.x1 - a.x2) = b.x1 - a.x2 := IntWalk.i64_in _ (by omega)
       have e2 : IntKind.i64.wrap (b.y2 - a.y1) = b.y2 - a.y1 := IntWalk.i64_in _ (by omega)
       have h1 := absI_le (n := b.x1 - a.x2) (m := 9000) (by omega)
       have h2 := absI_le (n := b.y2 - a.y1) (m := 9000) (by omega)
       have e3 : IntKind.i64.wrap (absI (b.x1 - a.x2) + absI (b.y2 - a.y1)) = absI (b.x1 - a.x2) + absI (b.y2 - a.y1) := IntWalk.i64_in _ (by omega)
       have e4 : IntKind.i64.wrap (absI (b.x1 - a.x2) + absI (b.y2 - a.y1) + 20) = absI (b.x1 - a.x2) + absI (b.y2 - a.y1) + 20 := IntWalk.i64_in _ (by omega)
       go_enter Try.func98, Try.ntmps98
       go_wp2_with fail
       go_quiet ((first | (go_at_call 106; exact Calls.quiet_of_same (spec_size_c _ _ (by omega))) | (go_at_call 60; exact Calls.quiet_of_same (spec_max_c _ _ _))))
       go_wp2_with fail
       go_ret
       exact ⟨ret_intJ (by simp [ownF]), al _ _ _ _⟩
     · by_cases k4 : kind = 4
       · subst k4
         have e1 : IntKind.i64.wrap (b.x1 - a.x2) = b.x1 - a.x2 := IntWalk.i64_in _ (by omega)
         have e2 : IntKind.i64.wrap (b.y1 - a.y2) = b.y1 - a.y2 := IntWalk.i64_in _ (by omega)
         have h1 := absI_le (n := b.x1 - a.x2) (m := 9000) (by omega)
         have h2 := absI_le (n := b.y1 - a.y2) (m := 9000) (by omega)
         have e3 : IntKind.i64.wrap (absI (b.x1 - a.x2) + absI (b.y1 - a.y2)) = absI (b.x1 - a.x2) + absI (b.y1 - a.y2) := IntWalk.i64_in _ (by omega)
         have e4 : IntKind.i64.wrap (absI (b.x1 - a.x2) + absI (b.y1 - a.y2) + 20) = absI (b.x1 - a.x2) + absI (b.y1 - a.y2) + 20 := IntWalk.i64_in _ (by omega)
         go_enter Try.func98, Try.ntmps98
         go_wp2_with fail
         go_quiet ((first | (go_at_call 106; exact Calls.quiet_of_same (spec_size_c _ _ (by omega))) | (go_at_call 60; exact Calls.quiet_of_same (spec_max_c _ _ _))))
         go_wp2_with fail
         go_ret
         exact ⟨ret_intJ (by simp [ownF]), al _ _ _ _⟩
       · have g1 : (kind == 1) = false := by simp [k1]
         have g2 : (kind == 2) = false := by simp [k2]
         have g3 : (kind == 3) = false := by simp [k3]
         have g4 : (kind == 4) = false := by simp [k4]
         have r1 : ownF kind a b s = 0 := by simp [ownF, k1, k2, k3, k4]
         rw [r1]
         clear k1 k2 k3 k4 r1
         go_enter Try.func98, Try.ntmps98
         go_wp2_with fail
         go_ret
         exact ⟨rfl, al0 _ _ _⟩
set_option maxRecDepth 100000 in
set_option maxHeartbeats 4000000 in
theorem spec_l21Fits_c (kind : Int) (a b s : PBox) (w : World) (hk : kind = 1 ∨ kind = 2 ∨ kind = 3 ∨ kind = 4 ∨ kind = 5) (ha : boxIn a) (hb : boxIn b) (hs : boxIn s) :
 Calls Try.prog 97 #[.int .i64 kind, .agg #[.int .i64 s.x1, .int .i64 s.y1, .int .i64 s.x2, .int .i64 s.y2], .agg #[.int .i64 a.x1, .int .i64 a.y1, .int .i64 a.x2, .int .i64 a.y2], .agg #[.int .i64 b.x1, .int .i64 b.y1, .int .i64 b.x2, .int .i64 b.y2]] w fun e w' => e = .returned (.bool (fitsF kind a b s)) ∧ Below w.heap.size w w' := by
 have al : ∀ x y z u v : Obj, Below w.heap.size w (((((w.alloc x).alloc y).alloc z).alloc u).alloc v) := fun x y z u v => (((((Below.refl _ _).alloc (Nat.le_refl _) _).alloc (by simp) _).alloc (by simp; omega) _).alloc (by simp; omega) _).alloc (by simp; omega) _
 obtain ⟨Ra, Rb, Rs⟩ := three_boxes w s a b
 rcases hk with rfl | rfl | rfl | rfl | rfl
 · go_enter Try.func97, Try.ntmps97
   go_wp2_with fail
   refine (spec_l20Relation_c a b _ ha hb).mono ?_
   rintro e w1 ⟨rfl, rfl⟩
   go_wp2_with fail
   go_ret
   exact ⟨ret_boolI (by rw [Bool.eq_iff_iff]; simp [fitsF]), al _ _ _ _ _⟩
 · by_cases hr : relF s a = 2
   · have g : (relF s a == 2) = true := by simp [hr]
     have R := Lib.hid hr
     clear hr
     have Qs := (Rs.alloc (.cells #[.int .i64 s.x1, .int .i64 s.y1, .int .i64 s.x2, .int .i64 s.y2] 48)).alloc (.cells #[.int .i64 a.x1, .int .i64 a.y1, .int .i64 a.x2, .int .i64 a.y2] 48)
     have Qa := (Ra.alloc (.cells #[.int .i64 s.x1, .int .i64 s.y1, .int .i64 s.x2, .int .i64 s.y2] 48)).alloc (.cells #[.int .i64 a.x1, .int .i64 a.y1, .int .i64 a.x2, .int .i64 a.y2] 48)
     have s0 := Qa.cell' (i := 0) rfl
     have s1 := Qa.cell' (i := 1) rfl
     have s2 := Qa.cell' (i := 2) rfl
     have s3 := Qa.cell' (i := 3) rfl
     have b0 := Qs.cell' (i := 0) rfl
     have b1 := Qs.cell' (i := 1) rfl
     have b2 := Qs.cell' (i := 2) rfl
     have b3 := Qs.cell' (i := 3) rfl
     go_enter Try.func97, Try.ntmps97
     go_wp2_with fail
     refine (spec_l20Relation_c s a _ hs ha).mono ?_
     rintro e w1 ⟨rfl, rfl⟩
     go_wp2_with fail
     refine (spec_l20Relation_c s b _ hs hb).mono ?_
     rintro e w1 ⟨rfl, rfl⟩
     go_wp2_with fail
     go_ret
     exact ⟨ret_boolI (by rw [Bool.eq_iff_iff]; simp [fitsF, R.out]), ((al _ _ _ _ _).alloc (by simp; omega) _).alloc (by simp; omega) _⟩
   · have g : (relF s a == 2) = false := by simp [hr]
     have R := Lib.hid hr
     clear hr
     go_enter Try.func97, Try.ntmps97
     go_wp2_with fail
     refine (spec_l20Relation_c s a _ hs ha).mono ?_
     rintro e w1 ⟨rfl, rfl⟩
     go_wp2_with fail
     go_ret
     exact ⟨ret_boolI (by rw [Bool.eq_iff_iff]; simp [fitsF, R.out]), al _ _ _ _ _⟩
 · go_enter Try.func97, Try.ntmps97
   go_wp2_with fail
   refine (spec_l20Relation_c a b _ ha hb).mono ?_
   rintro e w1 ⟨rfl, rfl⟩
   go_wp2_with fail
   go_ret
   exact ⟨ret_boolI (by rw [Bool.eq_iff_iff]; simp [fitsF]), al _ _ _ _ _⟩
 · go_enter Try.func97, Try.ntmps97
   go_wp2_with fail
   refine (spec_l20Relation_c a b _ ha hb).mono ?_
   rintro e w1 ⟨rfl, rfl⟩
   go_wp2_with fail
   go_ret
   exact ⟨ret_boolI (by rw [Bool.eq_iff_iff]; simp [fitsF]), al _ _ _ _ _⟩
 · go_enter Try.func97, Try.ntmps97
   go_wp2_with fail
   refine (spec_l20Relation_c s a _ hs ha).mono ?_
   rintro e w1 ⟨rfl, rfl⟩
   go_wp2_with fail
   go_ret
   exact ⟨ret_boolI (by rw [Bool.eq_iff_iff]; simp [fitsF]), al _ _ _ _ _⟩
end Go.Proofs.Ytmopioaojdlnkaa
namespace Go.Proofs.Ytmopioaojdlnkaa
open Go Go.Shelf Go.RowKit

def lays144_ren : Go.Shelf.Ren := ⟨fun | 144 => 66 | 143 => 81 | 219 => 91 | 217 => 99 | 225 => 100 | 224 => 101 | 267 => 102 | 266 => 107 | 314 => 108 | n => n, fun | 9 => 9 | 4 => 4 | 3 => 3 | 5 => 5 | 46 => 135 | 146 => 150 | 51 => 149 | n => n, fun | 1 => 0 | n => n⟩
theorem lays144 : Go.Proofs.Lays.n144 Try.prog lays144_ren := {
 mixed := by kernel_rfl
 f143 := Try.func81.trans (congrArg some (by kernel_rfl))
 f144 := Try.func66.trans (congrArg some (by kernel_rfl))
 f217 := Try.func99.trans (congrArg some (by kernel_rfl))
 f219 := Try.func91.trans (congrArg some (by kernel_rfl))
 f224 := Try.func101.trans (congrArg some (by kernel_rfl))
 f225 := Try.func100.trans (congrArg some (by kernel_rfl))
 f266 := Try.func107.trans (congrArg some (by kernel_rfl))
 f267 := Try.func102.trans (congrArg some (by kernel_rfl))
 f314 := Try.func108.trans (congrArg some (by kernel_rfl))
 t3 := Try.underlying3
 a3 := Try.isAgg3
 z3 := Try.sizeOf3
 v3 := Try.zeroValue3
 t4 := Try.underlying4
 a4 := Try.isAgg4
 z4 := Try.sizeOf4
 v4 := Try.zeroValue4
 t5 := Try.underlying5
 a5 := Try.isAgg5
 z5 := Try.sizeOf5
 v5 := Try.zeroValue5
 t9 := Try.underlying9
 a9 := Try.isAgg9
 z9 := Try.sizeOf9
 v9 := Try.zeroValue9
 t46 := Try.underlying135
 a46 := Try.isAgg135
 z46 := Try.sizeOf135
 v46 := Try.zeroValue135
 t51 := Try.underlying149
 a51 := Try.isAgg149
 z51 := Try.sizeOf149
 v51 := Try.zeroValue149
 t146 := Try.underlying150
 a146 := Try.isAgg150
 z146 := Try.sizeOf150
 v146 := Try.zeroValue150
 g1 := by kernel_rfl }
open Go.RowKit Go.Lib in
theorem strings_Contains_one (s : ByteArray) (c : UInt8) (w : World) :
 Calls Try.prog 66 #[.string s, .string ⟨#[c]⟩] w fun e w' => e = .returned (.bool (decide (0 ≤ Lib.indexByte s.data.toList c))) ∧ w' = w := Any.strings_Contains_one lays144 s c w
end Go.Proofs.Ytmopioaojdlnkaa
namespace Go.Proofs.Ytmopioaojdlnkaa
open Go Go.RowKit

theorem ret_boolL {a b : Bool} (h : a = b) : Ending.returned (.bool a) = .returned (.bool b) := by rw [h]
/-- A byte that a label may have. -/
def labelC (n : Int) : Bool := (decide (97 ≤ n) && decide (n ≤ 122)) || ((decide (48 ≤ n) && decide (n ≤ 57)) || decide (n = 43 ∨ n = 45 ∨ n = 42 ∨ n = 47 ∨ n = 61 ∨ n = 40 ∨ n = 41 ∨ n = 46 ∨ n = 44))
set_option maxHeartbeats 400000 in
theorem impl_isLetter_i (n : Int) (w : World) :
 Calls Try.prog 65 #[.int .u8 n] w fun e w' => e = .returned (.bool (decide (97 ≤ n) && decide (n ≤ 122))) ∧ w' = w := by
 by_cases h : 97 ≤ n
 · have g : decide (97 ≤ n) = true := by simpa using h
   go_enter Try.func65, Try.ntmps65
   go_wp2_with fail
   all_goals go_ret
   all_goals exact ⟨ret_boolL (by simp [*]), rfl⟩
 · have g : decide (97 ≤ n) = false := by simpa using h
   go_enter Try.func65, Try.ntmps65
   go_wp2_with fail
   all_goals go_ret
   all_goals exact ⟨ret_boolL (by simp [*]), rfl⟩
set_option maxHeartbeats 400000 in
theorem spec_l01Small_i (n : Int) (w : World) :
 Calls Try.prog 85 #[.int .u8 n] w fun e w' => e = .returned (.bool (decide (97 ≤ n) && decide (n ≤ 122))) ∧ w' = w := by
 by_cases h : 97 ≤ n
 · have g : decide (97 ≤ n) = true := by simpa using h
   go_enter Try.func85, Try.ntmps85
   go_wp2_with fail
   all_goals go_ret
   all_goals exact ⟨ret_boolL (by simp [*]), rfl⟩
 · have g : decide (97 ≤ n) = false := by simpa using h
   go_enter Try.func85, Try.ntmps85
   go_wp2_with fail
   all_goals go_ret
   all_goals exact ⟨ret_boolL (by simp [*]), rfl⟩
set_option maxHeartbeats 1000000 in
theorem spec_l11Label_c (n : Int) (w : World) :
 Calls Try.prog 71 #[.int .u8 n] w fun e w' => e = .returned (.bool (labelC n)) ∧ w' = w := by
 by_cases hs : n = 43 ∨ n = 45 ∨ n = 42 ∨ n = 47 ∨ n = 61 ∨ n = 40 ∨ n = 41 ∨ n = 46 ∨ n = 44
 · have hl : labelC n = true := by simp [labelC, hs]
   rw [hl]
   clear hl
   rcases hs with rfl | rfl | rfl | rfl | rfl | rfl | rfl | rfl | rfl
   all_goals
    go_enter Try.func71, Try.ntmps71
    go_wp2_with fail
    go_ret
    exact ⟨rfl, rfl⟩
 · have hl : labelC n = ((decide (97 ≤ n) && decide (n ≤ 122)) || (decide (48 ≤ n) && decide (n ≤ 57))) := by simp [labelC, hs]
   rw [hl]
   clear hl
   have C := spec_l01Small_i n
   generalize (decide (97 ≤ n) && decide (n ≤ 122)) = d at C ⊢
   have HC := Lib.hid C
   clear C
   have g1 : (n == 43) = false := by simp; omega
   have g2 : (n == 45) = false := by simp; omega
   have g3 : (n == 42) = false := by simp; omega
   have g4 : (n == 47) = false := by simp; omega
   have g5 : (n == 61) = false := by simp; omega
   have g6 : (n == 40) = false := by simp; omega
   have g7 : (n == 41) = false := by simp; omega
   have g8 : (n == 46) = false := by simp; omega
   have g9 : (n == 44) = false := by simp; omega
   clear hs
   cases d
   · by_cases h : 48 ≤ n
     · have g : decide (48 ≤ n) = true := by simpa using h
       go_enter Try.func71, Try.ntmps71
       go_wp2_with (go_at_call 85; refine (HC.out _).mono ?_; rintro e w1 ⟨rfl, rfl⟩)
       all_goals go_ret
       all_goals exact ⟨ret_boolL (by simp [*]), rfl⟩
     · have g : decide (48 ≤ n) = false := by simpa using h
       go_enter Try.func71, Try.ntmps71
       go_wp2_with (go_at_call 85; refine (HC.out _).mono ?_; rintro e w1 ⟨rfl, rfl⟩)
       all_goals go_ret
       all_goals exact ⟨ret_boolL (by simp [*]), rfl⟩
   · go_enter Try.func71, Try.ntmps71
     go_wp2_with (go_at_call 85; refine (HC.out _).mono ?_; rintro e w1 ⟨rfl, rfl⟩)
     all_goals go_ret
     all_goals exact ⟨rfl, rfl⟩
/-- Is a text a label? -/
def labelB (s : ByteArray) : Bool := decide (s.size = 1) && labelC ((s.data[0]?.getD 0).toNat : Int)
theorem one_byte {s : ByteArray} (h : s.size = 1) : ∃ c, s = ⟨#[c]⟩ := by
 obtain ⟨⟨l⟩⟩ := s
 simp only [ByteArray.size] at h
 match l, h with
 | [c], _ => exact ⟨c, rfl⟩
theorem has_label : ∀ c : UInt8, ((decide (97 ≤ (c.toNat : Int)) && decide ((c.toNat : Int) ≤ 122)) || decide (0 ≤ Lib.indexByte [48, 49, 50, 51, 52, 53, 54, 55, 56, 57, 43, 45, 42, 47, 61, 40, 41, 46, 44] c)) = labelC (c.toNat : Int) := by
 have h : ∀ n : Fin 256, ((decide (97 ≤ ((UInt8.ofNat n.val).toNat : Int)) && decide (((UInt8.ofNat n.val).toNat : Int) ≤ 122)) || decide (0 ≤ Lib.indexByte [48, 49, 50, 51, 52, 53, 54, 55, 56, 57, 43, 45, 42, 47, 61, 40, 41, 46, 44] (UInt8.ofNat n.val))) = labelC ((UInt8.ofNat n.val).toNat : Int) := by decide +kernel
 intro c
 have := h ⟨c.toNat, UInt8.toNat_lt c⟩
 simpa using this
set_option maxHeartbeats 400000 in
theorem spec_IsLabel_c (s : ByteArray) (w : World) (hs : s.size ≤ 1048576) :
 Calls Try.prog 52 #[.string s] w fun e w' => e = .returned (.bool (labelB s)) ∧ w' = w := by
 by_cases h : s.size = 1
 · obtain ⟨c, rfl⟩ := one_byte h
   have hl : labelB ⟨#[c]⟩ = labelC (c.toNat : Int) := by simp [labelB, ByteArray.size]
   rw [hl]
   have HC := Lib.hid (spec_l11Label_c (c.toNat : Int))
   clear hl
   go_enter Try.func52, Try.ntmps52
   go_wp2_with fail
   refine (HC.out _).mono ?_
   rintro e w1 ⟨rfl, rfl⟩
   go_wp2_with fail
   go_ret
   exact ⟨rfl, rfl⟩
 · have hl : labelB s = false := by simp [labelB, h]
   rw [hl]
   have g : ((s.size : Int) == 1) = false := by rw [beq_eq_false_iff_ne]; omega
   clear hl h
   go_enter Try.func52, Try.ntmps52
   go_wp2_with fail
   go_ret
   exact ⟨rfl, rfl⟩
set_option maxHeartbeats 400000 in
theorem impl_IsLabel_c (s : ByteArray) (w : World) (hs : s.size ≤ 1048576) :
 Calls Try.prog 49 #[.string s] w fun e w' => e = .returned (.bool (labelB s)) ∧ w' = w := by
 by_cases h : s.size = 1
 · obtain ⟨c, rfl⟩ := one_byte h
   have hl : labelB ⟨#[c]⟩ = labelC (c.toNat : Int) := by simp [labelB, ByteArray.size]
   have hh := has_label c
   rw [hl, ← hh]
   have C1 := impl_isLetter_i (c.toNat : Int)
   have C2 := strings_Contains_one ⟨#[48, 49, 50, 51, 52, 53, 54, 55, 56, 57, 43, 45, 42, 47, 61, 40, 41, 46, 44]⟩ c
   generalize (decide (97 ≤ (c.toNat : Int)) && decide ((c.toNat : Int) ≤ 122)) = d at C1 ⊢
   generalize decide (0 ≤ Lib.indexByte [48, 49, 50, 51, 52, 53, 54, 55, 56, 57, 43, 45, 42, 47, 61, 40, 41, 46, 44] c) = b at C2 ⊢
   have H1 := Lib.hid C1
   have H2 := Lib.hid C2
   clear hl hh C1 C2
   cases d
   all_goals
    go_enter Try.func49, Try.ntmps49
    go_wp2_with (first | (go_at_call 65; refine (H1.out _).mono ?_; rintro e w1 ⟨rfl, rfl⟩) | (go_at_call 66; refine (H2.out _).mono ?_; rintro e w1 ⟨rfl, rfl⟩))
    go_ret
    exact ⟨rfl, rfl⟩
 · have hl : labelB s = false := by simp [labelB, h]
   rw [hl]
   have g : ((s.size : Int) == 1) = false := by rw [beq_eq_false_iff_ne]; omega
   clear hl h
   go_enter Try.func49, Try.ntmps49
   go_wp2_with fail
   go_ret
   exact ⟨rfl, rfl⟩
end Go.Proofs.Ytmopioaojdlnkaa
namespace Go.Proofs.Ytmopioaojdlnkaa
open Go Go.RowKit

def symOkB (s : PSymbol) : Bool := labelB s.label && boxOkB (boxOf s)
def symsOkB (xs : List PSymbol) : Bool := xs.all symOkB && decide (xs.length ≤ 8)
/-- An index that tells whether there is such an element. -/
def FoundSym (b : Bool) (w : World) (e : Ending) (w' : World) : Prop := ∃ r : Int, e = .returned (.int .i64 r) ∧ (decide (0 ≤ r)) = b ∧ Below w.heap.size w w'
set_option maxHeartbeats 400000 in
theorem impl_ValidSymbols1_c (s : PSymbol) (w : World) (hs : s.label.size ≤ 1048576) :
 Calls Try.prog 48 #[.agg #[.string s.label, .int .i64 s.x1, .int .i64 s.y1, .int .i64 s.x2, .int .i64 s.y2]] w fun e w' => e = .returned (.bool (!symOkB s)) ∧ Below w.heap.size w w' := by
 have C1 := fun w' => impl_IsLabel_c s.label w' hs
 have C2 := fun w' => impl_ValidBox_c (boxOf s) w'
 unfold symOkB
 generalize labelB s.label = a at C1 ⊢
 generalize boxOkB (boxOf s) = b at C2 ⊢
 have H1 := Lib.hid C1
 have H2 := Lib.hid C2
 clear C1 C2
 have al : ∀ x : Obj, Below w.heap.size w (w.alloc x) := fun x => (Below.refl _ _).alloc (Nat.le_refl _) x
 cases a
 · go_enter Try.func48, Try.ntmps48
   go_wp2_with fail
   refine (H1.out _).mono ?_
   rintro e w1 ⟨rfl, rfl⟩
   go_wp2_with fail
   go_ret
   exact ⟨rfl, al _⟩
 · go_enter Try.func48, Try.ntmps48
   go_wp2_with fail
   refine (H1.out _).mono ?_
   rintro e w1 ⟨rfl, rfl⟩
   go_wp2_with fail
   refine (H2.out _).mono ?_
   rintro e w1 ⟨rfl, rfl⟩
   go_wp2_with fail
   go_ret
   exact ⟨ret_boolI (by simp), (al _).alloc (by simp) _⟩
set_option maxRecDepth 100000 in
set_option maxHeartbeats 400000 in
theorem IndexFunc_sym {o : Bool} {e : TypeId} {xs : List PSymbol} {v : Value} {F : List Nat} (K : FuncId) (p : PSymbol → Bool) (w : World) (h : (pSymbols e).rep o w xs [v] F) (hx : xs.length ≤ 1048576)
 (hK : ∀ args w, (callFunc K args).run Try.prog w = .ok (.enter K args) w) (hf : ∀ s ∈ xs, ∀ w : World, Calls Try.prog K #[.agg #[.string s.label, .int .i64 s.x1, .int .i64 s.y1, .int .i64 s.x2, .int .i64 s.y2]] w fun e w' => e = .returned (.bool (p s)) ∧ Below w.heap.size w w') :
 Calls Try.prog 64 #[v, .func (.func K) #[] #[]] w (FoundSym (xs.any p) w) := by
 obtain ⟨A, c, rfl, hc1, hc2, hr⟩ := pSymbols_open h
 clear h
 have HF := Lib.hid hf
 clear hf
 go_enter Try.func64, Try.ntmps64
 go_wp2_with fail
 go_loopw [8] (fun i wr => ∃ k : Nat, k ≤ xs.length ∧ i = .int .i64 k ∧ Hid ((xs.take k).any p = false) ∧ Below w.heap.size w wr) (fun i _ => xs.length - (intOf i).toNat)
 case atStart => exact ⟨0, Nat.zero_le _, rfl, rfl, Below.refl _ _⟩
 case round =>
  obtain ⟨k, hk, rfl, hno, hb⟩ := hrel
  have hbs := hb.size
  by_cases hlt : k < xs.length
  · obtain ⟨b, off, rfl, hbb, _, h0, h1, h2, h3, h4, _⟩ := hr k hlt
    rw [← hb.cell (p := ⟨b, _, none⟩) hbb] at h0 h1 h2 h3 h4
    clear hr
    go_wp2_with fail
    refine (HF.out xs[k] (List.getElem_mem hlt) _).mono ?_
    rintro e w1 ⟨rfl, hb1⟩
    cases hp : p xs[k]
    · have HP := Lib.hid hp
      clear hp
      go_wp2_with fail
      go_roundw
      case rel => exact ⟨k + 1, by omega, by go_num, (by show _ = _; rw [List.take_succ_eq_append_getElem hlt, List.any_append, hno.out]; simp [HP.out]), hb.trans (hb1.mono hbs)⟩
      case measure => simp [intOf]; omega
    · have HP := Lib.hid hp
      clear hp
      go_wp2_with fail
      go_ret
      refine ⟨_, rfl, ?_, hb.trans (hb1.mono hbs)⟩
      have : xs.any p = true := List.any_eq_true.2 ⟨xs[k], List.getElem_mem hlt, HP.out⟩
      rw [this]; simp
  · obtain rfl : k = xs.length := by omega
    go_wp2_with fail
    go_ret
    refine ⟨_, rfl, ?_, hb⟩
    have := hno.out
    rw [List.take_length] at this
    rw [this]; rfl
set_option maxRecDepth 100000 in
set_option maxHeartbeats 400000 in
theorem ContainsFunc_sym {o : Bool} {e : TypeId} {xs : List PSymbol} {v : Value} {F : List Nat} (K : FuncId) (p : PSymbol → Bool) (w : World) (h : (pSymbols e).rep o w xs [v] F) (hx : xs.length ≤ 1048576)
 (hK : ∀ args w, (callFunc K args).run Try.prog w = .ok (.enter K args) w) (hf : ∀ s ∈ xs, ∀ w : World, Calls Try.prog K #[.agg #[.string s.label, .int .i64 s.x1, .int .i64 s.y1, .int .i64 s.x2, .int .i64 s.y2]] w fun e w' => e = .returned (.bool (p s)) ∧ Below w.heap.size w w') :
 Calls Try.prog 47 #[v, .func (.func K) #[] #[]] w fun e w' => e = .returned (.bool (xs.any p)) ∧ Below w.heap.size w w' := by
 have C := IndexFunc_sym K p w h hx hK hf
 have HC := Lib.hid C
 clear C hf hK
 go_enter Try.func47, Try.ntmps47
 go_wp2_with fail
 refine HC.out.mono ?_
 rintro e w1 ⟨r, rfl, hr, hb⟩
 go_wp2_with fail
 all_goals go_ret
 all_goals first | exact ⟨ret_boolI hr, hb⟩ | exact ⟨rfl, hb⟩

set_option maxRecDepth 100000 in
set_option maxHeartbeats 400000 in
theorem impl_ValidSymbols_c {o : Bool} {e : TypeId} {xs : List PSymbol} {v : Value} {F : List Nat} (w : World) (h : (pSymbols e).rep o w xs [v] F) (hx : xs.length ≤ 1048576) (hsz : ∀ c ∈ xs, c.label.size ≤ 1048576) :
 Calls Try.prog 29 #[v] w fun e w' => e = .returned (.bool (symsOkB xs)) ∧ Below w.heap.size w w' := by
 have C := ContainsFunc_sym 48 (fun s => !symOkB s) w h hx Try.call48 (fun s hs w => impl_ValidSymbols1_c s w (hsz s hs))
 have HC := Lib.hid C
 have HE : Hid ((!xs.any fun s => !symOkB s) = xs.all symOkB) := by show _ = _; simp [List.any_eq_not_all_not]
 obtain ⟨A, c, hv⟩ := slice_len h
 subst hv
 clear C hsz h
 by_cases hl : xs.length ≤ 8
 · have g : decide ((xs.length : Int) ≤ 8) = true := by simp; omega
   have HO := Lib.hid (show symsOkB xs = xs.all symOkB by simp [symsOkB, hl])
   go_enter Try.func29, Try.ntmps29
   go_wp2_with fail
   refine HC.out.mono ?_
   rintro e w1 ⟨rfl, hb⟩
   go_wp2_with fail
   go_ret
   exact ⟨ret_boolI (by rw [HO.out, HE.out]), hb⟩
 · have g : decide ((xs.length : Int) ≤ 8) = false := by simp; omega
   have HO := Lib.hid (show symsOkB xs = false by simp [symsOkB, hl])
   go_enter Try.func29, Try.ntmps29
   go_wp2_with fail
   go_ret
   exact ⟨ret_boolI HO.out.symm, Below.refl _ _⟩
set_option maxRecDepth 100000 in
set_option maxHeartbeats 400000 in
theorem spec_l20Ok_c {o : Bool} {e : TypeId} {xs : List PSymbol} {v : Value} {F : List Nat} (w : World) (h : (pSymbols e).rep o w xs [v] F) (hx : xs.length ≤ 1048576) (hsz : ∀ c ∈ xs, c.label.size ≤ 1048576) :
 Calls Try.prog 32 #[v] w fun e w' => e = .returned (.bool (symsOkB xs)) ∧ Below w.heap.size w w' := by
 obtain ⟨A, c, rfl, hc1, hc2, hr⟩ := pSymbols_open h
 clear h
 go_enter Try.func32, Try.ntmps32
 go_wp2_with fail
 go_loopw [3] (fun i wr => ∃ k : Nat, k ≤ xs.length ∧ i = .int .i64 k ∧ Hid ((xs.take k).all symOkB = true) ∧ Below w.heap.size w wr) (fun i _ => xs.length - (intOf i).toNat)
 case atStart => exact ⟨0, Nat.zero_le _, rfl, rfl, Below.refl _ _⟩
 case round =>
  obtain ⟨k, hk, rfl, hall, hb⟩ := hrel
  have hbs := hb.size
  by_cases hlt : k < xs.length
  · obtain ⟨b, off, rfl, hbb, _, h0, h1, h2, h3, h4, _⟩ := hr k hlt
    rw [← hb.cell (p := ⟨b, _, none⟩) hbb] at h0 h1 h2 h3 h4
    have C1 := fun w' => spec_IsLabel_c xs[k].label w' (hsz _ (List.getElem_mem hlt))
    have C2 := fun w' => spec_l02Box_c (boxOf xs[k]) w'
    have HF : symOkB xs[k] = false → Hid (symsOkB xs = false) := fun hf => by
     show _ = _
     have : xs.all symOkB = false := List.all_eq_false.2 ⟨xs[k], List.getElem_mem hlt, by simp [hf]⟩
     simp [symsOkB, this]
    have HT : symOkB xs[k] = true → Hid ((xs.take (k + 1)).all symOkB = true) := fun ht => by
     show _ = _
     rw [List.take_succ_eq_append_getElem hlt, List.all_append, hall.out]; simp [ht]
    unfold symOkB at HF HT
    generalize labelB xs[k].label = a at C1 HF HT
    generalize boxOkB (boxOf xs[k]) = d at C2 HF HT
    have H1 := Lib.hid C1
    have H2 := Lib.hid C2
    have HF' := Lib.hid HF
    have HT' := Lib.hid HT
    clear C1 C2 HF HT hr hsz
    cases a
    · have HFF := HF'.out rfl
      clear HF' HT'
      go_wp2_with fail
      refine (H1.out _).mono ?_
      rintro e w1 ⟨rfl, rfl⟩
      go_wp2_with fail
      go_ret
      exact ⟨ret_boolI HFF.out.symm, hb⟩
    · cases d
      · have HFF := HF'.out rfl
        clear HF' HT'
        go_wp2_with fail
        refine (H1.out _).mono ?_
        rintro e w1 ⟨rfl, rfl⟩
        go_wp2_with fail
        refine (H2.out _).mono ?_
        rintro e w1 ⟨rfl, rfl⟩
        go_wp2_with fail
        go_ret
        exact ⟨ret_boolI HFF.out.symm, hb.alloc hbs _⟩
      · have HTT := HT'.out rfl
        clear HF' HT'
        go_wp2_with fail
        refine (H1.out _).mono ?_
        rintro e w1 ⟨rfl, rfl⟩
        go_wp2_with fail
        refine (H2.out _).mono ?_
        rintro e w1 ⟨rfl, rfl⟩
        go_wp2_with fail
        go_roundw
        case rel => exact ⟨k + 1, by omega, by go_num, HTT, hb.alloc hbs _⟩
        case measure => simp [intOf]; omega
  · obtain rfl : k = xs.length := by omega
    clear hr hsz
    have HV : Hid (symsOkB xs = decide (xs.length ≤ 8)) := by
     show _ = _
     have := hall.out
     rw [List.take_length] at this
     simp [symsOkB, this]
    go_wp2_with fail
    go_ret
    exact ⟨ret_boolI (by rw [HV.out, decide_eq_decide]; omega), hb⟩
end Go.Proofs.Ytmopioaojdlnkaa
