/- Lists of features, entries, bigrams and points are equal. Conditions: none. -/
import Derived.Test.YtkfadfddhbpngaaGreatSeTyx
import Derived.Laws.StructEq
import Derived.Test.YtkfadfddhbpngaaGreatConfx
import Derived.Test.YtkfadfddhbpngaaGreatEqStrx
import Derived.Test.YtkfadfddhbpngaaGreatTkx
import Derived.Test.YtkfadfddhbpngaaGreatPgMathx
import Derived.Test.YtkfadfddhbpngaaGreatTyPointx
import Derived.Test.YtkfadfddhbpngaaGreatAppendx
import Derived.Test.YtkfadfddhbpngaaGreatLibx
import Derived.Deep.RegionHeld3
import Derived.Test.YtkfadfddhbpngaaGreatRows
import Derived.Shelf.Strings.Search1
import Derived.Shelf.Strings.Search2
import Derived.Shelf.Strings.Search3
import Derived.Test.YtkfadfddhbpngaaGreatProg
namespace Go.Proofs.YtkfadfddhbpngaaGreat
open Go Go.RowKit

theorem Feat_neq (s t : PFeat) (w : World) : (binOp .neq 224 (.agg #[.int .i64 s.x, .int .i64 s.y, .int .i64 s.d]) (.agg #[.int .i64 t.x, .int .i64 t.y, .int .i64 t.d])).run Tryz.prog w = .ok (.bool (!decide (s = t))) w := by
 have hS : Tryz.prog.underlying 224 = some (.struct (Tryz.prog.fieldsOf 224)) := by kernel_rfl
 have hp : Tryz.prog.stoodInHeld 224 = false := by kernel_rfl
 rw [run_neq_struct, show (10000 : Nat) = 9999 + 1 from rfl, run_equalIn_agg w 9999 224 _ _ hS hp]
 simp only [Program.fieldsOf, Tryz.underlying224]
 go_simp
 obtain ⟨x0, x1, x2⟩ := s
 obtain ⟨y0, y1, y2⟩ := t
 simp only [PFeat.mk.injEq]
 by_cases h0 : x0 = y0 <;> by_cases h1 : x1 = y1 <;> by_cases h2 : x2 = y2 <;> simp [h0, h1, h2]

set_option maxRecDepth 100000 in
set_option maxHeartbeats 1000000 in
theorem Equal_Feat_c {oa ob : Bool} {ea eb : TypeId} {xs ys : List PFeat} {v u : Value} {F G : List Nat} (w : World) (h : (pFeats ea).rep oa w xs [v] F) (h' : (pFeats eb).rep ob w ys [u] G) (hx : xs.length ≤ 1048576) (hy : ys.length ≤ 1048576) :
 Calls Tryz.prog 162 #[v, u] w (GivesB (decide (xs = ys)) w) := by
 obtain ⟨A, c, rfl, hc1, hc2, hr⟩ := pFeats_open h
 obtain ⟨B, d, rfl, hd1, hd2, hs⟩ := pFeats_open h'
 clear h h'
 by_cases hl : xs.length = ys.length
 · have hne : ((xs.length : Int) != (ys.length : Int)) = false := by simp [hl]
   have HL := Lib.hid hl
   clear hl
   go_enter Tryz.func162, Tryz.ntmps162
   go_wp2_with fail
   go_loopw [13] (fun i wr => ∃ k : Nat, k ≤ xs.length ∧ i = .int .i64 k ∧ (∀ j (hj : j < xs.length) (hj' : j < ys.length), j < k → xs[j] = ys[j]) ∧ ∃ m, wr = w.drewN m) (fun i _ => xs.length - (intOf i).toNat)
   case atStart => exact ⟨0, Nat.zero_le _, rfl, fun _ _ _ h => by omega, 0, rfl⟩
   case round =>
    obtain ⟨k, hk, rfl, hall, m, rfl⟩ := hrel
    by_cases hlt : k < xs.length
    · have hlt' : k < ys.length := by have := HL.out; omega
      obtain ⟨b, off, rfl, hbb, _, h0, h1, h2, _⟩ := hr k hlt
      obtain ⟨b', off', rfl, hbb', _, g0, g1, g2, _⟩ := hs k hlt'
      have HA := Lib.hid hall
      clear hr hs hall
      have hm : Tryz.prog.eqGuardType Tryz.prog.depth 224 = false := by kernel_rfl
      by_cases hkk : xs[k] = ys[k]
      · have hq := fun w => Feat_neq xs[k] ys[k] w
        simp only [decide_eq_true hkk, Bool.not_true] at hq
        have HK := Lib.hid hkk
        clear hkk
        go_wp2_with fail
        go_quiet (fail)
        go_wp2_with fail
        go_roundw
        case rel =>
         refine ⟨k + 1, by omega, by go_num, fun j hj hj' hjk => ?_, _, by first | rfl | exact World.drewN_drewN _ _ _⟩
         by_cases e : j = k
         · subst e; exact HK.out
         · exact HA.out j hj hj' (by omega)
        case measure => simp [intOf]; omega
      · have hq := fun w => Feat_neq xs[k] ys[k] w
        simp only [decide_eq_false hkk, Bool.not_false] at hq
        have HK := Lib.hid hkk
        clear hkk
        go_wp2_with fail
        go_quiet (fail)
        go_wp2_with fail
        go_ret
        have hne : ¬ xs = ys := fun e => by subst e; exact HK.out rfl
        exact ⟨by simp [hne], _, by first | rfl | exact World.drewN_drewN _ _ _⟩
    · obtain rfl : k = xs.length := by omega
      have heq : xs = ys := List.ext_getElem HL.out (fun j h1 h2 => hall j h1 h2 h1)
      clear hall
      go_wp2_with fail
      go_ret
      exact ⟨by simp [heq], _, rfl⟩
 · have hne : ((xs.length : Int) != (ys.length : Int)) = true := by rw [bne_iff_ne]; omega
   have hxy : ¬ xs = ys := fun e => hl (by rw [e])
   have HL := Lib.hid hxy
   clear hl hxy
   go_enter Tryz.func162, Tryz.ntmps162
   go_wp2_with fail
   go_ret
   exact ⟨by simp [HL.out], 0, rfl⟩

set_option maxRecDepth 100000 in
set_option maxHeartbeats 1000000 in
theorem spec_l11SameFeats_c {oa ob : Bool} {ea eb : TypeId} {xs ys : List PFeat} {v u : Value} {F G : List Nat} (w : World) (h : (pFeats ea).rep oa w xs [v] F) (h' : (pFeats eb).rep ob w ys [u] G) (hx : xs.length ≤ 1048576) (hy : ys.length ≤ 1048576) :
 Calls Tryz.prog 155 #[v, u] w (GivesB (decide (xs = ys)) w) := by
 obtain ⟨A, c, rfl, hc1, hc2, hr⟩ := pFeats_open h
 obtain ⟨B, d, rfl, hd1, hd2, hs⟩ := pFeats_open h'
 clear h h'
 by_cases hl : xs.length = ys.length
 · have hne : ((xs.length : Int) != (ys.length : Int)) = false := by simp [hl]
   have HL := Lib.hid hl
   clear hl
   go_enter Tryz.func155, Tryz.ntmps155
   go_wp2_with fail
   go_loopw [5] (fun i wr => ∃ k : Nat, k ≤ xs.length ∧ i = .int .i64 k ∧ (∀ j (hj : j < xs.length) (hj' : j < ys.length), j < k → xs[j] = ys[j]) ∧ ∃ m, wr = w.drewN m) (fun i _ => xs.length - (intOf i).toNat)
   case atStart => exact ⟨0, Nat.zero_le _, rfl, fun _ _ _ h => by omega, 0, rfl⟩
   case round =>
    obtain ⟨k, hk, rfl, hall, m, rfl⟩ := hrel
    by_cases hlt : k < xs.length
    · have hlt' : k < ys.length := by have := HL.out; omega
      obtain ⟨b, off, rfl, hbb, _, h0, h1, h2, _⟩ := hr k hlt
      obtain ⟨b', off', rfl, hbb', _, g0, g1, g2, _⟩ := hs k hlt'
      have HA := Lib.hid hall
      clear hr hs hall
      have hm : Tryz.prog.eqGuardType Tryz.prog.depth 224 = false := by kernel_rfl
      by_cases hkk : xs[k] = ys[k]
      · have hq := fun w => Feat_neq xs[k] ys[k] w
        simp only [decide_eq_true hkk, Bool.not_true] at hq
        have HK := Lib.hid hkk
        clear hkk
        go_wp2_with fail
        go_quiet (fail)
        go_wp2_with fail
        go_roundw
        case rel =>
         refine ⟨k + 1, by omega, by go_num, fun j hj hj' hjk => ?_, _, by first | rfl | exact World.drewN_drewN _ _ _⟩
         by_cases e : j = k
         · subst e; exact HK.out
         · exact HA.out j hj hj' (by omega)
        case measure => simp [intOf]; omega
      · have hq := fun w => Feat_neq xs[k] ys[k] w
        simp only [decide_eq_false hkk, Bool.not_false] at hq
        have HK := Lib.hid hkk
        clear hkk
        go_wp2_with fail
        go_quiet (fail)
        go_wp2_with fail
        go_ret
        have hne : ¬ xs = ys := fun e => by subst e; exact HK.out rfl
        exact ⟨by simp [hne], _, by first | rfl | exact World.drewN_drewN _ _ _⟩
    · obtain rfl : k = xs.length := by omega
      have heq : xs = ys := List.ext_getElem HL.out (fun j h1 h2 => hall j h1 h2 h1)
      clear hall
      go_wp2_with fail
      go_ret
      exact ⟨by simp [heq], _, rfl⟩
 · have hne : ((xs.length : Int) != (ys.length : Int)) = true := by rw [bne_iff_ne]; omega
   have hxy : ¬ xs = ys := fun e => hl (by rw [e])
   have HL := Lib.hid hxy
   clear hl hxy
   go_enter Tryz.func155, Tryz.ntmps155
   go_wp2_with fail
   go_ret
   exact ⟨by simp [HL.out], 0, rfl⟩

theorem Entry_neq (s t : PEntry) (w : World) : (binOp .neq 183 (.agg #[.string s.word, .int .i64 s.cost]) (.agg #[.string t.word, .int .i64 t.cost])).run Tryz.prog w = .ok (.bool (!decide (s = t))) w := by
 have hS : Tryz.prog.underlying 183 = some (.struct (Tryz.prog.fieldsOf 183)) := by kernel_rfl
 have hp : Tryz.prog.stoodInHeld 183 = false := by kernel_rfl
 rw [run_neq_struct, show (10000 : Nat) = 9999 + 1 from rfl, run_equalIn_agg w 9999 183 _ _ hS hp]
 simp only [Program.fieldsOf, Tryz.underlying183]
 go_simp
 obtain ⟨x0, x1⟩ := s
 obtain ⟨y0, y1⟩ := t
 simp only [PEntry.mk.injEq]
 have key : ∀ x y : ByteArray, (x.toList = y.toList) = (x = y) := fun x y => propext ⟨fun h => str_eq_true (by simp [h]), fun h => by rw [h]⟩
 by_cases h0 : x0 = y0 <;> by_cases h1 : x1 = y1 <;> simp [h0, h1, key]

set_option maxRecDepth 100000 in
set_option maxHeartbeats 1000000 in
theorem Equal_Entry_c {oa ob : Bool} {ea eb : TypeId} {xs ys : List PEntry} {v u : Value} {F G : List Nat} (w : World) (h : (pEntrys ea).rep oa w xs [v] F) (h' : (pEntrys eb).rep ob w ys [u] G) (hx : xs.length ≤ 1048576) (hy : ys.length ≤ 1048576) :
 Calls Tryz.prog 163 #[v, u] w (GivesB (decide (xs = ys)) w) := by
 obtain ⟨A, c, rfl, hc1, hc2, hr⟩ := pEntrys_open h
 obtain ⟨B, d, rfl, hd1, hd2, hs⟩ := pEntrys_open h'
 clear h h'
 by_cases hl : xs.length = ys.length
 · have hne : ((xs.length : Int) != (ys.length : Int)) = false := by simp [hl]
   have HL := Lib.hid hl
   clear hl
   go_enter Tryz.func163, Tryz.ntmps163
   go_wp2_with fail
   go_loopw [13] (fun i wr => ∃ k : Nat, k ≤ xs.length ∧ i = .int .i64 k ∧ (∀ j (hj : j < xs.length) (hj' : j < ys.length), j < k → xs[j] = ys[j]) ∧ ∃ m, wr = w.drewN m) (fun i _ => xs.length - (intOf i).toNat)
   case atStart => exact ⟨0, Nat.zero_le _, rfl, fun _ _ _ h => by omega, 0, rfl⟩
   case round =>
    obtain ⟨k, hk, rfl, hall, m, rfl⟩ := hrel
    by_cases hlt : k < xs.length
    · have hlt' : k < ys.length := by have := HL.out; omega
      obtain ⟨b, off, rfl, hbb, _, h0, h1, _⟩ := hr k hlt
      obtain ⟨b', off', rfl, hbb', _, g0, g1, _⟩ := hs k hlt'
      have HA := Lib.hid hall
      clear hr hs hall
      have hm : Tryz.prog.eqGuardType Tryz.prog.depth 183 = false := by kernel_rfl
      by_cases hkk : xs[k] = ys[k]
      · have hq := fun w => Entry_neq xs[k] ys[k] w
        simp only [decide_eq_true hkk, Bool.not_true] at hq
        have HK := Lib.hid hkk
        clear hkk
        go_wp2_with fail
        go_quiet (fail)
        go_wp2_with fail
        go_roundw
        case rel =>
         refine ⟨k + 1, by omega, by go_num, fun j hj hj' hjk => ?_, _, by first | rfl | exact World.drewN_drewN _ _ _⟩
         by_cases e : j = k
         · subst e; exact HK.out
         · exact HA.out j hj hj' (by omega)
        case measure => simp [intOf]; omega
      · have hq := fun w => Entry_neq xs[k] ys[k] w
        simp only [decide_eq_false hkk, Bool.not_false] at hq
        have HK := Lib.hid hkk
        clear hkk
        go_wp2_with fail
        go_quiet (fail)
        go_wp2_with fail
        go_ret
        have hne : ¬ xs = ys := fun e => by subst e; exact HK.out rfl
        exact ⟨by simp [hne], _, by first | rfl | exact World.drewN_drewN _ _ _⟩
    · obtain rfl : k = xs.length := by omega
      have heq : xs = ys := List.ext_getElem HL.out (fun j h1 h2 => hall j h1 h2 h1)
      clear hall
      go_wp2_with fail
      go_ret
      exact ⟨by simp [heq], _, rfl⟩
 · have hne : ((xs.length : Int) != (ys.length : Int)) = true := by rw [bne_iff_ne]; omega
   have hxy : ¬ xs = ys := fun e => hl (by rw [e])
   have HL := Lib.hid hxy
   clear hl hxy
   go_enter Tryz.func163, Tryz.ntmps163
   go_wp2_with fail
   go_ret
   exact ⟨by simp [HL.out], 0, rfl⟩

theorem Bigram_neq (s t : PBigram) (w : World) : (binOp .neq 186 (.agg #[.string s.first, .string s.second, .int .i64 s.cost]) (.agg #[.string t.first, .string t.second, .int .i64 t.cost])).run Tryz.prog w = .ok (.bool (!decide (s = t))) w := by
 have hS : Tryz.prog.underlying 186 = some (.struct (Tryz.prog.fieldsOf 186)) := by kernel_rfl
 have hp : Tryz.prog.stoodInHeld 186 = false := by kernel_rfl
 rw [run_neq_struct, show (10000 : Nat) = 9999 + 1 from rfl, run_equalIn_agg w 9999 186 _ _ hS hp]
 simp only [Program.fieldsOf, Tryz.underlying186]
 go_simp
 obtain ⟨x0, x1, x2⟩ := s
 obtain ⟨y0, y1, y2⟩ := t
 simp only [PBigram.mk.injEq]
 have key : ∀ x y : ByteArray, (x.toList = y.toList) = (x = y) := fun x y => propext ⟨fun h => str_eq_true (by simp [h]), fun h => by rw [h]⟩
 by_cases h0 : x0 = y0 <;> by_cases h1 : x1 = y1 <;> by_cases h2 : x2 = y2 <;> simp [h0, h1, h2, key]

set_option maxRecDepth 100000 in
set_option maxHeartbeats 1000000 in
theorem Equal_Bigram_c {oa ob : Bool} {ea eb : TypeId} {xs ys : List PBigram} {v u : Value} {F G : List Nat} (w : World) (h : (pBigrams ea).rep oa w xs [v] F) (h' : (pBigrams eb).rep ob w ys [u] G) (hx : xs.length ≤ 1048576) (hy : ys.length ≤ 1048576) :
 Calls Tryz.prog 164 #[v, u] w (GivesB (decide (xs = ys)) w) := by
 obtain ⟨A, c, rfl, hc1, hc2, hr⟩ := pBigrams_open h
 obtain ⟨B, d, rfl, hd1, hd2, hs⟩ := pBigrams_open h'
 clear h h'
 by_cases hl : xs.length = ys.length
 · have hne : ((xs.length : Int) != (ys.length : Int)) = false := by simp [hl]
   have HL := Lib.hid hl
   clear hl
   go_enter Tryz.func164, Tryz.ntmps164
   go_wp2_with fail
   go_loopw [13] (fun i wr => ∃ k : Nat, k ≤ xs.length ∧ i = .int .i64 k ∧ (∀ j (hj : j < xs.length) (hj' : j < ys.length), j < k → xs[j] = ys[j]) ∧ ∃ m, wr = w.drewN m) (fun i _ => xs.length - (intOf i).toNat)
   case atStart => exact ⟨0, Nat.zero_le _, rfl, fun _ _ _ h => by omega, 0, rfl⟩
   case round =>
    obtain ⟨k, hk, rfl, hall, m, rfl⟩ := hrel
    by_cases hlt : k < xs.length
    · have hlt' : k < ys.length := by have := HL.out; omega
      obtain ⟨b, off, rfl, hbb, _, h0, h1, h2, _⟩ := hr k hlt
      obtain ⟨b', off', rfl, hbb', _, g0, g1, g2, _⟩ := hs k hlt'
      have HA := Lib.hid hall
      clear hr hs hall
      have hm : Tryz.prog.eqGuardType Tryz.prog.depth 186 = false := by kernel_rfl
      by_cases hkk : xs[k] = ys[k]
      · have hq := fun w => Bigram_neq xs[k] ys[k] w
        simp only [decide_eq_true hkk, Bool.not_true] at hq
        have HK := Lib.hid hkk
        clear hkk
        go_wp2_with fail
        go_quiet (fail)
        go_wp2_with fail
        go_roundw
        case rel =>
         refine ⟨k + 1, by omega, by go_num, fun j hj hj' hjk => ?_, _, by first | rfl | exact World.drewN_drewN _ _ _⟩
         by_cases e : j = k
         · subst e; exact HK.out
         · exact HA.out j hj hj' (by omega)
        case measure => simp [intOf]; omega
      · have hq := fun w => Bigram_neq xs[k] ys[k] w
        simp only [decide_eq_false hkk, Bool.not_false] at hq
        have HK := Lib.hid hkk
        clear hkk
        go_wp2_with fail
        go_quiet (fail)
        go_wp2_with fail
        go_ret
        have hne : ¬ xs = ys := fun e => by subst e; exact HK.out rfl
        exact ⟨by simp [hne], _, by first | rfl | exact World.drewN_drewN _ _ _⟩
    · obtain rfl : k = xs.length := by omega
      have heq : xs = ys := List.ext_getElem HL.out (fun j h1 h2 => hall j h1 h2 h1)
      clear hall
      go_wp2_with fail
      go_ret
      exact ⟨by simp [heq], _, rfl⟩
 · have hne : ((xs.length : Int) != (ys.length : Int)) = true := by rw [bne_iff_ne]; omega
   have hxy : ¬ xs = ys := fun e => hl (by rw [e])
   have HL := Lib.hid hxy
   clear hl hxy
   go_enter Tryz.func164, Tryz.ntmps164
   go_wp2_with fail
   go_ret
   exact ⟨by simp [HL.out], 0, rfl⟩

theorem Point_neq (s t : PPoint) (w : World) : (binOp .neq 155 (.agg #[.int .i64 s.x, .int .i64 s.y, .int .i64 s.t]) (.agg #[.int .i64 t.x, .int .i64 t.y, .int .i64 t.t])).run Tryz.prog w = .ok (.bool (!decide (s = t))) w := by
 have hS : Tryz.prog.underlying 155 = some (.struct (Tryz.prog.fieldsOf 155)) := by kernel_rfl
 have hp : Tryz.prog.stoodInHeld 155 = false := by kernel_rfl
 rw [run_neq_struct, show (10000 : Nat) = 9999 + 1 from rfl, run_equalIn_agg w 9999 155 _ _ hS hp]
 simp only [Program.fieldsOf, Tryz.underlying155]
 go_simp
 obtain ⟨x0, x1, x2⟩ := s
 obtain ⟨y0, y1, y2⟩ := t
 simp only [PPoint.mk.injEq]
 by_cases h0 : x0 = y0 <;> by_cases h1 : x1 = y1 <;> by_cases h2 : x2 = y2 <;> simp [h0, h1, h2]

set_option maxRecDepth 100000 in
set_option maxHeartbeats 1000000 in
theorem Equal_Point_c {oa ob : Bool} {ea eb : TypeId} {xs ys : List PPoint} {v u : Value} {F G : List Nat} (w : World) (h : (pPoints ea).rep oa w xs [v] F) (h' : (pPoints eb).rep ob w ys [u] G) (hx : xs.length ≤ 1048576) (hy : ys.length ≤ 1048576) :
 Calls Tryz.prog 92 #[v, u] w (GivesB (decide (xs = ys)) w) := by
 obtain ⟨A, c, rfl, hc1, hc2, hr⟩ := pPoints_open h
 obtain ⟨B, d, rfl, hd1, hd2, hs⟩ := pPoints_open h'
 clear h h'
 by_cases hl : xs.length = ys.length
 · have hne : ((xs.length : Int) != (ys.length : Int)) = false := by simp [hl]
   have HL := Lib.hid hl
   clear hl
   go_enter Tryz.func92, Tryz.ntmps92
   go_wp2_with fail
   go_loopw [13] (fun i wr => ∃ k : Nat, k ≤ xs.length ∧ i = .int .i64 k ∧ (∀ j (hj : j < xs.length) (hj' : j < ys.length), j < k → xs[j] = ys[j]) ∧ ∃ m, wr = w.drewN m) (fun i _ => xs.length - (intOf i).toNat)
   case atStart => exact ⟨0, Nat.zero_le _, rfl, fun _ _ _ h => by omega, 0, rfl⟩
   case round =>
    obtain ⟨k, hk, rfl, hall, m, rfl⟩ := hrel
    by_cases hlt : k < xs.length
    · have hlt' : k < ys.length := by have := HL.out; omega
      obtain ⟨b, off, rfl, hbb, _, h0, h1, h2, _⟩ := hr k hlt
      obtain ⟨b', off', rfl, hbb', _, g0, g1, g2, _⟩ := hs k hlt'
      have HA := Lib.hid hall
      clear hr hs hall
      have hm : Tryz.prog.eqGuardType Tryz.prog.depth 155 = false := by kernel_rfl
      by_cases hkk : xs[k] = ys[k]
      · have hq := fun w => Point_neq xs[k] ys[k] w
        simp only [decide_eq_true hkk, Bool.not_true] at hq
        have HK := Lib.hid hkk
        clear hkk
        go_wp2_with fail
        go_quiet (fail)
        go_wp2_with fail
        go_roundw
        case rel =>
         refine ⟨k + 1, by omega, by go_num, fun j hj hj' hjk => ?_, _, by first | rfl | exact World.drewN_drewN _ _ _⟩
         by_cases e : j = k
         · subst e; exact HK.out
         · exact HA.out j hj hj' (by omega)
        case measure => simp [intOf]; omega
      · have hq := fun w => Point_neq xs[k] ys[k] w
        simp only [decide_eq_false hkk, Bool.not_false] at hq
        have HK := Lib.hid hkk
        clear hkk
        go_wp2_with fail
        go_quiet (fail)
        go_wp2_with fail
        go_ret
        have hne : ¬ xs = ys := fun e => by subst e; exact HK.out rfl
        exact ⟨by simp [hne], _, by first | rfl | exact World.drewN_drewN _ _ _⟩
    · obtain rfl : k = xs.length := by omega
      have heq : xs = ys := List.ext_getElem HL.out (fun j h1 h2 => hall j h1 h2 h1)
      clear hall
      go_wp2_with fail
      go_ret
      exact ⟨by simp [heq], _, rfl⟩
 · have hne : ((xs.length : Int) != (ys.length : Int)) = true := by rw [bne_iff_ne]; omega
   have hxy : ¬ xs = ys := fun e => hl (by rw [e])
   have HL := Lib.hid hxy
   clear hl hxy
   go_enter Tryz.func92, Tryz.ntmps92
   go_wp2_with fail
   go_ret
   exact ⟨by simp [HL.out], 0, rfl⟩

theorem Setting_neq (s t : PSetting) (w : World) : (binOp .neq 53 (.agg #[.int .i64 s.points, .int .i64 s.most, .int .i64 s.pen]) (.agg #[.int .i64 t.points, .int .i64 t.most, .int .i64 t.pen])).run Tryz.prog w = .ok (.bool (!decide (s = t))) w := by
 have hS : Tryz.prog.underlying 53 = some (.struct (Tryz.prog.fieldsOf 53)) := by kernel_rfl
 have hp : Tryz.prog.stoodInHeld 53 = false := by kernel_rfl
 rw [run_neq_struct, show (10000 : Nat) = 9999 + 1 from rfl, run_equalIn_agg w 9999 53 _ _ hS hp]
 simp only [Program.fieldsOf, Tryz.underlying53]
 go_simp
 obtain ⟨x0, x1, x2⟩ := s
 obtain ⟨y0, y1, y2⟩ := t
 simp only [PSetting.mk.injEq]
 by_cases h0 : x0 = y0 <;> by_cases h1 : x1 = y1 <;> by_cases h2 : x2 = y2 <;> simp [h0, h1, h2]

end Go.Proofs.YtkfadfddhbpngaaGreat
