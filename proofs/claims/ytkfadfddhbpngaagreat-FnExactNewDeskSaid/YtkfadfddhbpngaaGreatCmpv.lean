/- The comparison of confusions: cmp.Compare, cmp.Or and the program's closure. Conditions: none. -/
import Derived.Test.YtkfadfddhbpngaaGreatConfv
import Derived.Test.YtkfadfddhbpngaaGreatStrSv
import Derived.Test.YtkfadfddhbpngaaGreatTakeCallv
import Derived.Test.YtkfadfddhbpngaaGreatRowv
import Derived.Laws.Cover1
import Derived.Sort.Grow
import Derived.Test.YtkfadfddhbpngaaGreatRows
namespace Go.Proofs.YtkfadfddhbpngaaGreat
open Go Go.RowKit

/-- New blocks and draws alone. -/
def Grw (w w' : World) : Prop := ∃ q os, w' = Sort.grow (w.drewN q) os
theorem Grw.refl (w : World) : Grw w w := ⟨0, #[], by rw [Sort.grow_empty]; rfl⟩
theorem Grw.alloc {w w' : World} (h : Grw w w') (o : Obj) : Grw w (w'.alloc o) := by
 obtain ⟨q, os, rfl⟩ := h
 exact ⟨q, os ++ #[o], by rw [Sort.alloc_eq_grow, Sort.grow_grow]⟩
theorem Grw.drewN {w w' : World} (h : Grw w w') (n : Nat) : Grw w (w'.drewN n) := by
 obtain ⟨q, os, rfl⟩ := h
 exact ⟨q + n, os, by rw [← World.drewN_drewN]; rfl⟩
theorem Grw.drew {w w' : World} (h : Grw w w') : Grw w w'.drew := h.drewN 1
theorem Grw.below {w w' : World} (h : Grw w w') : Below w.heap.size w w' := by
 obtain ⟨q, os, rfl⟩ := h
 refine ⟨rfl, rfl, rfl, ?_, fun i hi => ?_⟩
 · show w.heap.size ≤ (w.heap ++ os).size
   simp
 · show (w.heap ++ os)[i]? = w.heap[i]?
   rw [Array.getElem?_append_left hi]
theorem isNaN_c (s : ByteArray) (w : World) : Calls Tryz.prog 239 #[.string s] w fun e w' => e = .returned (.bool false) ∧ w' = w := by
 go_enter Tryz.func239, Tryz.ntmps239
 go_wp2_with fail
 go_ret
 exact ⟨by simp, rfl⟩
theorem Compare_c (a b : ByteArray) (w : World) : Calls Tryz.prog 219 #[.string a, .string b] w fun e w' => e = .returned (.int .i64 (cmpF a b)) ∧ w' = w := by
 have Ca := Lib.hid (isNaN_c a)
 have Cb := Lib.hid (isNaN_c b)
 have hc := bLess_sto.cases a b
 unfold bLess at hc
 rcases hc with ⟨h1, h2, h3, h4⟩ | rfl | ⟨h1, h2, h3, h4⟩
 · have HE : Hid (cmpF a b = -1) := by show _ = _; unfold cmpF bLess; rw [h1]; rfl
   clear h2 h3 h4
   go_enter Tryz.func219, Tryz.ntmps219
   go_wp2_with fail
   refine (Ca.out _).mono ?_
   rintro e w1 ⟨rfl, rfl⟩
   go_wp2_with fail
   refine (Cb.out _).mono ?_
   rintro e w1 ⟨rfl, rfl⟩
   go_wp2_with fail
   go_ret
   exact ⟨by rw [HE.out]; rfl, rfl⟩
 · have h1 := bl_irr a.toList
   have HE : Hid (cmpF a a = 0) := by show _ = _; unfold cmpF bLess; rw [h1]; rfl
   go_enter Tryz.func219, Tryz.ntmps219
   go_wp2_with fail
   refine (Ca.out _).mono ?_
   rintro e w1 ⟨rfl, rfl⟩
   go_wp2_with fail
   refine (Cb.out _).mono ?_
   rintro e w1 ⟨rfl, rfl⟩
   go_wp2_with fail
   go_ret
   exact ⟨by rw [HE.out]; rfl, rfl⟩
 · have HE : Hid (cmpF a b = 1) := by show _ = _; unfold cmpF bLess; rw [h1, h2]; rfl
   have h5 : (a.toList == b.toList) = false := by rw [str_eq]; simpa using h3
   clear h2 h3 h4
   go_enter Tryz.func219, Tryz.ntmps219
   go_wp2_with fail
   refine (Ca.out _).mono ?_
   rintro e w1 ⟨rfl, rfl⟩
   go_wp2_with fail
   refine (Cb.out _).mono ?_
   rintro e w1 ⟨rfl, rfl⟩
   go_wp2_with fail
   go_ret
   exact ⟨by rw [HE.out]; rfl, rfl⟩
set_option maxRecDepth 100000 in
theorem Or_c {g : Nat} {e : TypeId} (a b : Int) (w : World) (h : Row w g e [.int .i64 a, .int .i64 b]) :
 Calls Tryz.prog 218 #[.slice (some ⟨g, 0, none⟩) 2 2] w fun e w' => e = .returned (.int .i64 (if a ≠ 0 then a else b)) ∧ w' = w := by
 have c0 := h.cell' (i := 0) rfl
 have c1 := h.cell' (i := 1) rfl
 go_enter Tryz.func218, Tryz.ntmps218
 go_wp2_with fail
 go_loop [5, 8] (fun s i => ∃ k : Nat, (k = 0 ∨ k = 1 ∧ a = 0 ∨ k = 2 ∧ a = 0 ∧ b = 0) ∧ i = .int .i64 k) (fun _ i => 2 - (intOf i).toNat)
 case atStart => exact ⟨0, .inl rfl, rfl⟩
 case round =>
  obtain ⟨k, hk, rfl⟩ := hrel
  rcases hk with rfl | ⟨rfl, rfl⟩ | ⟨rfl, rfl, rfl⟩
  · by_cases h0 : a = 0
    · subst h0
      go_wp2_with fail
      go_round
      case rel => exact ⟨1, by simp, by first | rfl | go_num⟩
      case measure => simp [intOf]
    · have g0 : (a != 0) = true := by simp [h0]
      go_wp2_with fail
      go_ret
      exact ⟨by simp, rfl⟩
  · by_cases h0 : b = 0
    · subst h0
      go_wp2_with fail
      go_round
      case rel => exact ⟨2, by simp, by first | rfl | go_num⟩
      case measure => simp [intOf]
    · have g0 : (b != 0) = true := by simp [h0]
      go_wp2_with fail
      go_ret
      exact ⟨by simp, rfl⟩
  · go_wp2_with fail
    go_ret
    exact ⟨by simp, rfl⟩
theorem and_intro4 {a b c d : Prop} (h1 : a) (h2 : b) (h3 : c) (h4 : d) : a ∧ b ∧ c ∧ d := ⟨h1, h2, h3, h4⟩
end Go.Proofs.YtkfadfddhbpngaaGreat
