/- What laws draw: numbers, boxes. Conditions: none. -/
import Derived.Test.YtmopioaojdlnkaaPtKt
import Derived.Test.YtmopioaojdlnkaaSymst
import Derived.Test.YtmopioaojdlnkaaTyBoxt
import Derived.Test.YtmopioaojdlnkaaInt
import Derived.Test.YtmopioaojdlnkaaChk2t
import Derived.Test.YtmopioaojdlnkaaStepAppt
import Derived.Deep.Cut
import Derived.Test.YtmopioaojdlnkaaTkt
namespace Go.Proofs.Ytmopioaojdlnkaa
open Go Go.RowKit
set_option maxRecDepth 100000 in
set_option maxHeartbeats 1000000 in
theorem src_pickB_c {B g m : Nat} {code : List UInt8} (w : World) (h : SrcIs B g code m w) (hm : m ≤ 999000) (n : Int) (h1 : 200 < n) (hn : n ≤ 60000) :
 Calls Try.prog 56 #[.pointer (some ⟨g, 0, none⟩), .int .i64 n] w fun e w' => (∃ r : Int, 0 ≤ r ∧ r < n ∧ e = .returned (.int .i64 r)) ∧ SrcIs B g code (m + 2) w' ∧ Only [g] w w' := by
 have H := Lib.hid (src_next_c w h (by omega))
 have h2 : ¬ n ≤ 1 := by omega
 clear h
 go_enter Try.func56, Try.ntmps56
 go_wp2_with fail
 refine H.out.mono ?_
 rintro e w1 ⟨⟨r, r0, r1, rfl⟩, S, O⟩
 have H2 := Lib.hid (src_next_c w1 S (by omega))
 clear S
 go_wp2_with fail
 refine H2.out.mono ?_
 rintro e w2 ⟨⟨r', r0', r1', rfl⟩, S2, O2⟩
 have e1 := IntWalk.i64_in (r * 256) (by omega)
 have e2 := IntWalk.i64_in (r * 256 + r') (by omega)
 obtain ⟨x, hx⟩ : ∃ x, r * 256 + r' = x := ⟨_, rfl⟩
 have x0 : 0 ≤ x := by omega
 rw [hx] at e2
 have hm1 := Int.emod_nonneg x (show n ≠ 0 by omega)
 have hm2 := Int.emod_lt_of_pos x (show 0 < n by omega)
 have ht : x.tmod n = x % n := Int.tmod_eq_emod_of_nonneg x0
 have nz : ¬ n = 0 := by omega
 have nz' : (n == 0) = false := by simpa using nz
 rw [← hx] at hm1 hm2
 clear hx
 go_wp2_with fail
 go_ret
 exact ⟨⟨(r * 256 + r') % n, hm1, hm2, rfl⟩, S2, O.trans O2⟩
def BoxLe (K : Int) (b : PBox) : Prop := (-K ≤ b.x1 ∧ b.x1 ≤ K) ∧ (-K ≤ b.y1 ∧ b.y1 ≤ K) ∧ (-K ≤ b.x2 ∧ b.x2 ≤ K) ∧ (-K ≤ b.y2 ∧ b.y2 ≤ K)
theorem BoxLe.mono {K L : Int} {b : PBox} (h : BoxLe K b) (hl : K ≤ L) : BoxLe L b := by unfold BoxLe at *; omega
theorem BoxLe.join {K : Int} {a b : PBox} (h : BoxLe K a) (h' : BoxLe K b) : BoxLe K (joinB a b) := by unfold BoxLe joinB at *; dsimp only; omega
def SymLe (K : Int) (s : PSymbol) : Prop := BoxLe K (boxOf s) ∧ s.label.size ≤ 8
theorem SymLe.mono {K L : Int} {s : PSymbol} (h : SymLe K s) (hl : K ≤ L) : SymLe L s := ⟨h.1.mono hl, h.2⟩
theorem SymLe.ok {K : Int} {s : PSymbol} (h : SymLe K s) (hk : K ≤ 1000000) : pSymbolOk s := by
 obtain ⟨h1, h2⟩ := h
 unfold BoxLe boxOf at h1
 dsimp only at h1
 unfold pSymbolOk I64 maxLen
 omega
set_option maxRecDepth 100000 in
set_option maxHeartbeats 1000000 in
theorem src_among_c {B g m : Nat} {code : List UInt8} {o : Bool} {e : TypeId} {xs : List Int} {v : Value} {F : List Nat} (w : World) (h : SrcIs B g code m w) (hm : m ≤ 990000) (hl : (nums e).rep o w xs [v] F) (hF : g ∉ F) (h1 : 1 ≤ xs.length) (h2 : xs.length ≤ 200) :
 Calls Try.prog 80 #[.pointer (some ⟨g, 0, none⟩), v] w fun e w' => (∃ t, t ∈ xs ∧ e = .returned (.int .i64 t)) ∧ SrcIs B g code (m + 1) w' ∧ Only [g] w w' := by
 have H := Lib.hid (src_pick_c w h (by omega) (xs.length : Int) (by omega))
 have HL := Lib.hid hl
 obtain ⟨A, c, rfl⟩ := slice_len hl
 clear h hl
 go_enter Try.func80, Try.ntmps80
 go_wp2_with fail
 refine H.out.mono ?_
 rintro e w1 ⟨⟨r, r0, r1, rfl⟩, S, O⟩
 obtain ⟨k, rfl⟩ := Int.eq_ofNat_of_zero_le r0
 have hk : k < xs.length := by omega
 have hl2 := HL.out.only O (fun b hb hin => by simp at hin; subst hin; exact hF hb)
 obtain ⟨A', c', he, _, _, hr⟩ := nums_open hl2
 cases he
 obtain ⟨b, off, rfl, hbb, _, h0, _⟩ := hr k hk
 have g1 : (k : Int) < (xs.length : Int) := by omega
 clear hr hl2 r1
 go_wp2_with fail
 go_ret
 exact ⟨⟨_, List.getElem_mem hk, rfl⟩, S, O⟩
theorem three_nums (w : World) (e : TypeId) (a b c : Int) (h : I64 a ∧ I64 b ∧ I64 c) : (nums e).rep true (w.alloc (.cells #[.int .i64 a, .int .i64 b, .int .i64 c] e)) [a, b, c] [.slice (some ⟨w.heap.size, 0, none⟩) 3 3] [w.heap.size] :=
 slice_of_row (xs := [a, b, c]) (Row.new w e #[.int .i64 a, .int .i64 b, .int .i64 c]) (repL_nums [a, b, c] (by intro s hs; simp at hs; rcases hs with rfl | rfl | rfl; exact h.1; exact h.2.1; exact h.2.2)) (by simp [maxLen])
theorem row_o {w w' : World} {g x : Nat} {e : TypeId} {cs : List Value} (R : Row w x e cs) (b : Only [g] w w') (h : x ≠ g) : Row w' x e cs := (b.block x R.lt (by simp [h])).trans R
theorem SrcIs.far {B g m : Nat} {code : List UInt8} {w : World} (h : SrcIs B g code m w) {p : Addr} (hp : B ≤ p.block) (u : Value) : SrcIs B g code m (w.setCell p u) :=
 h.only (G := [p.block]) ((Only.refl _ _).set (by simp) u) (by simpa using hp)
def BoxDrawn (K : Int) (B g m : Nat) (code : List UInt8) (w : World) (en : Ending) (w' : World) : Prop :=
 ∃ b : PBox, en = .returned (.agg #[.int .i64 b.x1, .int .i64 b.y1, .int .i64 b.x2, .int .i64 b.y2]) ∧ BoxLe K b ∧ SrcIs B g code m w' ∧ Only [g] w w'
set_option maxRecDepth 100000 in
set_option maxHeartbeats 4000000 in
theorem spec_l02DrawBox_c {B g m : Nat} {code : List UInt8} (w : World) (h : SrcIs B g code m w) (hm : m ≤ 900000) (hB : B ≤ w.heap.size) :
 Calls Try.prog 63 #[.pointer (some ⟨g, 0, none⟩)] w (BoxDrawn 5000 B g (m + 12) code w) := by
 have RO := Row.new w 48 #[.int .i64 0, .int .i64 0, .int .i64 0, .int .i64 0]
 have H1 := Lib.hid (src_pickB_c _ (h.alloc (.cells #[.int .i64 0, .int .i64 0, .int .i64 0, .int .i64 0] 48)) (by omega) 900 (by omega) (by omega))
 have hgw := h.lt
 have O0 : Only [g] w (w.alloc (.cells #[.int .i64 0, .int .i64 0, .int .i64 0, .int .i64 0] 48)) := Only.of_below ((Below.refl _ _).alloc (Nat.le_refl _) _)
 clear h
 go_enter Try.func63, Try.ntmps63
 go_wp2_with fail
 refine H1.out.mono ?_
 rintro e w1 ⟨⟨x, x0, x1, rfl⟩, S1, O1⟩
 replace RO := row_o RO O1 (by omega)
 replace O1 := O0.trans O1
 have H2 := Lib.hid (src_pickB_c w1 S1 (by omega) 900 (by omega) (by omega))
 clear S1
 go_wp2_with fail
 refine H2.out.mono ?_
 rintro e w2 ⟨⟨y, y0, y1, rfl⟩, S2, O2⟩
 replace RO := row_o RO O2 (by omega)
 replace O2 := O1.trans O2
 have H3 := Lib.hid (src_pickB_c w2 S2 (by omega) 300 (by omega) (by omega))
 clear S2
 go_wp2_with fail
 refine H3.out.mono ?_
 rintro e w3 ⟨⟨dx, dx0, dx1, rfl⟩, S3, O3⟩
 replace RO := row_o RO O3 (by omega)
 replace O3 := O2.trans O3
 have H4 := Lib.hid (src_pickB_c w3 S3 (by omega) 300 (by omega) (by omega))
 have e1 := IntWalk.i64_in (x + dx) (by omega)
 clear S3
 go_wp2_with fail
 refine H4.out.mono ?_
 rintro e w4 ⟨⟨dy, dy0, dy1, rfl⟩, S4, O4⟩
 replace RO := row_o RO O4 (by omega)
 replace O4 := O3.trans O4
 have e2 := IntWalk.i64_in (y + dy) (by omega)
 have S5 := S4.alloc (.cells #[.int .i64 x, .int .i64 y, .int .i64 (x + dx), .int .i64 (y + dy)] 48)
 have H5 := Lib.hid (src_pick_c _ S5 (by omega) 16 (by omega))
 have R5 := Row.new w4 48 #[.int .i64 x, .int .i64 y, .int .i64 (x + dx), .int .i64 (y + dy)]
 have O5 := O4.trans (Only.of_below (F := [g]) ((Below.refl w4.heap.size w4).alloc (Nat.le_refl _) (.cells #[.int .i64 x, .int .i64 y, .int .i64 (x + dx), .int .i64 (y + dy)] 48)))
 have hg4 := S4.lt
 have hlt5 := RO.lt
 replace RO := RO.alloc (.cells #[.int .i64 x, .int .i64 y, .int .i64 (x + dx), .int .i64 (y + dy)] 48)
 clear S4 S5
 go_wp2_with fail
 refine H5.out.mono ?_
 rintro e w5 ⟨⟨k, k0, k1, rfl⟩, S6, O6⟩
 replace RO := row_o RO O6 (by omega)
 replace R5 := row_o R5 O6 (by omega)
 replace O6 := O5.trans O6
 have gbv : g ≠ w4.heap.size := by omega
 have vne : w.heap.size ≠ w4.heap.size := by omega
 by_cases k0' : k = 0
 · subst k0'
   have S7 := S6.alloc (.cells #[.int .i64 (-1), .int .i64 (x + dx), .int .i64 (x + dx + 1)] 2)
   have N7 := three_nums w5 2 (-1) (x + dx) (x + dx + 1) (by unfold I64; omega)
   have H7 := Lib.hid (src_among_c _ S7 (by omega) N7 (by have := S6.lt; simp; omega) (by simp) (by simp))
   have e3 := IntWalk.i64_in (x + dx + 1) (by omega)
   have f2 := R5.c2
   replace RO := RO.alloc (.cells #[.int .i64 (-1), .int .i64 (x + dx), .int .i64 (x + dx + 1)] 2)
   replace R5 := R5.alloc (.cells #[.int .i64 (-1), .int .i64 (x + dx), .int .i64 (x + dx + 1)] 2)
   have O7 := O6.trans (Only.of_below (F := [g]) ((Below.refl w5.heap.size w5).alloc (Nat.le_refl _) (.cells #[.int .i64 (-1), .int .i64 (x + dx), .int .i64 (x + dx + 1)] 2)))
   clear S6 S7 N7
   go_wp2_with fail
   refine H7.out.mono ?_
   rintro e w8 ⟨⟨t, ht, rfl⟩, S8, O8⟩
   have htb : -5000 ≤ t ∧ t ≤ 5000 := by simp at ht; omega
   replace RO := row_o RO O8 (by omega)
   replace R5 := row_o R5 O8 (by omega)
   replace O8 := O7.trans O8
   have f0 := R5.c0
   have fF := R5.frozen
   go_upto_region 9 with fail
   replace R5 := R5.set 0 (.int .i64 t)
   replace RO := RO.far (p := ⟨w4.heap.size, 0, none⟩) vne (.int .i64 t)
   replace S8 := S8.far (p := ⟨w4.heap.size, 0, none⟩) (by show B ≤ w4.heap.size; omega) (.int .i64 t)
   replace O8 := O8.set_new (p := ⟨w4.heap.size, 0, none⟩) (by show w.heap.size ≤ w4.heap.size; omega) (.int .i64 t)
   generalize w8.setCell ⟨w4.heap.size, 0, none⟩ (.int .i64 t) = w9 at RO R5 S8 O8 ⊢
   clear f0 fF f2
   have f0 := R5.c0
   have f1 := R5.c1
   have f2 := R5.c2
   have f3 := R5.c3
   have u0 := RO.c0
   have u1 := RO.c1
   have u2 := RO.c2
   have u3 := RO.c3
   have uF := RO.frozen
   have RR := four_cells RO rfl (.int .i64 t) (.int .i64 y) (.int .i64 (x + dx)) (.int .i64 (y + dy))
   have d0 := RR.c0
   have d1 := RR.c1
   have d2 := RR.c2
   have d3 := RR.c3
   have HO := Lib.hid ((((O8.set_new (p := ⟨w.heap.size, 0, none⟩) (Nat.le_refl _) (.int .i64 t)).set_new (p := ⟨w.heap.size, 1, none⟩) (Nat.le_refl _) (.int .i64 y)).set_new (p := ⟨w.heap.size, 2, none⟩) (Nat.le_refl _) (.int .i64 (x + dx))).set_new (p := ⟨w.heap.size, 3, none⟩) (Nat.le_refl _) (.int .i64 (y + dy)))
   have HS := Lib.hid ((((S8.far (p := ⟨w.heap.size, 0, none⟩) hB (.int .i64 t)).far (p := ⟨w.heap.size, 1, none⟩) hB (.int .i64 y)).far (p := ⟨w.heap.size, 2, none⟩) hB (.int .i64 (x + dx))).far (p := ⟨w.heap.size, 3, none⟩) hB (.int .i64 (y + dy)))
   clear RR RO R5
   go_wp2_with fail
   refine bodyPost_ret (v := .agg #[.int .i64 t, .int .i64 y, .int .i64 (x + dx), .int .i64 (y + dy)]) (by simp [results, Try.results63, go_sem, d0, d1, d2, d3]) rfl ⟨⟨t, y, (x + dx), (y + dy)⟩, rfl, by unfold BoxLe; dsimp only; omega, HS.out.more (by omega), HO.out⟩
 · have y0 : (k == 0) = false := by simpa using k0'
   by_cases k1' : k = 1
   · subst k1'
     have S7 := S6.alloc (.cells #[.int .i64 4095, .int .i64 4096, .int .i64 (-1)] 2)
     have N7 := three_nums w5 2 4095 4096 (-1) (by unfold I64; omega)
     have H7 := Lib.hid (src_among_c _ S7 (by omega) N7 (by have := S6.lt; simp; omega) (by simp) (by simp))
     replace RO := RO.alloc (.cells #[.int .i64 4095, .int .i64 4096, .int .i64 (-1)] 2)
     replace R5 := R5.alloc (.cells #[.int .i64 4095, .int .i64 4096, .int .i64 (-1)] 2)
     have O7 := O6.trans (Only.of_below (F := [g]) ((Below.refl w5.heap.size w5).alloc (Nat.le_refl _) (.cells #[.int .i64 4095, .int .i64 4096, .int .i64 (-1)] 2)))
     clear S6 S7 N7
     go_wp2_with fail
     refine H7.out.mono ?_
     rintro e w8 ⟨⟨t, ht, rfl⟩, S8, O8⟩
     have htb : -5000 ≤ t ∧ t ≤ 5000 := by simp at ht; omega
     replace RO := row_o RO O8 (by omega)
     replace R5 := row_o R5 O8 (by omega)
     replace O8 := O7.trans O8
     have f3 := R5.c3
     have fF := R5.frozen
     go_upto_region 9 with fail
     replace R5 := R5.set 3 (.int .i64 t)
     replace RO := RO.far (p := ⟨w4.heap.size, 3, none⟩) vne (.int .i64 t)
     replace S8 := S8.far (p := ⟨w4.heap.size, 3, none⟩) (by show B ≤ w4.heap.size; omega) (.int .i64 t)
     replace O8 := O8.set_new (p := ⟨w4.heap.size, 3, none⟩) (by show w.heap.size ≤ w4.heap.size; omega) (.int .i64 t)
     generalize w8.setCell ⟨w4.heap.size, 3, none⟩ (.int .i64 t) = w9 at RO R5 S8 O8 ⊢
     clear f3 fF 
     have f0 := R5.c0
     have f1 := R5.c1
     have f2 := R5.c2
     have f3 := R5.c3
     have u0 := RO.c0
     have u1 := RO.c1
     have u2 := RO.c2
     have u3 := RO.c3
     have uF := RO.frozen
     have RR := four_cells RO rfl (.int .i64 x) (.int .i64 y) (.int .i64 (x + dx)) (.int .i64 t)
     have d0 := RR.c0
     have d1 := RR.c1
     have d2 := RR.c2
     have d3 := RR.c3
     have HO := Lib.hid ((((O8.set_new (p := ⟨w.heap.size, 0, none⟩) (Nat.le_refl _) (.int .i64 x)).set_new (p := ⟨w.heap.size, 1, none⟩) (Nat.le_refl _) (.int .i64 y)).set_new (p := ⟨w.heap.size, 2, none⟩) (Nat.le_refl _) (.int .i64 (x + dx))).set_new (p := ⟨w.heap.size, 3, none⟩) (Nat.le_refl _) (.int .i64 t))
     have HS := Lib.hid ((((S8.far (p := ⟨w.heap.size, 0, none⟩) hB (.int .i64 x)).far (p := ⟨w.heap.size, 1, none⟩) hB (.int .i64 y)).far (p := ⟨w.heap.size, 2, none⟩) hB (.int .i64 (x + dx))).far (p := ⟨w.heap.size, 3, none⟩) hB (.int .i64 t))
     clear RR RO R5
     go_wp2_with fail
     refine bodyPost_ret (v := .agg #[.int .i64 x, .int .i64 y, .int .i64 (x + dx), .int .i64 t]) (by simp [results, Try.results63, go_sem, d0, d1, d2, d3]) rfl ⟨⟨x, y, (x + dx), t⟩, rfl, by unfold BoxLe; dsimp only; omega, HS.out.more (by omega), HO.out⟩
   · have y1 : (k == 1) = false := by simpa using k1'
     have f0 := R5.c0
     have f1 := R5.c1
     have f2 := R5.c2
     have f3 := R5.c3
     have u0 := RO.c0
     have u1 := RO.c1
     have u2 := RO.c2
     have u3 := RO.c3
     have uF := RO.frozen
     have RR := four_cells RO rfl (.int .i64 x) (.int .i64 y) (.int .i64 (x + dx)) (.int .i64 (y + dy))
     have d0 := RR.c0
     have d1 := RR.c1
     have d2 := RR.c2
     have d3 := RR.c3
     have HO := Lib.hid ((((O6.set_new (p := ⟨w.heap.size, 0, none⟩) (Nat.le_refl _) (.int .i64 x)).set_new (p := ⟨w.heap.size, 1, none⟩) (Nat.le_refl _) (.int .i64 y)).set_new (p := ⟨w.heap.size, 2, none⟩) (Nat.le_refl _) (.int .i64 (x + dx))).set_new (p := ⟨w.heap.size, 3, none⟩) (Nat.le_refl _) (.int .i64 (y + dy)))
     have HS := Lib.hid ((((S6.far (p := ⟨w.heap.size, 0, none⟩) hB (.int .i64 x)).far (p := ⟨w.heap.size, 1, none⟩) hB (.int .i64 y)).far (p := ⟨w.heap.size, 2, none⟩) hB (.int .i64 (x + dx))).far (p := ⟨w.heap.size, 3, none⟩) hB (.int .i64 (y + dy)))
     clear RR RO R5
     go_wp2_with fail
     refine bodyPost_ret (v := .agg #[.int .i64 x, .int .i64 y, .int .i64 (x + dx), .int .i64 (y + dy)]) (by simp [results, Try.results63, go_sem, d0, d1, d2, d3]) rfl ⟨⟨x, y, (x + dx), (y + dy)⟩, rfl, by unfold BoxLe; dsimp only; omega, HS.out.more (by omega), HO.out⟩
theorem SrcIs.drew' {B g m : Nat} {code : List UInt8} {w : World} (h : SrcIs B g code m w) : SrcIs B g code m w.drew := h.below (Below.refl w.heap.size w).drew
set_option maxRecDepth 100000 in
set_option maxHeartbeats 4000000 in
theorem spec_l20Near_c {B g m : Nat} {code : List UInt8} {K : Int} (a : PBox) (w : World) (h : SrcIs B g code m w) (hm : m ≤ 900000) (hB : B ≤ w.heap.size) (ha : BoxLe K a) (hK : 0 ≤ K ∧ K ≤ 100000) :
 Calls Try.prog 79 #[.pointer (some ⟨g, 0, none⟩), .agg #[.int .i64 a.x1, .int .i64 a.y1, .int .i64 a.x2, .int .i64 a.y2]] w (BoxDrawn (K + 200) B g (m + 4) code w) := by
 have RA := (Row.new w 48 #[.int .i64 a.x1, .int .i64 a.y1, .int .i64 a.x2, .int .i64 a.y2]).alloc (.cells #[.int .i64 0, .int .i64 0, .int .i64 0, .int .i64 0] 48)
 have RO := Row.new (w.alloc (.cells #[.int .i64 a.x1, .int .i64 a.y1, .int .i64 a.x2, .int .i64 a.y2] 48)) 48 #[.int .i64 0, .int .i64 0, .int .i64 0, .int .i64 0]
 rw [World.size_alloc] at RO
 have S0 := (h.alloc (.cells #[.int .i64 a.x1, .int .i64 a.y1, .int .i64 a.x2, .int .i64 a.y2] 48)).alloc (.cells #[.int .i64 0, .int .i64 0, .int .i64 0, .int .i64 0] 48)
 have O0 : Only [g] w ((w.alloc (.cells #[.int .i64 a.x1, .int .i64 a.y1, .int .i64 a.x2, .int .i64 a.y2] 48)).alloc (.cells #[.int .i64 0, .int .i64 0, .int .i64 0, .int .i64 0] 48)) := Only.of_below (((Below.refl _ _).alloc (Nat.le_refl _) _).alloc (by simp) _)
 have hgw := h.lt
 unfold BoxLe at ha
 clear h
 go_enter Try.func79, Try.ntmps79
 go_upto_region 1 with fail
 generalize (w.alloc (.cells #[.int .i64 a.x1, .int .i64 a.y1, .int .i64 a.x2, .int .i64 a.y2] 48)).alloc (.cells #[.int .i64 0, .int .i64 0, .int .i64 0, .int .i64 0] 48) = w1 at RA RO S0 O0 ⊢
 have hS : (fun w' : World => w'.cell? ⟨w.heap.size, 0, none⟩ = some (.int .i64 a.x1)) w1.drew := RA.c0
 dsimp only at hS
 refine wp_region_held_drew (S := (fun w' : World => w'.cell? ⟨w.heap.size, 0, none⟩ = some (.int .i64 a.x1))) (by kernel_rfl) hS (fun _ => ?_)
 refine tJ 0 hS ?_
 refine tJ 1 hS ?_
 refine tJ 2 hS ?_
 refine rJ 3 fun K hK => ?_
 refine step_call 56 #[.tmp 9, .const (.int .i64 90)] _ rfl rfl #[.pointer (some ⟨g, 0, none⟩), .int .i64 90] Try.call56 (by go_simp) (src_pick_c _ S0.drew' (by omega) 90 (by omega)) ?_
 rintro e w2 ⟨⟨r, r0, r1, rfl⟩, S2, O2⟩
 refine ⟨_, rfl, ?_⟩
 replace RA := row_o RA.drew O2 (by omega)
 replace RO := row_o RO.drew O2 (by omega)
 replace O2 := O0.drew.trans O2
 replace hS := (RA.c0 : w2.cell? ⟨w.heap.size, 0, none⟩ = some (.int .i64 a.x1))
 refine bJ hK hS ?_
 clear hK K
 simp only [Act.put, pA, pB, pC]
 have er1 := IntWalk.i64_in (a.x1 + r) (by omega)
 have er2 := IntWalk.i64_in (a.x1 + r - 30) (by omega)
 refine tJ 4 hS ?_
 refine tJ 5 hS ?_
 refine tC (i := 6) 60 #[Go.Operand.const (Go.Value.int Go.IntKind.i64 0), Go.Operand.tmp 12] #[.int .i64 0, .int .i64 (a.x1 + r - 30)] Try.call60 (fun w => spec_max_c 0 (a.x1 + r - 30) w) hS ?_
 simp only [Act.put, pA, pB, pC]
 refine tJ 7 hS ?_
 refine wpAnyH_done (by kernel_rfl) ?_ _
 clear hS
 go_upto_region 2 with fail
 have hS : (fun w' : World => w'.cell? ⟨w.heap.size, 1, none⟩ = some (.int .i64 a.y1)) w2.drew := RA.c1
 dsimp only at hS
 refine wp_region_held_drew (S := (fun w' : World => w'.cell? ⟨w.heap.size, 1, none⟩ = some (.int .i64 a.y1))) (by kernel_rfl) hS (fun _ => ?_)
 refine tJ 0 hS ?_
 refine tJ 1 hS ?_
 refine tJ 2 hS ?_
 refine rJ 3 fun K hK => ?_
 refine step_call 56 #[.tmp 16, .const (.int .i64 90)] _ rfl rfl #[.pointer (some ⟨g, 0, none⟩), .int .i64 90] Try.call56 (by go_simp) (src_pick_c _ S2.drew' (by omega) 90 (by omega)) ?_
 rintro e w3 ⟨⟨q, q0, q1, rfl⟩, S3, O3⟩
 refine ⟨_, rfl, ?_⟩
 replace RA := row_o RA.drew O3 (by omega)
 replace RO := row_o RO.drew O3 (by omega)
 replace O3 := O2.drew.trans O3
 replace hS := (RA.c1 : w3.cell? ⟨w.heap.size, 1, none⟩ = some (.int .i64 a.y1))
 refine bJ hK hS ?_
 clear hK K
 simp only [Act.put, pA, pB, pC]
 have eq1 := IntWalk.i64_in (a.y1 + q) (by omega)
 have eq2 := IntWalk.i64_in (a.y1 + q - 45) (by omega)
 refine tJ 4 hS ?_
 refine tJ 5 hS ?_
 refine tC (i := 6) 60 #[Go.Operand.const (Go.Value.int Go.IntKind.i64 0), Go.Operand.tmp 19] #[.int .i64 0, .int .i64 (a.y1 + q - 45)] Try.call60 (fun w => spec_max_c 0 (a.y1 + q - 45) w) hS ?_
 simp only [Act.put, pA, pB, pC]
 refine tJ 7 hS ?_
 refine wpAnyH_done (by kernel_rfl) ?_ _
 clear hS
 obtain ⟨X, hX⟩ : ∃ X, max 0 (a.x1 + r - 30) = X := ⟨_, rfl⟩
 obtain ⟨Y, hY⟩ : ∃ Y, max 0 (a.y1 + q - 45) = Y := ⟨_, rfl⟩
 have bX : 0 ≤ X ∧ X ≤ K + 100 := by omega
 have bY : 0 ≤ Y ∧ Y ≤ K + 100 := by omega
 rw [hX, hY]
 clear hX hY
 have H4 := Lib.hid (src_pick_c w3 S3 (by omega) 50 (by omega))
 go_wp2_with fail
 refine H4.out.mono ?_
 rintro e w4 ⟨⟨u, u0, u1, rfl⟩, S4, O4⟩
 replace RO := row_o RO O4 (by omega)
 replace O4 := O3.trans O4
 have H5 := Lib.hid (src_pick_c w4 S4 (by omega) 50 (by omega))
 have e5 := IntWalk.i64_in (X + u) (by omega)
 go_wp2_with fail
 refine H5.out.mono ?_
 rintro e w5 ⟨⟨v, v0, v1, rfl⟩, S5, O5⟩
 replace RO := row_o RO O5 (by omega)
 replace O5 := O4.trans O5
 have e6 := IntWalk.i64_in (Y + v) (by omega)
 have t0 := RO.c0
 have t1 := RO.c1
 have t2 := RO.c2
 have t3 := RO.c3
 have uF := RO.frozen
 have RR := four_cells RO rfl (.int .i64 X) (.int .i64 Y) (.int .i64 (X + u)) (.int .i64 (Y + v))
 have d0 := RR.c0
 have d1 := RR.c1
 have d2 := RR.c2
 have d3 := RR.c3
 have hB1 : B ≤ w.heap.size + 1 := by omega
 have HO := Lib.hid ((((O5.set_new (p := ⟨w.heap.size + 1, 0, none⟩) (by show _ ≤ w.heap.size + 1; omega) (.int .i64 X)).set_new (p := ⟨w.heap.size + 1, 1, none⟩) (by show _ ≤ w.heap.size + 1; omega) (.int .i64 Y)).set_new (p := ⟨w.heap.size + 1, 2, none⟩) (by show _ ≤ w.heap.size + 1; omega) (.int .i64 (X + u))).set_new (p := ⟨w.heap.size + 1, 3, none⟩) (by show _ ≤ w.heap.size + 1; omega) (.int .i64 (Y + v)))
 have HS := Lib.hid ((((S5.far (p := ⟨w.heap.size + 1, 0, none⟩) hB1 (.int .i64 X)).far (p := ⟨w.heap.size + 1, 1, none⟩) hB1 (.int .i64 Y)).far (p := ⟨w.heap.size + 1, 2, none⟩) hB1 (.int .i64 (X + u))).far (p := ⟨w.heap.size + 1, 3, none⟩) hB1 (.int .i64 (Y + v)))
 clear RR RO RA S0 S2 S3 S4 S5 O0 O2 O3 O4 O5
 go_wp2_with fail
 refine bodyPost_ret (v := .agg #[.int .i64 X, .int .i64 Y, .int .i64 (X + u), .int .i64 (Y + v)]) (by simp [results, Try.results79, go_sem, d0, d1, d2, d3]) rfl ⟨⟨X, Y, X + u, Y + v⟩, rfl, by unfold BoxLe; dsimp only; omega, HS.out.more (by omega), HO.out⟩
def symTexts : List ByteArray := [⟨#[97]⟩, ⟨#[120]⟩, ⟨#[50]⟩, ⟨#[51]⟩, ⟨#[45]⟩, ⟨#[114]⟩, ⟨#[43]⟩]
theorem symTexts_small : ∀ s ∈ symTexts, s.size ≤ 3 := by decide
theorem symTexts_at (w : World) : (strs 9).rep true (w.alloc (.cells (symTexts.map Value.string).toArray 9)) symTexts [.slice (some ⟨w.heap.size, 0, none⟩) 7 7] [w.heap.size] :=
 slice_of_row (xs := symTexts) (Row.new w _ _) (repL_strs _ (fun s hs => by have := symTexts_small s hs; unfold maxLen; omega)) (by decide)
theorem infoSym : (Try.prog.info? 50).map (fun i => (i.zero, i.size, i.bytes)) = some (some (.agg #[.string .empty, .int .i64 0, .int .i64 0, .int .i64 0, .int .i64 0]), pSymbol.size, 48) := by kernel_rfl
theorem syms_nil (w : World) (e : TypeId) : (pSymbols e).rep true (w.alloc (.cells #[] e)) [] [.slice (some ⟨w.heap.size, 0, none⟩) 0 0] [w.heap.size] := slice_of_row (xs := []) (Row.new w _ #[]) ⟨rfl, rfl⟩ (by simp)
theorem past_drew {w : World} (x : Obj) {g i : Nat} {u : Value} (hg : g < w.heap.size) (h : w.cell? ⟨g, i, none⟩ = some u) : (w.alloc x).drew.cell? ⟨g, i, none⟩ = some u := (World.cell?_alloc_past (w := w) _ _ _ hg).trans h
theorem only_newS {F G : List Nat} {a b c : World} (h : Only F a b) (ho : Only G b c) (hG : ∀ x ∈ G, x ∈ F ∨ a.heap.size ≤ x) : Only F a c :=
 ⟨ho.os.trans h.os, ho.tape.trans h.tape, ho.output.trans h.output, Nat.le_trans h.size ho.size, fun k hk hn => (ho.block k (Nat.lt_of_lt_of_le hk h.size) (fun hin => by rcases hG k hin with h1 | h1 <;> first | exact hn h1 | omega)).trans (h.block k hk hn)⟩
def SymsDrawn (K : Int) (n : Nat) (B g m : Nat) (code : List UInt8) (w : World) (en : Ending) (w' : World) : Prop :=
 ∃ (xs : List PSymbol) (v : Value) (G : List Nat), en = .returned v ∧ (pSymbols 50).rep true w' xs [v] G ∧ Fresh w.heap.size G ∧ xs.length ≤ n ∧ (∀ c ∈ xs, SymLe K c) ∧ SrcIs B g code m w' ∧ Only [g] w w'
set_option maxRecDepth 100000 in
set_option maxHeartbeats 8000000 in
theorem spec_l20Draw_c {B g m : Nat} {code : List UInt8} (w : World) (h : SrcIs B g code m w) (hm : m ≤ 800000) (hB : B ≤ w.heap.size) :
 Calls Try.prog 61 #[.pointer (some ⟨g, 0, none⟩), .int .i64 6] w (SymsDrawn 2000 6 B g (m + 80) code w) := by
 have hgw := h.lt
 have N0 := (syms_nil w 50).alloc (.cells #[.int .i64 100, .int .i64 200, .int .i64 130, .int .i64 240] 48)
 have RB := Row.new (w.alloc (.cells #[] 50)) 48 #[.int .i64 100, .int .i64 200, .int .i64 130, .int .i64 240]
 rw [World.size_alloc] at RB
 have S0 := (h.alloc (.cells #[] 50)).alloc (.cells #[.int .i64 100, .int .i64 200, .int .i64 130, .int .i64 240] 48)
 have O0 : Only [g] w ((w.alloc (.cells #[] 50)).alloc (.cells #[.int .i64 100, .int .i64 200, .int .i64 130, .int .i64 240] 48)) := Only.of_below (((Below.refl _ _).alloc (Nat.le_refl _) _).alloc (by simp) _)
 have H1 := Lib.hid (src_pick_c _ S0 (by omega) 7 (by omega))
 clear h S0
 go_enter Try.func61, Try.ntmps61
 go_wp2_with fail
 refine H1.out.mono ?_
 rintro e w1 ⟨⟨r, r0, r1, rfl⟩, S1, O1⟩
 obtain ⟨k0, rfl⟩ := Int.eq_ofNat_of_zero_le r0
 have hk0 : k0 ≤ 6 := by omega
 replace RB := row_o RB O1 (by omega)
 have N1 := N0.only O1 (fun b hb hin => by simp at hb hin; omega)
 replace O1 := O0.trans O1
 have ALL := Lib.hid (show (pSymbols 50).rep true w1 [] [.slice (some ⟨w.heap.size, 0, none⟩) 0 0] [w.heap.size] ∧ Fresh w.heap.size [w.heap.size] ∧ w.heap.size + 1 ∉ [w.heap.size] ∧ (∀ c ∈ ([] : List PSymbol), SymLe 2000 c) ∧ BoxLe (240 + 200 * (6 - k0 : Nat)) ⟨100, 200, 130, 240⟩ ∧ Row w1 (w.heap.size + 1) 48 [.int .i64 100, .int .i64 200, .int .i64 130, .int .i64 240] ∧ SrcIs B g code (m + 1 + 10 * (6 - k0)) w1 ∧ Only [g] w w1 from ⟨N1, ⟨by simp, by simp⟩, by simp, by simp, by unfold BoxLe; dsimp only; omega, RB, S1.more (by omega), O1⟩)
 clear H1 N0 N1 RB O0 O1 S1 r0 r1
 go_wp2_with fail
 go_loopw [5, 7] (fun l i wr => ∃ (k : Nat) (xs : List PSymbol) (v : Value) (G : List Nat) (bb : PBox), i = .int .i64 k ∧ k ≤ 6 ∧ v = l ∧ xs.length + k ≤ 6 ∧ Hid ((pSymbols 50).rep true wr xs [v] G ∧ Fresh w.heap.size G ∧ w.heap.size + 1 ∉ G ∧ (∀ c ∈ xs, SymLe 2000 c) ∧ BoxLe (240 + 200 * (6 - k : Nat)) bb ∧ Row wr (w.heap.size + 1) 48 [.int .i64 bb.x1, .int .i64 bb.y1, .int .i64 bb.x2, .int .i64 bb.y2] ∧ SrcIs B g code (m + 1 + 10 * (6 - k)) wr ∧ Only [g] w wr)) (fun _ i _ => (intOf i).toNat)
 case atStart => exact ⟨k0, [], _, _, ⟨100, 200, 130, 240⟩, rfl, hk0, rfl, by simpa using hk0, ALL⟩
 case round =>
  obtain ⟨k, xs, v, G, bb, rfl, hk, hv, hlen, all⟩ := hrel
  subst hv
  obtain ⟨rep, fr, hnb, hsm, hbb, RB, S, O⟩ := all.out
  obtain ⟨U, c9, rfl⟩ := slice_len rep
  by_cases hlt : 0 < k
  · have g1 : (0 : Int) < (k : Int) := by omega
    have kw := IntWalk.i64_in ((k : Int) - 1) (by omega)
    have hos := O.size
    have hgG : g ∉ G := fun hin => by have := fr.2 g hin; omega
    have REP := Lib.hid rep
    have FR := Lib.hid fr
    have HSM := Lib.hid hsm
    have HBB := Lib.hid hbb
    clear rep fr hsm hbb all
    go_upto_region 6 with fail
    have hS : (fun w' : World => w'.cell? ⟨w.heap.size + 1, 0, none⟩ = some (.int .i64 bb.x1) ∧ w'.cell? ⟨w.heap.size + 1, 1, none⟩ = some (.int .i64 bb.y1) ∧ w'.cell? ⟨w.heap.size + 1, 2, none⟩ = some (.int .i64 bb.x2) ∧ w'.cell? ⟨w.heap.size + 1, 3, none⟩ = some (.int .i64 bb.y2)) wr.drew := ⟨RB.c0, RB.c1, RB.c2, RB.c3⟩
    dsimp only at hS
    refine wp_region_held_drew (S := (fun w' : World => w'.cell? ⟨w.heap.size + 1, 0, none⟩ = some (.int .i64 bb.x1) ∧ w'.cell? ⟨w.heap.size + 1, 1, none⟩ = some (.int .i64 bb.y1) ∧ w'.cell? ⟨w.heap.size + 1, 2, none⟩ = some (.int .i64 bb.x2) ∧ w'.cell? ⟨w.heap.size + 1, 3, none⟩ = some (.int .i64 bb.y2))) (by kernel_rfl) hS (fun _ => ?_)
    refine tJ 0 hS ?_
    refine tJ 1 hS ?_
    refine tJ 4 hS ?_
    refine rJ 2 fun K hK => ?_
    go_simp
    have hlB := RB.lt
    refine hK.out _ _ ⟨past_drew _ hlB (RB.c0), past_drew _ hlB (RB.c1), past_drew _ hlB (RB.c2), past_drew _ hlB (RB.c3)⟩ (fun _ => ?_)
    clear hK K
    have STX := symTexts_at wr
    have hsl := S.lt
    replace RB := (RB.alloc (.cells (symTexts.map Value.string).toArray 9)).drew
    replace REP := Lib.hid (REP.out.alloc (.cells (symTexts.map Value.string).toArray 9)).drew
    replace S := (S.alloc (.cells (symTexts.map Value.string).toArray 9)).drew'
    replace O := (O.alloc (.cells (symTexts.map Value.string).toArray 9)).drew
    replace hS := (⟨RB.c0, RB.c1, RB.c2, RB.c3⟩ : (wr.alloc (.cells (symTexts.map Value.string).toArray 9)).drew.cell? ⟨w.heap.size + 1, 0, none⟩ = some (.int .i64 bb.x1) ∧ (wr.alloc (.cells (symTexts.map Value.string).toArray 9)).drew.cell? ⟨w.heap.size + 1, 1, none⟩ = some (.int .i64 bb.y1) ∧ (wr.alloc (.cells (symTexts.map Value.string).toArray 9)).drew.cell? ⟨w.heap.size + 1, 2, none⟩ = some (.int .i64 bb.x2) ∧ (wr.alloc (.cells (symTexts.map Value.string).toArray 9)).drew.cell? ⟨w.heap.size + 1, 3, none⟩ = some (.int .i64 bb.y2))
    refine rJ 3 fun K hK => ?_
    refine step_call 62 #[.tmp 19, .tmp 20] _ rfl rfl #[.pointer (some ⟨g, 0, none⟩), .slice (some ⟨wr.heap.size, 0, none⟩) 7 7] Try.call62 (by go_simp) (src_text_c _ S (by omega) STX.drew (by simp; omega) (by decide) (by decide)) ?_
    rintro e w4 ⟨⟨t, ht, rfl⟩, S4, O4⟩
    refine ⟨_, rfl, ?_⟩
    have htz := symTexts_small t ht
    replace RB := row_o RB O4 (by omega)
    replace REP := Lib.hid (REP.out.only O4 (fun b hb hin => by simp at hin; subst hin; exact hgG hb))
    replace O4 := O.trans O4
    replace hS := (⟨RB.c0, RB.c1, RB.c2, RB.c3⟩ : w4.cell? ⟨w.heap.size + 1, 0, none⟩ = some (.int .i64 bb.x1) ∧ w4.cell? ⟨w.heap.size + 1, 1, none⟩ = some (.int .i64 bb.y1) ∧ w4.cell? ⟨w.heap.size + 1, 2, none⟩ = some (.int .i64 bb.x2) ∧ w4.cell? ⟨w.heap.size + 1, 3, none⟩ = some (.int .i64 bb.y2))
    refine bJ hK hS ?_
    clear hK K
    simp only [Act.put, pA, pB, pC]
    refine tJ 5 hS ?_
    refine rJ 6 fun K hK => ?_
    go_simp
    have hlB4 := RB.lt
    have hs4 := O4.size
    refine hK.out _ _ ⟨past_drew _ hlB4 (RB.c0), past_drew _ hlB4 (RB.c1), past_drew _ hlB4 (RB.c2), past_drew _ hlB4 (RB.c3)⟩ (fun _ => ?_)
    clear hK K
    replace RB := RB.alloc (.cells #[.string t, .int .i64 bb.x1, .int .i64 bb.y1, .int .i64 bb.x2, .int .i64 bb.y2] 50)
    replace REP := Lib.hid (REP.out.alloc (.cells #[.string t, .int .i64 bb.x1, .int .i64 bb.y1, .int .i64 bb.x2, .int .i64 bb.y2] 50))
    replace S4 := S4.alloc (.cells #[.string t, .int .i64 bb.x1, .int .i64 bb.y1, .int .i64 bb.x2, .int .i64 bb.y2] 50)
    replace O4 := O4.alloc (.cells #[.string t, .int .i64 bb.x1, .int .i64 bb.y1, .int .i64 bb.x2, .int .i64 bb.y2] 50)
    have hsym : SymLe 2000 ⟨t, bb.x1, bb.y1, bb.x2, bb.y2⟩ := ⟨HBB.out.mono (by omega), by show t.size ≤ 8; omega⟩
    have ok1 : ∀ s ∈ [(⟨t, bb.x1, bb.y1, bb.x2, bb.y2⟩ : PSymbol)], pSymbolOk s := fun s hs => by simp only [List.mem_singleton] at hs; subst hs; exact hsym.ok (by omega)
    replace hS := (⟨RB.c0, RB.c1, RB.c2, RB.c3⟩ : (w4.alloc (.cells #[.string t, .int .i64 bb.x1, .int .i64 bb.y1, .int .i64 bb.x2, .int .i64 bb.y2] 50)).cell? ⟨w.heap.size + 1, 0, none⟩ = some (.int .i64 bb.x1) ∧ (w4.alloc (.cells #[.string t, .int .i64 bb.x1, .int .i64 bb.y1, .int .i64 bb.x2, .int .i64 bb.y2] 50)).cell? ⟨w.heap.size + 1, 1, none⟩ = some (.int .i64 bb.y1) ∧ (w4.alloc (.cells #[.string t, .int .i64 bb.x1, .int .i64 bb.y1, .int .i64 bb.x2, .int .i64 bb.y2] 50)).cell? ⟨w.heap.size + 1, 2, none⟩ = some (.int .i64 bb.x2) ∧ (w4.alloc (.cells #[.string t, .int .i64 bb.x1, .int .i64 bb.y1, .int .i64 bb.x2, .int .i64 bb.y2] 50)).cell? ⟨w.heap.size + 1, 3, none⟩ = some (.int .i64 bb.y2))
    refine rJ 7 fun K hK => ?_
    refine step_append_repX (T := pSymbol) (e := 50) (ys := [⟨t, bb.x1, bb.y1, bb.x2, bb.y2⟩]) (ec := [.string t, .int .i64 bb.x1, .int .i64 bb.y1, .int .i64 bb.x2, .int .i64 bb.y2]) rfl (.tmp 18) (.tmp 24) rfl Try.underlying24 infoSym rfl (by decide) rfl REP.out rfl (repL_pSymbol [⟨t, bb.x1, bb.y1, bb.x2, bb.y2⟩] ok1) (cellsAt_new _ _ _) (by rw [List.append_nil]; exact FR.out.1) (by simp [maxLen]; omega) (by simp; omega) ?_
    intro v6 w6 F6 r6 o6 q6 x6
    have hF6 : w.heap.size + 1 ∉ F6 := fun hin => by
     rcases x6.1 _ hin with h | h
     · exact hnb (by simpa using h)
     · simp at h; omega
    have fr6 : Fresh w.heap.size F6 := q6 w.heap.size (by simpa using FR.out) (by simp; omega)
    replace RB : Row w6 (w.heap.size + 1) 48 [.int .i64 bb.x1, .int .i64 bb.y1, .int .i64 bb.x2, .int .i64 bb.y2] := (o6.block _ RB.lt hnb).trans RB
    replace S4 := S4.only o6 (fun b hb => by have := FR.out.2 b hb; omega)
    have O6 := only_newS O4 o6 (fun x hx => .inr (FR.out.2 x hx))
    have R6 := Lib.hid r6
    have HSM6 : Hid (∀ c ∈ xs ++ [⟨t, bb.x1, bb.y1, bb.x2, bb.y2⟩], SymLe 2000 c) := Lib.hid (fun c hc => by
     rcases List.mem_append.1 hc with hc | hc
     · exact HSM.out c hc
     · simp only [List.mem_singleton] at hc; subst hc; exact hsym)
    obtain ⟨A6, n6, c6, rfl⟩ := slice_form r6
    clear r6 o6 q6 x6
    refine hK.out _ _ ⟨RB.c0, RB.c1, RB.c2, RB.c3⟩ (fun _ => ?_)
    clear hK K
    replace hS := (⟨RB.c0, RB.c1, RB.c2, RB.c3⟩ : w6.cell? ⟨w.heap.size + 1, 0, none⟩ = some (.int .i64 bb.x1) ∧ w6.cell? ⟨w.heap.size + 1, 1, none⟩ = some (.int .i64 bb.y1) ∧ w6.cell? ⟨w.heap.size + 1, 2, none⟩ = some (.int .i64 bb.x2) ∧ w6.cell? ⟨w.heap.size + 1, 3, none⟩ = some (.int .i64 bb.y2))
    refine tJ 8 hS ?_
    refine wpAnyH_done (by kernel_rfl) ?_ _
    clear hS
    have b0 := RB.c0
    have b1 := RB.c1
    have b2 := RB.c2
    have b3 := RB.c3
    have bF := RB.frozen
    have HN := Lib.hid (spec_l20Near_c bb w6 S4 (by omega) (by have := O6.size; omega) HBB.out (by omega))
    clear hos hs4 hlB hlB4 STX S
    go_wp2_with fail
    refine HN.out.mono ?_
    rintro e w7 ⟨b', rfl, hb', S7, O7⟩
    replace RB := row_o RB O7 (by omega)
    have hgF6 : g ∉ F6 := fun hin => by have := fr6.2 g hin; omega
    replace R6 := Lib.hid (R6.out.only O7 (fun b hb hin => by simp at hin; subst hin; exact hgF6 hb))
    replace O7 := O6.trans O7
    have hbf : B ≤ w.heap.size + 1 := by omega
    have HALL := Lib.hid (show (pSymbols 50).rep true _ (xs ++ [⟨t, bb.x1, bb.y1, bb.x2, bb.y2⟩]) [.slice A6 n6 c6] F6 ∧ Fresh w.heap.size F6 ∧ w.heap.size + 1 ∉ F6 ∧ (∀ c ∈ xs ++ [⟨t, bb.x1, bb.y1, bb.x2, bb.y2⟩], SymLe 2000 c) ∧ BoxLe (240 + 200 * (6 - (k - 1) : Nat)) b' ∧ Row _ (w.heap.size + 1) 48 [.int .i64 b'.x1, .int .i64 b'.y1, .int .i64 b'.x2, .int .i64 b'.y2] ∧ SrcIs B g code (m + 1 + 10 * (6 - (k - 1))) _ ∧ Only [g] w _ from ⟨(((R6.out.setCell (p := ⟨w.heap.size + 1, 0, none⟩) hF6 (.int .i64 b'.x1)).setCell (p := ⟨w.heap.size + 1, 1, none⟩) hF6 (.int .i64 b'.y1)).setCell (p := ⟨w.heap.size + 1, 2, none⟩) hF6 (.int .i64 b'.x2)).setCell (p := ⟨w.heap.size + 1, 3, none⟩) hF6 (.int .i64 b'.y2), fr6, hF6, HSM6.out, hb'.mono (by omega), four_cells RB rfl (.int .i64 b'.x1) (.int .i64 b'.y1) (.int .i64 b'.x2) (.int .i64 b'.y2), ((((S7.far (p := ⟨w.heap.size + 1, 0, none⟩) hbf (.int .i64 b'.x1)).far (p := ⟨w.heap.size + 1, 1, none⟩) hbf (.int .i64 b'.y1)).far (p := ⟨w.heap.size + 1, 2, none⟩) hbf (.int .i64 b'.x2)).far (p := ⟨w.heap.size + 1, 3, none⟩) hbf (.int .i64 b'.y2)).more (by omega), (((O7.set_new (p := ⟨w.heap.size + 1, 0, none⟩) (by show _ ≤ w.heap.size + 1; omega) (.int .i64 b'.x1)).set_new (p := ⟨w.heap.size + 1, 1, none⟩) (by show _ ≤ w.heap.size + 1; omega) (.int .i64 b'.y1)).set_new (p := ⟨w.heap.size + 1, 2, none⟩) (by show _ ≤ w.heap.size + 1; omega) (.int .i64 b'.x2)).set_new (p := ⟨w.heap.size + 1, 3, none⟩) (by show _ ≤ w.heap.size + 1; omega) (.int .i64 b'.y2)⟩)
    clear b0 b1 b2 b3 bF
    have b0 := RB.c0
    have b1 := RB.c1
    have b2 := RB.c2
    have b3 := RB.c3
    have bF := RB.frozen
    clear RB S7 S4 R6 O7 O6
    go_wp2_with fail
    go_roundw
    case rel => exact ⟨k - 1, xs ++ [⟨t, bb.x1, bb.y1, bb.x2, bb.y2⟩], .slice A6 n6 c6, F6, b', by go_num, by omega, rfl, by simp; omega, HALL⟩
    case measure => simp [intOf]; omega
  · obtain rfl : k = 0 := by omega
    clear RB S O rep
    go_wp2_with fail
    go_ret
    obtain ⟨rep, fr', hnb', hsm', hbb', RB, S, O⟩ := all.out
    exact ⟨xs, _, G, rfl, rep, fr', by omega, hsm', S.more (by omega), O⟩
end Go.Proofs.Ytmopioaojdlnkaa
