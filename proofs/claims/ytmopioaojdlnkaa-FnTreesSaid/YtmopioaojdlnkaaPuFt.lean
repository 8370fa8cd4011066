/- What laws draw: symbols of an expression. Conditions: none. -/
import Derived.Test.YtmopioaojdlnkaaTkt
import Derived.Test.YtmopioaojdlnkaaPuDt
import Derived.Deep.CutRange
namespace Go.Proofs.Ytmopioaojdlnkaa
open Go Go.RowKit
def cntP : Nat → Nat
 | 0 => 1
 | d + 1 => 2 * cntP d + 1
def farP : Nat → Int
 | 0 => 100
 | d + 1 => 2 * farP d + 30
def rdP : Nat → Nat
 | 0 => 10
 | d + 1 => 2 * rdP d + 20
theorem farP_pos : ∀ d, 100 ≤ farP d
 | 0 => by simp [farP]
 | d + 1 => by have := farP_pos d; simp only [farP]; omega
theorem syms_at {o : Bool} {w : World} {e : TypeId} {xs : List PSymbol} {A : Option Addr} {c : Nat} {F : List Nat} (h : (pSymbols e).rep o w xs [.slice A xs.length c] F) : CellsAt w A (xs.flatMap pSymbolCells) := by
 obtain ⟨A', c', ec, F0, F1, hv, rfl, hl, hc, hr, hlt, ha, ho⟩ := h
 have e1 : Value.slice A xs.length c = .slice A' xs.length c' := by simpa using hv
 rw [Value.slice.injEq] at e1
 obtain ⟨rfl, -, rfl⟩ := e1
 obtain ⟨rfl, -⟩ := repL_pSymbol_inv hr
 intro hpos
 rw [pSymbolCells_len] at hpos
 obtain ⟨b, off, h1, _, h2⟩ := ha (by omega)
 exact ⟨b, off, h1, h2⟩
set_option maxRecDepth 100000 in
set_option maxHeartbeats 16000000 in
theorem spec_l21Place_s {B g NM : Nat} {NL : Int} (hNM : NM ≤ 600000) (hNL : NL ≤ 49000) {code : List UInt8} {d : Nat} (hd : d ≤ 1) (hcnt : cntP d ≤ 7) (hfarU : farP d ≤ 1000) (hrd : rdP d ≤ 200)
 (IH : ∀ {m : Nat} {M x y size : Int} (w : World), SrcIs B g code m w → m ≤ NM → B ≤ w.heap.size → (-M ≤ x ∧ x ≤ M) → (-M ≤ y ∧ y ≤ M) → (0 ≤ size ∧ size ≤ 40) → M ≤ NL → Calls Try.prog 46 #[.pointer (some ⟨g, 0, none⟩), .int .i64 x, .int .i64 y, .int .i64 size, .int .i64 (d : Int)] w (PlacePost (M + farP d) (cntP d) B g (m + rdP d) code w))
 {m : Nat} {M x y size : Int} (w : World) (h : SrcIs B g code m w) (hm : m + 1000 ≤ NM) (hB : B ≤ w.heap.size) (hx : -M ≤ x ∧ x ≤ M) (hy : -M ≤ y ∧ y ≤ M) (hs : 0 ≤ size ∧ size ≤ 40) (hM : M + 9000 ≤ NL) :
 Calls Try.prog 46 #[.pointer (some ⟨g, 0, none⟩), .int .i64 x, .int .i64 y, .int .i64 size, .int .i64 ((d + 1 : Nat) : Int)] w (PlacePost (M + farP (d + 1)) (cntP (d + 1)) B g (m + rdP (d + 1)) code w) := by
 have RO := Row.new w 48 #[.int .i64 0, .int .i64 0, .int .i64 0, .int .i64 0]
 have H1 := Lib.hid (src_pick_c _ (h.alloc (.cells #[.int .i64 0, .int .i64 0, .int .i64 0, .int .i64 0] 48)) (by omega) 7 (by omega))
 have hgw := h.lt
 have O0 : Only [g] w (w.alloc (.cells #[.int .i64 0, .int .i64 0, .int .i64 0, .int .i64 0] 48)) := Only.of_below ((Below.refl _ _).alloc (Nat.le_refl _) _)
 have z0 : (((d + 1 : Nat) : Int) == 0) = false := by simp only [beq_eq_false_iff_ne]; omega
 have z0' : ((d : Int) + 1 == 0) = false := by simp only [beq_eq_false_iff_ne]; omega
 clear h
 go_enter Try.func46, Try.ntmps46
 go_wp2_with fail
 refine H1.out.mono ?_
 rintro e w1 ⟨⟨kd, kd0, kd1, rfl⟩, S1, O1⟩
 replace RO := row_o RO O1 (by omega)
 replace O1 := O0.trans O1
 by_cases hk0 : kd = 0
 · have z1 : (kd == 0) = true := by simpa using hk0
   have hKK : 100 ≤ farP (d + 1) ∧ farP (d + 1) ≤ 50000 := by have := farP_pos (d + 1); simp only [farP] at *; omega
   have hn : 1 ≤ cntP (d + 1) := by simp only [cntP]; omega
   have hmr : m + 10 ≤ m + rdP (d + 1) := by simp only [rdP]; omega
   -- the leaf, in the world w1 behind the choice of the kind
   have e1 := IntWalk.i64_in (size / 2) (by omega)
   have e2 := IntWalk.i64_in (x + size / 2) (by omega)
   have e3 := IntWalk.i64_in (y + size) (by omega)
   have et : size.tdiv 2 = size / 2 := Int.tdiv_eq_ediv_of_nonneg (by omega)
   have hlO := RO.lt
   have hgl := S1.lt
   have RB := Row.new w1 48 #[.int .i64 x, .int .i64 y, .int .i64 (x + size / 2), .int .i64 (y + size)]
   have RO2 := RO.alloc (.cells #[.int .i64 x, .int .i64 y, .int .i64 (x + size / 2), .int .i64 (y + size)] 48)
   have S2 := S1.alloc (.cells #[.int .i64 x, .int .i64 y, .int .i64 (x + size / 2), .int .i64 (y + size)] 48)
   have O2 := O1.alloc (.cells #[.int .i64 x, .int .i64 y, .int .i64 (x + size / 2), .int .i64 (y + size)] 48)
   clear RO S1 O1
   go_upto_region 4 with fail
   generalize w1.alloc (.cells #[.int .i64 x, .int .i64 y, .int .i64 (x + size / 2), .int .i64 (y + size)] 48) = w2 at RB RO2 S2 O2 ⊢
   have hS : (fun w' : World => w'.cell? ⟨w1.heap.size, 0, none⟩ = some (.int .i64 x) ∧ w'.cell? ⟨w1.heap.size, 1, none⟩ = some (.int .i64 y) ∧ w'.cell? ⟨w1.heap.size, 2, none⟩ = some (.int .i64 (x + size / 2)) ∧ w'.cell? ⟨w1.heap.size, 3, none⟩ = some (.int .i64 (y + size))) w2.drew := ⟨RB.c0, RB.c1, RB.c2, RB.c3⟩
   dsimp only at hS
   refine wp_region_held_drew (S := (fun w' : World => w'.cell? ⟨w1.heap.size, 0, none⟩ = some (.int .i64 x) ∧ w'.cell? ⟨w1.heap.size, 1, none⟩ = some (.int .i64 y) ∧ w'.cell? ⟨w1.heap.size, 2, none⟩ = some (.int .i64 (x + size / 2)) ∧ w'.cell? ⟨w1.heap.size, 3, none⟩ = some (.int .i64 (y + size)))) (by kernel_rfl) hS (fun _ => ?_)
   refine tJ 0 hS ?_
   refine tJ 3 hS ?_
   refine tJ 6 hS ?_
   refine rJ 1 fun K hK => ?_
   go_simp
   have hlB := RB.lt
   refine hK.out _ _ ⟨past_drew _ hlB (RB.c0), past_drew _ hlB (RB.c1), past_drew _ hlB (RB.c2), past_drew _ hlB (RB.c3)⟩ (fun _ => ?_)
   clear hK K
   have STX := placeTexts_at w2
   have hg2 := S2.lt
   replace RB := (RB.alloc (.cells (placeTexts.map Value.string).toArray 9)).drew
   replace RO2 := (RO2.alloc (.cells (placeTexts.map Value.string).toArray 9)).drew
   replace S2 := (S2.alloc (.cells (placeTexts.map Value.string).toArray 9)).drew'
   replace O2 := (O2.alloc (.cells (placeTexts.map Value.string).toArray 9)).drew
   replace hS := (⟨RB.c0, RB.c1, RB.c2, RB.c3⟩ : (w2.alloc (.cells (placeTexts.map Value.string).toArray 9)).drew.cell? ⟨w1.heap.size, 0, none⟩ = some (.int .i64 x) ∧ (w2.alloc (.cells (placeTexts.map Value.string).toArray 9)).drew.cell? ⟨w1.heap.size, 1, none⟩ = some (.int .i64 y) ∧ (w2.alloc (.cells (placeTexts.map Value.string).toArray 9)).drew.cell? ⟨w1.heap.size, 2, none⟩ = some (.int .i64 (x + size / 2)) ∧ (w2.alloc (.cells (placeTexts.map Value.string).toArray 9)).drew.cell? ⟨w1.heap.size, 3, none⟩ = some (.int .i64 (y + size)))
   refine rJ 2 fun K hK => ?_
   refine step_call 62 #[.tmp 48, .tmp 49] _ rfl rfl #[.pointer (some ⟨g, 0, none⟩), .slice (some ⟨w2.heap.size, 0, none⟩) 7 7] Try.call62 (by go_simp) (src_text_c _ S2 (by omega) STX.drew (by simp; omega) (by decide) (by decide)) ?_
   rintro e w4 ⟨⟨t, ht, rfl⟩, S4, O4⟩
   refine ⟨_, rfl, ?_⟩
   have htz := placeTexts_small t ht
   replace RB := row_o RB O4 (by omega)
   replace RO2 := row_o RO2 O4 (by omega)
   replace O4 := O2.trans O4
   replace hS := (⟨RB.c0, RB.c1, RB.c2, RB.c3⟩ : w4.cell? ⟨w1.heap.size, 0, none⟩ = some (.int .i64 x) ∧ w4.cell? ⟨w1.heap.size, 1, none⟩ = some (.int .i64 y) ∧ w4.cell? ⟨w1.heap.size, 2, none⟩ = some (.int .i64 (x + size / 2)) ∧ w4.cell? ⟨w1.heap.size, 3, none⟩ = some (.int .i64 (y + size)))
   refine bJ hK hS ?_
   clear hK K
   simp only [Act.put, pA, pB, pC]
   refine tJ 4 hS ?_
   refine rJ 5 fun K hK => ?_
   go_simp
   have hlB4 := RB.lt
   have hs4 := O4.size
   have hlO4 := RO2.lt
   refine hK.out _ _ ⟨past_drew _ hlB4 (RB.c0), past_drew _ hlB4 (RB.c1), past_drew _ hlB4 (RB.c2), past_drew _ hlB4 (RB.c3)⟩ (fun _ => ?_)
   clear hK K
   have hsym : SymLe (M + farP (d + 1)) ⟨t, x, y, x + size / 2, y + size⟩ := ⟨by unfold BoxLe boxOf; dsimp only; omega, by show t.size ≤ 8; omega⟩
   have N4 : (pSymbols 50).rep true (w4.alloc (.cells #[.string t, .int .i64 x, .int .i64 y, .int .i64 (x + size / 2), .int .i64 (y + size)] 50)) [⟨t, x, y, x + size / 2, y + size⟩] [.slice (some ⟨w4.heap.size, 0, none⟩) 1 1] [w4.heap.size] :=
    slice_of_row (xs := [(⟨t, x, y, x + size / 2, y + size⟩ : PSymbol)]) (Row.new w4 _ #[.string t, .int .i64 x, .int .i64 y, .int .i64 (x + size / 2), .int .i64 (y + size)]) (repL_pSymbol [(⟨t, x, y, x + size / 2, y + size⟩ : PSymbol)] (fun s hs => by simp only [List.mem_singleton] at hs; subst hs; exact hsym.ok (by omega))) (by simp [maxLen])
   replace RB := RB.alloc (.cells #[.string t, .int .i64 x, .int .i64 y, .int .i64 (x + size / 2), .int .i64 (y + size)] 50)
   replace RO2 := RO2.alloc (.cells #[.string t, .int .i64 x, .int .i64 y, .int .i64 (x + size / 2), .int .i64 (y + size)] 50)
   replace S4 := S4.alloc (.cells #[.string t, .int .i64 x, .int .i64 y, .int .i64 (x + size / 2), .int .i64 (y + size)] 50)
   replace O4 := O4.alloc (.cells #[.string t, .int .i64 x, .int .i64 y, .int .i64 (x + size / 2), .int .i64 (y + size)] 50)
   replace hS := (⟨RB.c0, RB.c1, RB.c2, RB.c3⟩ : (w4.alloc (.cells #[.string t, .int .i64 x, .int .i64 y, .int .i64 (x + size / 2), .int .i64 (y + size)] 50)).cell? ⟨w1.heap.size, 0, none⟩ = some (.int .i64 x) ∧ (w4.alloc (.cells #[.string t, .int .i64 x, .int .i64 y, .int .i64 (x + size / 2), .int .i64 (y + size)] 50)).cell? ⟨w1.heap.size, 1, none⟩ = some (.int .i64 y) ∧ (w4.alloc (.cells #[.string t, .int .i64 x, .int .i64 y, .int .i64 (x + size / 2), .int .i64 (y + size)] 50)).cell? ⟨w1.heap.size, 2, none⟩ = some (.int .i64 (x + size / 2)) ∧ (w4.alloc (.cells #[.string t, .int .i64 x, .int .i64 y, .int .i64 (x + size / 2), .int .i64 (y + size)] 50)).cell? ⟨w1.heap.size, 3, none⟩ = some (.int .i64 (y + size)))
   refine tJ 7 hS ?_
   refine rJ 8 fun K hK => ?_
   have u0 := RO2.c0
   have u1 := RO2.c1
   have u2 := RO2.c2
   have u3 := RO2.c3
   have uF := RO2.frozen
   generalize hw5 : w4.alloc (.cells #[.string t, .int .i64 x, .int .i64 y, .int .i64 (x + size / 2), .int .i64 (y + size)] 50) = w5 at RB RO2 S4 O4 N4 hS u0 u1 u2 u3 uF ⊢
   go_simp
   have vne : w1.heap.size ≠ w.heap.size := by omega
   refine hK.out _ _ ⟨(cell_farU vne _ _ _ _).trans hS.1, (cell_farU vne _ _ _ _).trans hS.2.1, (cell_farU vne _ _ _ _).trans hS.2.2.1, (cell_farU vne _ _ _ _).trans hS.2.2.2⟩ (fun _ => ?_)
   clear hK K hS
   refine wpAnyH_done (by kernel_rfl) ?_ _
   have RR := four_cells RO2 rfl (.int .i64 x) (.int .i64 y) (.int .i64 (x + size / 2)) (.int .i64 (y + size))
   have d0 := RR.c0
   have d1 := RR.c1
   have d2 := RR.c2
   have d3 := RR.c3
   have hnb : w.heap.size ∉ [w4.heap.size] := by simp; omega
   have N5 := (((N4.setCell (p := ⟨w.heap.size, 0, none⟩) hnb (.int .i64 x)).setCell (p := ⟨w.heap.size, 1, none⟩) hnb (.int .i64 y)).setCell (p := ⟨w.heap.size, 2, none⟩) hnb (.int .i64 (x + size / 2))).setCell (p := ⟨w.heap.size, 3, none⟩) hnb (.int .i64 (y + size))
   have O5 := (((O4.set_new (p := ⟨w.heap.size, 0, none⟩) (Nat.le_refl _) (.int .i64 x)).set_new (p := ⟨w.heap.size, 1, none⟩) (Nat.le_refl _) (.int .i64 y)).set_new (p := ⟨w.heap.size, 2, none⟩) (Nat.le_refl _) (.int .i64 (x + size / 2))).set_new (p := ⟨w.heap.size, 3, none⟩) (Nat.le_refl _) (.int .i64 (y + size))
   have S5 := (((S4.far (p := ⟨w.heap.size, 0, none⟩) hB (.int .i64 x)).far (p := ⟨w.heap.size, 1, none⟩) hB (.int .i64 y)).far (p := ⟨w.heap.size, 2, none⟩) hB (.int .i64 (x + size / 2))).far (p := ⟨w.heap.size, 3, none⟩) hB (.int .i64 (y + size))
   clear RR RO2 RB N4 O4 S4 u0 u1 u2 u3 uF
   go_wp2_with fail
   refine bodyPost_ret (v := .tuple #[.slice (some ⟨w4.heap.size, 0, none⟩) 1 1, .agg #[.int .i64 x, .int .i64 y, .int .i64 (x + size / 2), .int .i64 (y + size)]]) (by simp [results, Try.results46, go_sem, d0, d1, d2, d3]) rfl ⟨[⟨t, x, y, x + size / 2, y + size⟩], _, _, ⟨x, y, x + size / 2, y + size⟩, rfl, N5, ⟨by simp, by intro b hb; simp at hb; omega⟩, by simp, by simpa using hn, fun c hc => by simp only [List.mem_singleton] at hc; subst hc; exact hsym, by unfold BoxLe; dsimp only; omega, S5.more (by omega), O5⟩
 · have z1 : (kd == 0) = false := by simpa using hk0
   by_cases h12 : size < 12
   · have hKK : 100 ≤ farP (d + 1) ∧ farP (d + 1) ≤ 50000 := by have := farP_pos (d + 1); simp only [farP] at *; omega
     have hn : 1 ≤ cntP (d + 1) := by simp only [cntP]; omega
     have hmr : m + 10 ≤ m + rdP (d + 1) := by simp only [rdP]; omega
     -- the leaf, in the world w1 behind the choice of the kind
     have e1 := IntWalk.i64_in (size / 2) (by omega)
     have e2 := IntWalk.i64_in (x + size / 2) (by omega)
     have e3 := IntWalk.i64_in (y + size) (by omega)
     have et : size.tdiv 2 = size / 2 := Int.tdiv_eq_ediv_of_nonneg (by omega)
     have hlO := RO.lt
     have hgl := S1.lt
     have RB := Row.new w1 48 #[.int .i64 x, .int .i64 y, .int .i64 (x + size / 2), .int .i64 (y + size)]
     have RO2 := RO.alloc (.cells #[.int .i64 x, .int .i64 y, .int .i64 (x + size / 2), .int .i64 (y + size)] 48)
     have S2 := S1.alloc (.cells #[.int .i64 x, .int .i64 y, .int .i64 (x + size / 2), .int .i64 (y + size)] 48)
     have O2 := O1.alloc (.cells #[.int .i64 x, .int .i64 y, .int .i64 (x + size / 2), .int .i64 (y + size)] 48)
     clear RO S1 O1
     go_upto_region 4 with fail
     generalize w1.alloc (.cells #[.int .i64 x, .int .i64 y, .int .i64 (x + size / 2), .int .i64 (y + size)] 48) = w2 at RB RO2 S2 O2 ⊢
     have hS : (fun w' : World => w'.cell? ⟨w1.heap.size, 0, none⟩ = some (.int .i64 x) ∧ w'.cell? ⟨w1.heap.size, 1, none⟩ = some (.int .i64 y) ∧ w'.cell? ⟨w1.heap.size, 2, none⟩ = some (.int .i64 (x + size / 2)) ∧ w'.cell? ⟨w1.heap.size, 3, none⟩ = some (.int .i64 (y + size))) w2.drew := ⟨RB.c0, RB.c1, RB.c2, RB.c3⟩
     dsimp only at hS
     refine wp_region_held_drew (S := (fun w' : World => w'.cell? ⟨w1.heap.size, 0, none⟩ = some (.int .i64 x) ∧ w'.cell? ⟨w1.heap.size, 1, none⟩ = some (.int .i64 y) ∧ w'.cell? ⟨w1.heap.size, 2, none⟩ = some (.int .i64 (x + size / 2)) ∧ w'.cell? ⟨w1.heap.size, 3, none⟩ = some (.int .i64 (y + size)))) (by kernel_rfl) hS (fun _ => ?_)
     refine tJ 0 hS ?_
     refine tJ 3 hS ?_
     refine tJ 6 hS ?_
     refine rJ 1 fun K hK => ?_
     go_simp
     have hlB := RB.lt
     refine hK.out _ _ ⟨past_drew _ hlB (RB.c0), past_drew _ hlB (RB.c1), past_drew _ hlB (RB.c2), past_drew _ hlB (RB.c3)⟩ (fun _ => ?_)
     clear hK K
     have STX := placeTexts_at w2
     have hg2 := S2.lt
     replace RB := (RB.alloc (.cells (placeTexts.map Value.string).toArray 9)).drew
     replace RO2 := (RO2.alloc (.cells (placeTexts.map Value.string).toArray 9)).drew
     replace S2 := (S2.alloc (.cells (placeTexts.map Value.string).toArray 9)).drew'
     replace O2 := (O2.alloc (.cells (placeTexts.map Value.string).toArray 9)).drew
     replace hS := (⟨RB.c0, RB.c1, RB.c2, RB.c3⟩ : (w2.alloc (.cells (placeTexts.map Value.string).toArray 9)).drew.cell? ⟨w1.heap.size, 0, none⟩ = some (.int .i64 x) ∧ (w2.alloc (.cells (placeTexts.map Value.string).toArray 9)).drew.cell? ⟨w1.heap.size, 1, none⟩ = some (.int .i64 y) ∧ (w2.alloc (.cells (placeTexts.map Value.string).toArray 9)).drew.cell? ⟨w1.heap.size, 2, none⟩ = some (.int .i64 (x + size / 2)) ∧ (w2.alloc (.cells (placeTexts.map Value.string).toArray 9)).drew.cell? ⟨w1.heap.size, 3, none⟩ = some (.int .i64 (y + size)))
     refine rJ 2 fun K hK => ?_
     refine step_call 62 #[.tmp 48, .tmp 49] _ rfl rfl #[.pointer (some ⟨g, 0, none⟩), .slice (some ⟨w2.heap.size, 0, none⟩) 7 7] Try.call62 (by go_simp) (src_text_c _ S2 (by omega) STX.drew (by simp; omega) (by decide) (by decide)) ?_
     rintro e w4 ⟨⟨t, ht, rfl⟩, S4, O4⟩
     refine ⟨_, rfl, ?_⟩
     have htz := placeTexts_small t ht
     replace RB := row_o RB O4 (by omega)
     replace RO2 := row_o RO2 O4 (by omega)
     replace O4 := O2.trans O4
     replace hS := (⟨RB.c0, RB.c1, RB.c2, RB.c3⟩ : w4.cell? ⟨w1.heap.size, 0, none⟩ = some (.int .i64 x) ∧ w4.cell? ⟨w1.heap.size, 1, none⟩ = some (.int .i64 y) ∧ w4.cell? ⟨w1.heap.size, 2, none⟩ = some (.int .i64 (x + size / 2)) ∧ w4.cell? ⟨w1.heap.size, 3, none⟩ = some (.int .i64 (y + size)))
     refine bJ hK hS ?_
     clear hK K
     simp only [Act.put, pA, pB, pC]
     refine tJ 4 hS ?_
     refine rJ 5 fun K hK => ?_
     go_simp
     have hlB4 := RB.lt
     have hs4 := O4.size
     have hlO4 := RO2.lt
     refine hK.out _ _ ⟨past_drew _ hlB4 (RB.c0), past_drew _ hlB4 (RB.c1), past_drew _ hlB4 (RB.c2), past_drew _ hlB4 (RB.c3)⟩ (fun _ => ?_)
     clear hK K
     have hsym : SymLe (M + farP (d + 1)) ⟨t, x, y, x + size / 2, y + size⟩ := ⟨by unfold BoxLe boxOf; dsimp only; omega, by show t.size ≤ 8; omega⟩
     have N4 : (pSymbols 50).rep true (w4.alloc (.cells #[.string t, .int .i64 x, .int .i64 y, .int .i64 (x + size / 2), .int .i64 (y + size)] 50)) [⟨t, x, y, x + size / 2, y + size⟩] [.slice (some ⟨w4.heap.size, 0, none⟩) 1 1] [w4.heap.size] :=
      slice_of_row (xs := [(⟨t, x, y, x + size / 2, y + size⟩ : PSymbol)]) (Row.new w4 _ #[.string t, .int .i64 x, .int .i64 y, .int .i64 (x + size / 2), .int .i64 (y + size)]) (repL_pSymbol [(⟨t, x, y, x + size / 2, y + size⟩ : PSymbol)] (fun s hs => by simp only [List.mem_singleton] at hs; subst hs; exact hsym.ok (by omega))) (by simp [maxLen])
     replace RB := RB.alloc (.cells #[.string t, .int .i64 x, .int .i64 y, .int .i64 (x + size / 2), .int .i64 (y + size)] 50)
     replace RO2 := RO2.alloc (.cells #[.string t, .int .i64 x, .int .i64 y, .int .i64 (x + size / 2), .int .i64 (y + size)] 50)
     replace S4 := S4.alloc (.cells #[.string t, .int .i64 x, .int .i64 y, .int .i64 (x + size / 2), .int .i64 (y + size)] 50)
     replace O4 := O4.alloc (.cells #[.string t, .int .i64 x, .int .i64 y, .int .i64 (x + size / 2), .int .i64 (y + size)] 50)
     replace hS := (⟨RB.c0, RB.c1, RB.c2, RB.c3⟩ : (w4.alloc (.cells #[.string t, .int .i64 x, .int .i64 y, .int .i64 (x + size / 2), .int .i64 (y + size)] 50)).cell? ⟨w1.heap.size, 0, none⟩ = some (.int .i64 x) ∧ (w4.alloc (.cells #[.string t, .int .i64 x, .int .i64 y, .int .i64 (x + size / 2), .int .i64 (y + size)] 50)).cell? ⟨w1.heap.size, 1, none⟩ = some (.int .i64 y) ∧ (w4.alloc (.cells #[.string t, .int .i64 x, .int .i64 y, .int .i64 (x + size / 2), .int .i64 (y + size)] 50)).cell? ⟨w1.heap.size, 2, none⟩ = some (.int .i64 (x + size / 2)) ∧ (w4.alloc (.cells #[.string t, .int .i64 x, .int .i64 y, .int .i64 (x + size / 2), .int .i64 (y + size)] 50)).cell? ⟨w1.heap.size, 3, none⟩ = some (.int .i64 (y + size)))
     refine tJ 7 hS ?_
     refine rJ 8 fun K hK => ?_
     have u0 := RO2.c0
     have u1 := RO2.c1
     have u2 := RO2.c2
     have u3 := RO2.c3
     have uF := RO2.frozen
     generalize hw5 : w4.alloc (.cells #[.string t, .int .i64 x, .int .i64 y, .int .i64 (x + size / 2), .int .i64 (y + size)] 50) = w5 at RB RO2 S4 O4 N4 hS u0 u1 u2 u3 uF ⊢
     go_simp
     have vne : w1.heap.size ≠ w.heap.size := by omega
     refine hK.out _ _ ⟨(cell_farU vne _ _ _ _).trans hS.1, (cell_farU vne _ _ _ _).trans hS.2.1, (cell_farU vne _ _ _ _).trans hS.2.2.1, (cell_farU vne _ _ _ _).trans hS.2.2.2⟩ (fun _ => ?_)
     clear hK K hS
     refine wpAnyH_done (by kernel_rfl) ?_ _
     have RR := four_cells RO2 rfl (.int .i64 x) (.int .i64 y) (.int .i64 (x + size / 2)) (.int .i64 (y + size))
     have d0 := RR.c0
     have d1 := RR.c1
     have d2 := RR.c2
     have d3 := RR.c3
     have hnb : w.heap.size ∉ [w4.heap.size] := by simp; omega
     have N5 := (((N4.setCell (p := ⟨w.heap.size, 0, none⟩) hnb (.int .i64 x)).setCell (p := ⟨w.heap.size, 1, none⟩) hnb (.int .i64 y)).setCell (p := ⟨w.heap.size, 2, none⟩) hnb (.int .i64 (x + size / 2))).setCell (p := ⟨w.heap.size, 3, none⟩) hnb (.int .i64 (y + size))
     have O5 := (((O4.set_new (p := ⟨w.heap.size, 0, none⟩) (Nat.le_refl _) (.int .i64 x)).set_new (p := ⟨w.heap.size, 1, none⟩) (Nat.le_refl _) (.int .i64 y)).set_new (p := ⟨w.heap.size, 2, none⟩) (Nat.le_refl _) (.int .i64 (x + size / 2))).set_new (p := ⟨w.heap.size, 3, none⟩) (Nat.le_refl _) (.int .i64 (y + size))
     have S5 := (((S4.far (p := ⟨w.heap.size, 0, none⟩) hB (.int .i64 x)).far (p := ⟨w.heap.size, 1, none⟩) hB (.int .i64 y)).far (p := ⟨w.heap.size, 2, none⟩) hB (.int .i64 (x + size / 2))).far (p := ⟨w.heap.size, 3, none⟩) hB (.int .i64 (y + size))
     clear RR RO2 RB N4 O4 S4 u0 u1 u2 u3 uF
     go_wp2_with fail
     refine bodyPost_ret (v := .tuple #[.slice (some ⟨w4.heap.size, 0, none⟩) 1 1, .agg #[.int .i64 x, .int .i64 y, .int .i64 (x + size / 2), .int .i64 (y + size)]]) (by simp [results, Try.results46, go_sem, d0, d1, d2, d3]) rfl ⟨[⟨t, x, y, x + size / 2, y + size⟩], _, _, ⟨x, y, x + size / 2, y + size⟩, rfl, N5, ⟨by simp, by intro b hb; simp at hb; omega⟩, by simp, by simpa using hn, fun c hc => by simp only [List.mem_singleton] at hc; subst hc; exact hsym, by unfold BoxLe; dsimp only; omega, S5.more (by omega), O5⟩
   · by_cases h3 : kd ≤ 3
     · have e5 : IntKind.i64.wrap (((d + 1 : Nat) : Int) - 1) = (d : Int) := by rw [IntWalk.i64_in _ (by omega)]; omega
       have e5' : IntKind.i64.wrap ((d : Int) + 1 - 1) = (d : Int) := by rw [IntWalk.i64_in _ (by omega)]; omega
       have e5'' : IntKind.i64.wrap (d : Int) = (d : Int) := IntWalk.i64_in _ (by omega)
       have CI := Lib.hid (IH w1 S1 (by omega) (by have := O1.size; omega) hx hy hs (by omega))
       have hfar := farP_pos d
       have hs1 := O1.size
       clear S1
       go_wp2_with fail
       refine CI.out.mono ?_
       rintro e w2 ⟨az, va, GA, p, rfl, repA, frA, la1, la2, smA, bp, S2, O2⟩
       obtain ⟨UA, cA, rfl⟩ := slice_len repA
       have hgA : g ∉ GA := fun hin => by have := frA.2 g hin; omega
       have hlA : ∀ b ∈ GA, b < w2.heap.size := fun b hb => (pSymbols _).lt repA b hb
       have hlO := RO.lt
       have hs12 := O2.size
       replace RO := row_o RO O2 (by omega)
       replace O2 := O1.trans O2
       have RP := Row.new w2 48 #[.int .i64 p.x1, .int .i64 p.y1, .int .i64 p.x2, .int .i64 p.y2]
       have REPA := Lib.hid (repA.alloc (.cells #[.int .i64 p.x1, .int .i64 p.y1, .int .i64 p.x2, .int .i64 p.y2] 48))
       replace RO := RO.alloc (.cells #[.int .i64 p.x1, .int .i64 p.y1, .int .i64 p.x2, .int .i64 p.y2] 48)
       have S3 := S2.alloc (.cells #[.int .i64 p.x1, .int .i64 p.y1, .int .i64 p.x2, .int .i64 p.y2] 48)
       have O3 := O2.alloc (.cells #[.int .i64 p.x1, .int .i64 p.y1, .int .i64 p.x2, .int .i64 p.y2] 48)
       have FRA := Lib.hid frA
       have SMA := Lib.hid smA
       have hbp := bp
       unfold BoxLe at hbp
       have hg2 := S2.lt
       have hl2O : w.heap.size < w2.heap.size := by omega
       clear repA frA smA S2 O2
       go_upto_region 6 with fail
       generalize hw3 : w2.alloc (.cells #[.int .i64 p.x1, .int .i64 p.y1, .int .i64 p.x2, .int .i64 p.y2] 48) = w3 at RP REPA RO S3 O3 ⊢
       have hw3s : w2.heap.size < w3.heap.size := RP.lt
       generalize w2.heap.size = bP at RP hlA hg2 hl2O hw3s ⊢
       clear hw3
       have k123 : kd = 1 ∨ kd = 2 ∨ kd = 3 := by omega
       have y1 : (kd == 1) = decide (kd = 1) := rfl
       go_upto_region 7 with fail
       go_cut [66, 67] from 66 to 67 (fun s66 s67 wx => s66 = .bool (kd == 1) ∧ wx = w3)
       case first =>
        go_wp2_with fail
        go_meet
        exact ⟨rfl, rfl⟩
       case rest =>
       obtain ⟨rfl, hwc⟩ := hcut
       rw [hwc]
       clear hwc
       apply_assumption
       go_cut [66, 68, 69] from 66 to 69 (fun s66 s68 s69 wx => s66 = .bool true ∧ wx = w3)
       case first =>
        rcases k123 with hk | hk | hk
        · subst hk
          go_wp2_with fail
          go_meet
          exact ⟨rfl, rfl⟩
        · subst hk
          go_wp2_with fail
          go_meet
          exact ⟨rfl, rfl⟩
        · subst hk
          go_wp2_with fail
          go_meet
          exact ⟨rfl, rfl⟩
       case rest =>
        obtain ⟨rfl, hwc⟩ := hcut
        rw [hwc]
        clear hwc
        go_upto_region 10 with fail
        go_cut [16, 17] from 71 to 88 (fun s16 s17 wx => ∃ (bs : List PSymbol) (UB : Option Addr) (cB : Nat) (GB : List Nat) (q : PBox) (bQ : Nat), s16 = .slice UB bs.length cB ∧ s17 = .pointer (some ⟨bQ, 0, none⟩) ∧ Hid (Row wx bP 48 [.int .i64 p.x1, .int .i64 p.y1, .int .i64 p.x2, .int .i64 p.y2] ∧ Row wx bQ 48 [.int .i64 q.x1, .int .i64 q.y1, .int .i64 q.x2, .int .i64 q.y2] ∧ Row wx w.heap.size 48 [.int .i64 0, .int .i64 0, .int .i64 0, .int .i64 0] ∧ (pSymbols 50).rep true wx az [.slice UA az.length cA] GA ∧ (pSymbols 50).rep true wx bs [.slice UB bs.length cB] GB) ∧ Hid (bs.length ≤ cntP d ∧ (∀ c ∈ bs, SymLe (M + farP d + 10 + farP d) c) ∧ BoxLe (M + farP d + 10 + farP d) q ∧ SrcIs B g code (m + 3 + rdP d + rdP d) wx ∧ Only [g] w wx) ∧ bQ ∉ GA ∧ bP < bQ ∧ g < bQ ∧ w3.heap.size ≤ wx.heap.size ∧ (∀ b ∈ GB, w3.heap.size ≤ b))
        case first =>
         have hS : (fun w' : World => w'.cell? ⟨bP, 2, none⟩ = some (.int .i64 p.x2)) w3.drew := RP.c2
         dsimp only at hS
         refine wp_region_held_drew (S := (fun w' : World => w'.cell? ⟨bP, 2, none⟩ = some (.int .i64 p.x2))) (by kernel_rfl) hS (fun _ => ?_)
         refine tJ 0 hS ?_
         refine tJ 1 hS ?_
         refine tJ 2 hS ?_
         refine tJ 3 hS ?_
         refine tJ 4 hS ?_
         refine tJ 7 hS ?_
         refine tJ 8 hS ?_
         refine tJ 12 hS ?_
         refine tJ 13 hS ?_
         refine tJ 14 hS ?_
         refine rJ2 5 19 (fun K hK => ?_) (fun K hK => ?_)
         · skip
           refine step_call 56 #[.tmp 75, .const (.int .i64 5)] _ rfl rfl #[.pointer (some ⟨g, 0, none⟩), .int .i64 5] Try.call56 (by go_simp) (src_pick_c _ S3.drew' (by omega) 5 (by omega)) ?_
           rintro e w4 ⟨⟨r, r0, r1, rfl⟩, S4, O4⟩
           refine ⟨_, rfl, ?_⟩
           replace RP := RP.drew
           replace RO := RO.drew
           replace REPA := Lib.hid REPA.out.drew
           replace RP := row_o RP O4 (by omega)
           replace RO := row_o RO O4 (by omega)
           replace REPA := Lib.hid (REPA.out.only O4 (fun b hb hin => by simp at hin; subst hin; exact hgA hb))
           have hzO4 : w3.heap.size ≤ w4.heap.size := O4.size
           replace O4 := O3.drew.trans O4
           have e1 := IntWalk.i64_in (p.x2 + 2) (by omega)
           have e2 := IntWalk.i64_in (p.x2 + 2 + r) (by omega)
           replace hS := (RP.c2 : w4.cell? ⟨bP, 2, none⟩ = some (.int .i64 p.x2))
           refine bJ hK hS ?_
           clear hK K
           simp only [Act.put, pA, pB, pC]
           refine tJ 6 hS ?_
           refine rJ2 9 19 (fun K hK => ?_) (fun K hK => ?_)
           · skip
             refine step_call 56 #[.tmp 79, .const (.int .i64 5)] _ rfl rfl #[.pointer (some ⟨g, 0, none⟩), .int .i64 5] Try.call56 (by go_simp) (src_pick_c _ S4 (by omega) 5 (by omega)) ?_
             rintro e w5 ⟨⟨r', r0', r1', rfl⟩, S5, O5⟩
             refine ⟨_, rfl, ?_⟩
             replace RP := row_o RP O5 (by omega)
             replace RO := row_o RO O5 (by omega)
             replace REPA := Lib.hid (REPA.out.only O5 (fun b hb hin => by simp at hin; subst hin; exact hgA hb))
             have hzO5 : w4.heap.size ≤ w5.heap.size := O5.size
             replace O5 := O4.trans O5
             have e3 := IntWalk.i64_in (y + r') (by omega)
             have e4 := IntWalk.i64_in (y + r' - 2) (by omega)
             replace hS := (RP.c2 : w5.cell? ⟨bP, 2, none⟩ = some (.int .i64 p.x2))
             refine bJ hK hS ?_
             clear hK K
             simp only [Act.put, pA, pB, pC]
             refine tJ 10 hS ?_
             refine tJ 11 hS ?_
             refine rJ2 15 19 (fun K hK => ?_) (fun K hK => ?_)
             · skip
               refine step_call 46 #[.tmp 71, .tmp 77, .tmp 82, .tmp 83, .tmp 85] _ rfl rfl #[.pointer (some ⟨g, 0, none⟩), .int .i64 (p.x2 + 2 + r), .int .i64 (y + r' - 2), .int .i64 size, .int .i64 (d : Int)] Try.call46 (by go_simp) (IH (m := m + 1 + rdP d + 1 + 1) (M := M + farP d + 10) (x := p.x2 + 2 + r) (y := y + r' - 2) (size := size) w5 (S5.more (by omega)) (by omega) (by have := O5.size; omega) (by omega) (by omega) hs (by omega)) ?_
               rintro e w6a ⟨bs, vb, GB, q, rfl, repB, frB, lb1, lb2, smB, bq, S6, O6⟩
               refine ⟨_, rfl, ?_⟩
               replace RP := row_o RP O6 (by omega)
               replace RO := row_o RO O6 (by omega)
               replace REPA := Lib.hid (REPA.out.only O6 (fun b hb hin => by simp at hin; subst hin; exact hgA hb))
               have hzO6 : w5.heap.size ≤ w6a.heap.size := O6.size
               replace O6 := O5.trans O6
               obtain ⟨UB, cB, rfl⟩ := slice_len repB
               have hlB : ∀ b ∈ GB, b < w6a.heap.size := fun b hb => (pSymbols _).lt repB b hb
               have frB2 := frB.2
               have REPB := Lib.hid repB
               have SMB := Lib.hid smB
               replace hS := (RP.c2 : w6a.cell? ⟨bP, 2, none⟩ = some (.int .i64 p.x2))
               refine bJ hK hS ?_
               clear hK K
               simp only [Act.put, pA, pB, pC]
               refine tJ 16 hS ?_
               refine tJ 17 hS ?_
               refine tJ 18 hS ?_
               refine rJ 19 fun K hK => ?_
               go_simp
               have hlP := RP.lt
               refine hK.out _ _ ?_ (fun _ => ?_)
               · exact (World.cell?_alloc_past (w := w6a) _ _ _ hlP).trans (RP.c2)
               clear hK K
               have RZ := (Row.new w6a 48 #[.int .i64 0, .int .i64 0, .int .i64 0, .int .i64 0])
               replace RP := (RP.alloc (.cells #[.int .i64 0, .int .i64 0, .int .i64 0, .int .i64 0] 48))
               replace RO := (RO.alloc (.cells #[.int .i64 0, .int .i64 0, .int .i64 0, .int .i64 0] 48))
               replace REPA := Lib.hid (REPA.out.alloc (.cells #[.int .i64 0, .int .i64 0, .int .i64 0, .int .i64 0] 48))
               replace REPB := Lib.hid (REPB.out.alloc (.cells #[.int .i64 0, .int .i64 0, .int .i64 0, .int .i64 0] 48))
               have S6z := (S6.alloc (.cells #[.int .i64 0, .int .i64 0, .int .i64 0, .int .i64 0] 48))
               have O6z := (O6.alloc (.cells #[.int .i64 0, .int .i64 0, .int .i64 0, .int .i64 0] 48))
               have hzA := O6.size
               replace hS := (RP.c2 : (w6a.alloc (.cells #[.int .i64 0, .int .i64 0, .int .i64 0, .int .i64 0] 48)).cell? ⟨bP, 2, none⟩ = some (.int .i64 p.x2))
               have hbz : w3.heap.size ≤ w6a.heap.size := by omega
               have nZA : w6a.heap.size ∉ GA := fun hin => by have := hlA _ hin; omega
               have nZB : w6a.heap.size ∉ GB := fun hin => by have := hlB _ hin; omega
               have hwz : w6a.heap.size < (w6a.alloc (.cells #[.int .i64 0, .int .i64 0, .int .i64 0, .int .i64 0] 48)).heap.size := by simp
               generalize hbZ : w6a.heap.size = bZ at RZ nZA hwz hbz nZB ⊢
               generalize (w6a.alloc (.cells #[.int .i64 0, .int .i64 0, .int .i64 0, .int .i64 0] 48)) = WA3 at RP RO REPA RZ S6z O6z hS hwz REPB ⊢
               skip
               have v0 := RZ.c0
               have v1 := RZ.c1
               have v2 := RZ.c2
               have v3 := RZ.c3
               have vF := RZ.frozen
               refine tJ 20 hS ?_
               refine rJ 21 fun K hK => ?_
               have hzZ : w3.heap.size ≤ WA3.heap.size := by omega
               have lRZ := RZ.lt
               generalize hWZ : WA3 = WZ at RP RO REPA REPB RZ S6z O6z hS v0 v1 v2 v3 vF hzZ lRZ ⊢
               go_simp
               have zne : bP ≠ bZ := by omega
               refine hK.out _ _ ?_ (fun _ => ?_)
               · exact (cell_farU zne _ _ _ _).trans hS
               clear hK K hS
               refine wpAnyH_done (by kernel_rfl) ?_ _
               go_wp2_with fail
               go_meet
               refine ⟨bs, UB, cB, GB, q, bZ, rfl, rfl, Lib.hid ⟨RP.far4 (by omega) _ _ _ _, four_cells RZ rfl _ _ _ _, RO.far4 (by omega) _ _ _ _, ?_, ?_⟩, Lib.hid ⟨lb2, fun c hc => SMB.out c hc, bq, ?_, ?_⟩, by simpa using nZA, by omega, by omega, ?_, ?_⟩
               · exact (((REPA.out.setCell nZA _).setCell nZA _).setCell nZA _).setCell nZA _
               · exact (((REPB.out.setCell nZB _).setCell nZB _).setCell nZB _).setCell nZB _
               · exact ((((S6z.far (by show B ≤ bZ; omega) _).far (by show B ≤ bZ; omega) _).far (by show B ≤ bZ; omega) _).far (by show B ≤ bZ; omega) _).more (by omega)
               · exact (((O6z.set_new (by show _ ≤ bZ; omega) _).set_new (by show _ ≤ bZ; omega) _).set_new (by show _ ≤ bZ; omega) _).set_new (by show _ ≤ bZ; omega) _
               · simp only [World.setCell, Array.size_modify]; omega
               · intro b hb; have := frB2 b hb; omega
             · skip
               go_simp
               have hlP := RP.lt
               refine hK.out _ _ ?_ (fun _ => ?_)
               · exact (World.cell?_alloc_past (w := w5) _ _ _ hlP).trans (RP.c2)
               clear hK K
               have RZ := (Row.new w5 48 #[.int .i64 0, .int .i64 0, .int .i64 0, .int .i64 0])
               replace RP := (RP.alloc (.cells #[.int .i64 0, .int .i64 0, .int .i64 0, .int .i64 0] 48))
               replace RO := (RO.alloc (.cells #[.int .i64 0, .int .i64 0, .int .i64 0, .int .i64 0] 48))
               replace REPA := Lib.hid (REPA.out.alloc (.cells #[.int .i64 0, .int .i64 0, .int .i64 0, .int .i64 0] 48))
               have S5z := (S5.alloc (.cells #[.int .i64 0, .int .i64 0, .int .i64 0, .int .i64 0] 48))
               have O5z := (O5.alloc (.cells #[.int .i64 0, .int .i64 0, .int .i64 0, .int .i64 0] 48))
               have hzA := O5.size
               replace hS := (RP.c2 : (w5.alloc (.cells #[.int .i64 0, .int .i64 0, .int .i64 0, .int .i64 0] 48)).cell? ⟨bP, 2, none⟩ = some (.int .i64 p.x2))
               have hbz : w3.heap.size ≤ w5.heap.size := by omega
               have nZA : w5.heap.size ∉ GA := fun hin => by have := hlA _ hin; omega
               have hwz : w5.heap.size < (w5.alloc (.cells #[.int .i64 0, .int .i64 0, .int .i64 0, .int .i64 0] 48)).heap.size := by simp
               generalize hbZ : w5.heap.size = bZ at RZ nZA hwz hbz  ⊢
               generalize (w5.alloc (.cells #[.int .i64 0, .int .i64 0, .int .i64 0, .int .i64 0] 48)) = WA2 at RP RO REPA RZ S5z O5z hS hwz  ⊢
               refine rJ 15 fun K hK => ?_
               refine step_call 46 #[.tmp 71, .tmp 77, .tmp 82, .tmp 83, .tmp 85] _ rfl rfl #[.pointer (some ⟨g, 0, none⟩), .int .i64 (p.x2 + 2 + r), .int .i64 (y + r' - 2), .int .i64 size, .int .i64 (d : Int)] Try.call46 (by go_simp) (IH (m := m + 1 + rdP d + 1 + 1) (M := M + farP d + 10) (x := p.x2 + 2 + r) (y := y + r' - 2) (size := size) WA2 (S5z.more (by omega)) (by omega) (by have := O5z.size; omega) (by omega) (by omega) hs (by omega)) ?_
               rintro e w6a ⟨bs, vb, GB, q, rfl, repB, frB, lb1, lb2, smB, bq, S6, O6⟩
               refine ⟨_, rfl, ?_⟩
               replace RP := row_o RP O6 (by omega)
               replace RO := row_o RO O6 (by omega)
               replace REPA := Lib.hid (REPA.out.only O6 (fun b hb hin => by simp at hin; subst hin; exact hgA hb))
               replace RZ := row_o RZ O6 (by omega)
               have hzO6 : WA2.heap.size ≤ w6a.heap.size := O6.size
               replace O6 := O5z.trans O6
               obtain ⟨UB, cB, rfl⟩ := slice_len repB
               have hlB : ∀ b ∈ GB, b < w6a.heap.size := fun b hb => (pSymbols _).lt repB b hb
               have frB2 := frB.2
               have REPB := Lib.hid repB
               have SMB := Lib.hid smB
               replace hS := (RP.c2 : w6a.cell? ⟨bP, 2, none⟩ = some (.int .i64 p.x2))
               refine bJ hK hS ?_
               clear hK K
               simp only [Act.put, pA, pB, pC]
               have nZB : bZ ∉ GB := fun hin => by have := frB.2 _ hin; omega
               refine tJ 16 hS ?_
               refine tJ 17 hS ?_
               refine tJ 18 hS ?_
               skip
               have v0 := RZ.c0
               have v1 := RZ.c1
               have v2 := RZ.c2
               have v3 := RZ.c3
               have vF := RZ.frozen
               refine tJ 20 hS ?_
               refine rJ 21 fun K hK => ?_
               have hzZ : w3.heap.size ≤ w6a.heap.size := by omega
               have lRZ := RZ.lt
               generalize hWZ : w6a = WZ at RP RO REPA REPB RZ S6 O6 hS v0 v1 v2 v3 vF hzZ lRZ ⊢
               go_simp
               have zne : bP ≠ bZ := by omega
               refine hK.out _ _ ?_ (fun _ => ?_)
               · exact (cell_farU zne _ _ _ _).trans hS
               clear hK K hS
               refine wpAnyH_done (by kernel_rfl) ?_ _
               go_wp2_with fail
               go_meet
               refine ⟨bs, UB, cB, GB, q, bZ, rfl, rfl, Lib.hid ⟨RP.far4 (by omega) _ _ _ _, four_cells RZ rfl _ _ _ _, RO.far4 (by omega) _ _ _ _, ?_, ?_⟩, Lib.hid ⟨lb2, fun c hc => SMB.out c hc, bq, ?_, ?_⟩, by simpa using nZA, by omega, by omega, ?_, ?_⟩
               · exact (((REPA.out.setCell nZA _).setCell nZA _).setCell nZA _).setCell nZA _
               · exact (((REPB.out.setCell nZB _).setCell nZB _).setCell nZB _).setCell nZB _
               · exact ((((S6.far (by show B ≤ bZ; omega) _).far (by show B ≤ bZ; omega) _).far (by show B ≤ bZ; omega) _).far (by show B ≤ bZ; omega) _).more (by omega)
               · exact (((O6.set_new (by show _ ≤ bZ; omega) _).set_new (by show _ ≤ bZ; omega) _).set_new (by show _ ≤ bZ; omega) _).set_new (by show _ ≤ bZ; omega) _
               · simp only [World.setCell, Array.size_modify]; omega
               · intro b hb; have := frB2 b hb; omega
           · skip
             go_simp
             have hlP := RP.lt
             refine hK.out _ _ ?_ (fun _ => ?_)
             · exact (World.cell?_alloc_past (w := w4) _ _ _ hlP).trans (RP.c2)
             clear hK K
             have RZ := (Row.new w4 48 #[.int .i64 0, .int .i64 0, .int .i64 0, .int .i64 0])
             replace RP := (RP.alloc (.cells #[.int .i64 0, .int .i64 0, .int .i64 0, .int .i64 0] 48))
             replace RO := (RO.alloc (.cells #[.int .i64 0, .int .i64 0, .int .i64 0, .int .i64 0] 48))
             replace REPA := Lib.hid (REPA.out.alloc (.cells #[.int .i64 0, .int .i64 0, .int .i64 0, .int .i64 0] 48))
             have S4z := (S4.alloc (.cells #[.int .i64 0, .int .i64 0, .int .i64 0, .int .i64 0] 48))
             have O4z := (O4.alloc (.cells #[.int .i64 0, .int .i64 0, .int .i64 0, .int .i64 0] 48))
             have hzA := O4.size
             replace hS := (RP.c2 : (w4.alloc (.cells #[.int .i64 0, .int .i64 0, .int .i64 0, .int .i64 0] 48)).cell? ⟨bP, 2, none⟩ = some (.int .i64 p.x2))
             have hbz : w3.heap.size ≤ w4.heap.size := by omega
             have nZA : w4.heap.size ∉ GA := fun hin => by have := hlA _ hin; omega
             have hwz : w4.heap.size < (w4.alloc (.cells #[.int .i64 0, .int .i64 0, .int .i64 0, .int .i64 0] 48)).heap.size := by simp
             generalize hbZ : w4.heap.size = bZ at RZ nZA hwz hbz  ⊢
             generalize (w4.alloc (.cells #[.int .i64 0, .int .i64 0, .int .i64 0, .int .i64 0] 48)) = WA1 at RP RO REPA RZ S4z O4z hS hwz  ⊢
             refine rJ 9 fun K hK => ?_
             refine step_call 56 #[.tmp 79, .const (.int .i64 5)] _ rfl rfl #[.pointer (some ⟨g, 0, none⟩), .int .i64 5] Try.call56 (by go_simp) (src_pick_c _ S4z (by omega) 5 (by omega)) ?_
             rintro e w5 ⟨⟨r', r0', r1', rfl⟩, S5, O5⟩
             refine ⟨_, rfl, ?_⟩
             replace RP := row_o RP O5 (by omega)
             replace RO := row_o RO O5 (by omega)
             replace REPA := Lib.hid (REPA.out.only O5 (fun b hb hin => by simp at hin; subst hin; exact hgA hb))
             replace RZ := row_o RZ O5 (by omega)
             have hzO5 : WA1.heap.size ≤ w5.heap.size := O5.size
             replace O5 := O4z.trans O5
             have e3 := IntWalk.i64_in (y + r') (by omega)
             have e4 := IntWalk.i64_in (y + r' - 2) (by omega)
             replace hS := (RP.c2 : w5.cell? ⟨bP, 2, none⟩ = some (.int .i64 p.x2))
             refine bJ hK hS ?_
             clear hK K
             simp only [Act.put, pA, pB, pC]
             refine tJ 10 hS ?_
             refine tJ 11 hS ?_
             refine rJ 15 fun K hK => ?_
             refine step_call 46 #[.tmp 71, .tmp 77, .tmp 82, .tmp 83, .tmp 85] _ rfl rfl #[.pointer (some ⟨g, 0, none⟩), .int .i64 (p.x2 + 2 + r), .int .i64 (y + r' - 2), .int .i64 size, .int .i64 (d : Int)] Try.call46 (by go_simp) (IH (m := m + 1 + rdP d + 1 + 1) (M := M + farP d + 10) (x := p.x2 + 2 + r) (y := y + r' - 2) (size := size) w5 (S5.more (by omega)) (by omega) (by have := O5.size; omega) (by omega) (by omega) hs (by omega)) ?_
             rintro e w6a ⟨bs, vb, GB, q, rfl, repB, frB, lb1, lb2, smB, bq, S6, O6⟩
             refine ⟨_, rfl, ?_⟩
             replace RP := row_o RP O6 (by omega)
             replace RO := row_o RO O6 (by omega)
             replace REPA := Lib.hid (REPA.out.only O6 (fun b hb hin => by simp at hin; subst hin; exact hgA hb))
             replace RZ := row_o RZ O6 (by omega)
             have hzO6 : w5.heap.size ≤ w6a.heap.size := O6.size
             replace O6 := O5.trans O6
             obtain ⟨UB, cB, rfl⟩ := slice_len repB
             have hlB : ∀ b ∈ GB, b < w6a.heap.size := fun b hb => (pSymbols _).lt repB b hb
             have frB2 := frB.2
             have REPB := Lib.hid repB
             have SMB := Lib.hid smB
             replace hS := (RP.c2 : w6a.cell? ⟨bP, 2, none⟩ = some (.int .i64 p.x2))
             refine bJ hK hS ?_
             clear hK K
             simp only [Act.put, pA, pB, pC]
             have nZB : bZ ∉ GB := fun hin => by have := frB.2 _ hin; omega
             refine tJ 16 hS ?_
             refine tJ 17 hS ?_
             refine tJ 18 hS ?_
             skip
             have v0 := RZ.c0
             have v1 := RZ.c1
             have v2 := RZ.c2
             have v3 := RZ.c3
             have vF := RZ.frozen
             refine tJ 20 hS ?_
             refine rJ 21 fun K hK => ?_
             have hzZ : w3.heap.size ≤ w6a.heap.size := by omega
             have lRZ := RZ.lt
             generalize hWZ : w6a = WZ at RP RO REPA REPB RZ S6 O6 hS v0 v1 v2 v3 vF hzZ lRZ ⊢
             go_simp
             have zne : bP ≠ bZ := by omega
             refine hK.out _ _ ?_ (fun _ => ?_)
             · exact (cell_farU zne _ _ _ _).trans hS
             clear hK K hS
             refine wpAnyH_done (by kernel_rfl) ?_ _
             go_wp2_with fail
             go_meet
             refine ⟨bs, UB, cB, GB, q, bZ, rfl, rfl, Lib.hid ⟨RP.far4 (by omega) _ _ _ _, four_cells RZ rfl _ _ _ _, RO.far4 (by omega) _ _ _ _, ?_, ?_⟩, Lib.hid ⟨lb2, fun c hc => SMB.out c hc, bq, ?_, ?_⟩, by simpa using nZA, by omega, by omega, ?_, ?_⟩
             · exact (((REPA.out.setCell nZA _).setCell nZA _).setCell nZA _).setCell nZA _
             · exact (((REPB.out.setCell nZB _).setCell nZB _).setCell nZB _).setCell nZB _
             · exact ((((S6.far (by show B ≤ bZ; omega) _).far (by show B ≤ bZ; omega) _).far (by show B ≤ bZ; omega) _).far (by show B ≤ bZ; omega) _).more (by omega)
             · exact (((O6.set_new (by show _ ≤ bZ; omega) _).set_new (by show _ ≤ bZ; omega) _).set_new (by show _ ≤ bZ; omega) _).set_new (by show _ ≤ bZ; omega) _
             · simp only [World.setCell, Array.size_modify]; omega
             · intro b hb; have := frB2 b hb; omega
         · skip
           go_simp
           have hlP := RP.lt
           refine hK.out _ _ ?_ (fun _ => ?_)
           · exact past_drew _ hlP (RP.c2)
           clear hK K
           have RZ := (Row.new w3 48 #[.int .i64 0, .int .i64 0, .int .i64 0, .int .i64 0]).drew
           replace RP := (RP.alloc (.cells #[.int .i64 0, .int .i64 0, .int .i64 0, .int .i64 0] 48)).drew
           replace RO := (RO.alloc (.cells #[.int .i64 0, .int .i64 0, .int .i64 0, .int .i64 0] 48)).drew
           replace REPA := Lib.hid (REPA.out.alloc (.cells #[.int .i64 0, .int .i64 0, .int .i64 0, .int .i64 0] 48)).drew
           have S3z := (S3.alloc (.cells #[.int .i64 0, .int .i64 0, .int .i64 0, .int .i64 0] 48)).drew'
           have O3z := (O3.alloc (.cells #[.int .i64 0, .int .i64 0, .int .i64 0, .int .i64 0] 48)).drew
           have hzA := O3.size
           replace hS := (RP.c2 : (w3.alloc (.cells #[.int .i64 0, .int .i64 0, .int .i64 0, .int .i64 0] 48)).drew.cell? ⟨bP, 2, none⟩ = some (.int .i64 p.x2))
           have hbz : w3.heap.size ≤ w3.heap.size := by omega
           have nZA : w3.heap.size ∉ GA := fun hin => by have := hlA _ hin; omega
           have hwz : w3.heap.size < (w3.alloc (.cells #[.int .i64 0, .int .i64 0, .int .i64 0, .int .i64 0] 48)).drew.heap.size := by simp
           generalize hbZ : w3.heap.size = bZ at RZ nZA hwz hbz  ⊢
           generalize (w3.alloc (.cells #[.int .i64 0, .int .i64 0, .int .i64 0, .int .i64 0] 48)).drew = WA0 at RP RO REPA RZ S3z O3z hS hwz  ⊢
           refine rJ 5 fun K hK => ?_
           refine step_call 56 #[.tmp 75, .const (.int .i64 5)] _ rfl rfl #[.pointer (some ⟨g, 0, none⟩), .int .i64 5] Try.call56 (by go_simp) (src_pick_c _ S3z (by omega) 5 (by omega)) ?_
           rintro e w4 ⟨⟨r, r0, r1, rfl⟩, S4, O4⟩
           refine ⟨_, rfl, ?_⟩
           replace RP := row_o RP O4 (by omega)
           replace RO := row_o RO O4 (by omega)
           replace REPA := Lib.hid (REPA.out.only O4 (fun b hb hin => by simp at hin; subst hin; exact hgA hb))
           replace RZ := row_o RZ O4 (by omega)
           have hzO4 : WA0.heap.size ≤ w4.heap.size := O4.size
           replace O4 := O3z.trans O4
           have e1 := IntWalk.i64_in (p.x2 + 2) (by omega)
           have e2 := IntWalk.i64_in (p.x2 + 2 + r) (by omega)
           replace hS := (RP.c2 : w4.cell? ⟨bP, 2, none⟩ = some (.int .i64 p.x2))
           refine bJ hK hS ?_
           clear hK K
           simp only [Act.put, pA, pB, pC]
           refine tJ 6 hS ?_
           refine rJ 9 fun K hK => ?_
           refine step_call 56 #[.tmp 79, .const (.int .i64 5)] _ rfl rfl #[.pointer (some ⟨g, 0, none⟩), .int .i64 5] Try.call56 (by go_simp) (src_pick_c _ S4 (by omega) 5 (by omega)) ?_
           rintro e w5 ⟨⟨r', r0', r1', rfl⟩, S5, O5⟩
           refine ⟨_, rfl, ?_⟩
           replace RP := row_o RP O5 (by omega)
           replace RO := row_o RO O5 (by omega)
           replace REPA := Lib.hid (REPA.out.only O5 (fun b hb hin => by simp at hin; subst hin; exact hgA hb))
           replace RZ := row_o RZ O5 (by omega)
           have hzO5 : w4.heap.size ≤ w5.heap.size := O5.size
           replace O5 := O4.trans O5
           have e3 := IntWalk.i64_in (y + r') (by omega)
           have e4 := IntWalk.i64_in (y + r' - 2) (by omega)
           replace hS := (RP.c2 : w5.cell? ⟨bP, 2, none⟩ = some (.int .i64 p.x2))
           refine bJ hK hS ?_
           clear hK K
           simp only [Act.put, pA, pB, pC]
           refine tJ 10 hS ?_
           refine tJ 11 hS ?_
           refine rJ 15 fun K hK => ?_
           refine step_call 46 #[.tmp 71, .tmp 77, .tmp 82, .tmp 83, .tmp 85] _ rfl rfl #[.pointer (some ⟨g, 0, none⟩), .int .i64 (p.x2 + 2 + r), .int .i64 (y + r' - 2), .int .i64 size, .int .i64 (d : Int)] Try.call46 (by go_simp) (IH (m := m + 1 + rdP d + 1 + 1) (M := M + farP d + 10) (x := p.x2 + 2 + r) (y := y + r' - 2) (size := size) w5 (S5.more (by omega)) (by omega) (by have := O5.size; omega) (by omega) (by omega) hs (by omega)) ?_
           rintro e w6a ⟨bs, vb, GB, q, rfl, repB, frB, lb1, lb2, smB, bq, S6, O6⟩
           refine ⟨_, rfl, ?_⟩
           replace RP := row_o RP O6 (by omega)
           replace RO := row_o RO O6 (by omega)
           replace REPA := Lib.hid (REPA.out.only O6 (fun b hb hin => by simp at hin; subst hin; exact hgA hb))
           replace RZ := row_o RZ O6 (by omega)
           have hzO6 : w5.heap.size ≤ w6a.heap.size := O6.size
           replace O6 := O5.trans O6
           obtain ⟨UB, cB, rfl⟩ := slice_len repB
           have hlB : ∀ b ∈ GB, b < w6a.heap.size := fun b hb => (pSymbols _).lt repB b hb
           have frB2 := frB.2
           have REPB := Lib.hid repB
           have SMB := Lib.hid smB
           replace hS := (RP.c2 : w6a.cell? ⟨bP, 2, none⟩ = some (.int .i64 p.x2))
           refine bJ hK hS ?_
           clear hK K
           simp only [Act.put, pA, pB, pC]
           have nZB : bZ ∉ GB := fun hin => by have := frB.2 _ hin; omega
           refine tJ 16 hS ?_
           refine tJ 17 hS ?_
           refine tJ 18 hS ?_
           skip
           have v0 := RZ.c0
           have v1 := RZ.c1
           have v2 := RZ.c2
           have v3 := RZ.c3
           have vF := RZ.frozen
           refine tJ 20 hS ?_
           refine rJ 21 fun K hK => ?_
           have hzZ : w3.heap.size ≤ w6a.heap.size := by omega
           have lRZ := RZ.lt
           generalize hWZ : w6a = WZ at RP RO REPA REPB RZ S6 O6 hS v0 v1 v2 v3 vF hzZ lRZ ⊢
           go_simp
           have zne : bP ≠ bZ := by omega
           refine hK.out _ _ ?_ (fun _ => ?_)
           · exact (cell_farU zne _ _ _ _).trans hS
           clear hK K hS
           refine wpAnyH_done (by kernel_rfl) ?_ _
           go_wp2_with fail
           go_meet
           refine ⟨bs, UB, cB, GB, q, bZ, rfl, rfl, Lib.hid ⟨RP.far4 (by omega) _ _ _ _, four_cells RZ rfl _ _ _ _, RO.far4 (by omega) _ _ _ _, ?_, ?_⟩, Lib.hid ⟨lb2, fun c hc => SMB.out c hc, bq, ?_, ?_⟩, by simpa using nZA, by omega, by omega, ?_, ?_⟩
           · exact (((REPA.out.setCell nZA _).setCell nZA _).setCell nZA _).setCell nZA _
           · exact (((REPB.out.setCell nZB _).setCell nZB _).setCell nZB _).setCell nZB _
           · exact ((((S6.far (by show B ≤ bZ; omega) _).far (by show B ≤ bZ; omega) _).far (by show B ≤ bZ; omega) _).far (by show B ≤ bZ; omega) _).more (by omega)
           · exact (((O6.set_new (by show _ ≤ bZ; omega) _).set_new (by show _ ≤ bZ; omega) _).set_new (by show _ ≤ bZ; omega) _).set_new (by show _ ≤ bZ; omega) _
           · simp only [World.setCell, Array.size_modify]; omega
           · intro b hb; have := frB2 b hb; omega
        case rest =>
         obtain ⟨w7, hw7⟩ : ∃ W, W = wc := ⟨_, rfl⟩
         subst hw7
         obtain ⟨bs, UB, cB, GB, q, bQ, rfl, rfl, hrows, hrest, nQA, hPQ, hgQ, hsz7, dGB⟩ := hcut
         obtain ⟨RP', RQ, RO', repA', repB'⟩ := hrows.out
         obtain ⟨lb2, smB, bq, SZ, OZ⟩ := hrest.out
         clear hrows hrest
         have REPA' := Lib.hid repA'
         have REPB := Lib.hid repB'
         have SMB := Lib.hid smB
         clear RP RO REPA S3 O3 repA' repB' smB
         have RP := RP'
         have RO := RO'
         have REPA := REPA'
         clear RP' RO' REPA'
         have hwO : w.heap.size ≤ w7.heap.size := by omega
         go_upto_region 11 with fail
         have hS : (fun w' : World => w'.cell? ⟨bP, 0, none⟩ = some (.int .i64 p.x1) ∧ w'.cell? ⟨bP, 1, none⟩ = some (.int .i64 p.y1) ∧ w'.cell? ⟨bP, 2, none⟩ = some (.int .i64 p.x2) ∧ w'.cell? ⟨bP, 3, none⟩ = some (.int .i64 p.y2) ∧ w'.cell? ⟨bQ, 0, none⟩ = some (.int .i64 q.x1) ∧ w'.cell? ⟨bQ, 1, none⟩ = some (.int .i64 q.y1) ∧ w'.cell? ⟨bQ, 2, none⟩ = some (.int .i64 q.x2) ∧ w'.cell? ⟨bQ, 3, none⟩ = some (.int .i64 q.y2)) w7.drew := ⟨RP.c0, RP.c1, RP.c2, RP.c3, RQ.c0, RQ.c1, RQ.c2, RQ.c3⟩
         dsimp only at hS
         refine wp_region_held_drew (S := (fun w' : World => w'.cell? ⟨bP, 0, none⟩ = some (.int .i64 p.x1) ∧ w'.cell? ⟨bP, 1, none⟩ = some (.int .i64 p.y1) ∧ w'.cell? ⟨bP, 2, none⟩ = some (.int .i64 p.x2) ∧ w'.cell? ⟨bP, 3, none⟩ = some (.int .i64 p.y2) ∧ w'.cell? ⟨bQ, 0, none⟩ = some (.int .i64 q.x1) ∧ w'.cell? ⟨bQ, 1, none⟩ = some (.int .i64 q.y1) ∧ w'.cell? ⟨bQ, 2, none⟩ = some (.int .i64 q.x2) ∧ w'.cell? ⟨bQ, 3, none⟩ = some (.int .i64 q.y2))) (by kernel_rfl) hS (fun _ => ?_)
         refine tJ 0 hS ?_
         refine tJ 1 hS ?_
         refine tJ 3 hS ?_
         refine tJ 4 hS ?_
         refine rJ 2 fun K hK => ?_
         refine step_append_repX (T := pSymbol) (e := 50) (ys := bs) (ec := bs.flatMap pSymbolCells) rfl (.tmp 89) (.tmp 90) rfl Try.underlying24 infoSym rfl (by decide) rfl REPA.out.drew rfl (repL_pSymbol bs (pSymbols_ok REPB.out)) (syms_at REPB.out.drew) (by rw [List.append_nil]; exact FRA.out.1) (by unfold maxLen; omega) (by omega) ?_
         intro v6 w6 F6 r6 o6 q6 x6
         have fr6 : Fresh w.heap.size F6 := q6 w.heap.size (by rw [List.append_nil]; exact ⟨FRA.out.1, fun b hb => by have := FRA.out.2 b hb; omega⟩) (by show w.heap.size ≤ w7.heap.size; omega)
         have hx6 : ∀ b ∈ F6, b ∈ GA ∨ w7.heap.size ≤ b := fun b hb => by
          rcases x6.1 b hb with h | h
          · exact .inl (by simpa using h)
          · exact .inr h
         have hO6 : w.heap.size ∉ F6 := fun hin => by
          rcases hx6 _ hin with h | h
          · have := FRA.out.2 _ h; omega
          · omega
         replace RP : Row w6 bP 48 [.int .i64 p.x1, .int .i64 p.y1, .int .i64 p.x2, .int .i64 p.y2] := (o6.block _ RP.lt (fun hin => by have := hlA _ hin; omega)).trans RP
         replace RQ : Row w6 bQ 48 [.int .i64 q.x1, .int .i64 q.y1, .int .i64 q.x2, .int .i64 q.y2] := (o6.block _ RQ.lt nQA).trans RQ
         replace RO : Row w6 w.heap.size 48 [.int .i64 0, .int .i64 0, .int .i64 0, .int .i64 0] := (o6.block _ RO.lt (fun hin => by have := FRA.out.2 _ hin; omega)).trans RO
         have S7 := SZ.drew'.only o6 (fun b hb => by have := FRA.out.2 b hb; omega)
         have O7 := only_newS OZ.drew o6 (fun x hx => .inr (by have := FRA.out.2 x hx; omega))
         have R6 := Lib.hid r6
         obtain ⟨A6, n6, c6, rfl⟩ := slice_form r6
         have hs6 : w7.heap.size ≤ w6.heap.size := o6.size
         clear r6 o6 q6 x6 REPA REPB
         refine hK.out _ _ ⟨RP.c0, RP.c1, RP.c2, RP.c3, RQ.c0, RQ.c1, RQ.c2, RQ.c3⟩ (fun _ => ?_)
         clear hK K
         replace hS := (⟨RP.c0, RP.c1, RP.c2, RP.c3, RQ.c0, RQ.c1, RQ.c2, RQ.c3⟩ : w6.cell? ⟨bP, 0, none⟩ = some (.int .i64 p.x1) ∧ w6.cell? ⟨bP, 1, none⟩ = some (.int .i64 p.y1) ∧ w6.cell? ⟨bP, 2, none⟩ = some (.int .i64 p.x2) ∧ w6.cell? ⟨bP, 3, none⟩ = some (.int .i64 p.y2) ∧ w6.cell? ⟨bQ, 0, none⟩ = some (.int .i64 q.x1) ∧ w6.cell? ⟨bQ, 1, none⟩ = some (.int .i64 q.y1) ∧ w6.cell? ⟨bQ, 2, none⟩ = some (.int .i64 q.x2) ∧ w6.cell? ⟨bQ, 3, none⟩ = some (.int .i64 q.y2))
         refine rJ 5 fun K hK => ?_
         refine step_call 43 #[.tmp 92, .tmp 93] _ rfl rfl #[.agg #[.int .i64 p.x1, .int .i64 p.y1, .int .i64 p.x2, .int .i64 p.y2], .agg #[.int .i64 q.x1, .int .i64 q.y1, .int .i64 q.x2, .int .i64 q.y2]] Try.call43 (by go_simp) (spec_l02Join_c p q _) ?_
         rintro e w8 ⟨rfl, b8⟩
         refine ⟨_, rfl, ?_⟩
         replace RP := RP.later b8
         replace RQ := RQ.later b8
         replace RO := RO.later b8
         replace S7 := S7.below b8
         replace O7 := O7.trans (Only.of_below b8)
         replace R6 := Lib.hid (R6.out.below b8)
         replace hS := (⟨RP.c0, RP.c1, RP.c2, RP.c3, RQ.c0, RQ.c1, RQ.c2, RQ.c3⟩ : w8.cell? ⟨bP, 0, none⟩ = some (.int .i64 p.x1) ∧ w8.cell? ⟨bP, 1, none⟩ = some (.int .i64 p.y1) ∧ w8.cell? ⟨bP, 2, none⟩ = some (.int .i64 p.x2) ∧ w8.cell? ⟨bP, 3, none⟩ = some (.int .i64 p.y2) ∧ w8.cell? ⟨bQ, 0, none⟩ = some (.int .i64 q.x1) ∧ w8.cell? ⟨bQ, 1, none⟩ = some (.int .i64 q.y1) ∧ w8.cell? ⟨bQ, 2, none⟩ = some (.int .i64 q.x2) ∧ w8.cell? ⟨bQ, 3, none⟩ = some (.int .i64 q.y2))
         refine bJ hK hS ?_
         clear hK K
         simp only [Act.put, pA, pB, pC]
         refine tJ 6 hS ?_
         have u0 := RO.c0
         have u1 := RO.c1
         have u2 := RO.c2
         have u3 := RO.c3
         have uF := RO.frozen
         refine rJ 7 fun K hK => ?_
         simp only [boxV]
         go_simp
         have pne : bP ≠ w.heap.size := by omega
         have qne : bQ ≠ w.heap.size := by omega
         refine hK.out _ _ ⟨(cell_farU pne _ _ _ _).trans (RP.c0), (cell_farU pne _ _ _ _).trans (RP.c1), (cell_farU pne _ _ _ _).trans (RP.c2), (cell_farU pne _ _ _ _).trans (RP.c3), (cell_farU qne _ _ _ _).trans (RQ.c0), (cell_farU qne _ _ _ _).trans (RQ.c1), (cell_farU qne _ _ _ _).trans (RQ.c2), (cell_farU qne _ _ _ _).trans (RQ.c3)⟩ (fun _ => ?_)
         clear hK K hS
         refine wpAnyH_done (by kernel_rfl) ?_ _
         have RR := four_cells RO rfl (.int .i64 (joinB p q).x1) (.int .i64 (joinB p q).y1) (.int .i64 (joinB p q).x2) (.int .i64 (joinB p q).y2)
         have d0 := RR.c0
         have d1 := RR.c1
         have d2 := RR.c2
         have d3 := RR.c3
         have hbj := BoxLe.join (bp.mono (K := _) (L := M + farP (d + 1)) (by simp only [farP]; omega)) (bq.mono (L := M + farP (d + 1)) (by simp only [farP]; omega))
         have N9 := (((R6.out.setCell (p := ⟨w.heap.size, 0, none⟩) hO6 (.int .i64 (joinB p q).x1)).setCell (p := ⟨w.heap.size, 1, none⟩) hO6 (.int .i64 (joinB p q).y1)).setCell (p := ⟨w.heap.size, 2, none⟩) hO6 (.int .i64 (joinB p q).x2)).setCell (p := ⟨w.heap.size, 3, none⟩) hO6 (.int .i64 (joinB p q).y2)
         have O9 := (((O7.set_new (p := ⟨w.heap.size, 0, none⟩) (Nat.le_refl _) (.int .i64 (joinB p q).x1)).set_new (p := ⟨w.heap.size, 1, none⟩) (Nat.le_refl _) (.int .i64 (joinB p q).y1)).set_new (p := ⟨w.heap.size, 2, none⟩) (Nat.le_refl _) (.int .i64 (joinB p q).x2)).set_new (p := ⟨w.heap.size, 3, none⟩) (Nat.le_refl _) (.int .i64 (joinB p q).y2)
         have S9 := (((S7.far (p := ⟨w.heap.size, 0, none⟩) hB (.int .i64 (joinB p q).x1)).far (p := ⟨w.heap.size, 1, none⟩) hB (.int .i64 (joinB p q).y1)).far (p := ⟨w.heap.size, 2, none⟩) hB (.int .i64 (joinB p q).x2)).far (p := ⟨w.heap.size, 3, none⟩) hB (.int .i64 (joinB p q).y2)
         clear RR RO RP RQ R6 O7 S7 u0 u1 u2 u3 uF
         go_wp2_with fail
         refine bodyPost_ret (v := .tuple #[.slice A6 n6 c6, .agg #[.int .i64 (joinB p q).x1, .int .i64 (joinB p q).y1, .int .i64 (joinB p q).x2, .int .i64 (joinB p q).y2]]) (by simp [results, Try.results46, go_sem, d0, d1, d2, d3]) rfl ⟨az ++ bs, _, F6, (joinB p q), rfl, N9, fr6, by rw [List.length_append]; omega, by rw [List.length_append]; simp only [cntP]; omega, fun c hc => by
          rcases List.mem_append.1 hc with hc | hc
          · exact (SMA.out c hc).mono (by simp only [farP]; omega)
          · exact (SMB.out c hc).mono (by simp only [farP]; omega), hbj, S9.more (by simp only [rdP]; omega), O9⟩
     · have e5 : IntKind.i64.wrap (((d + 1 : Nat) : Int) - 1) = (d : Int) := by rw [IntWalk.i64_in _ (by omega)]; omega
       have e5' : IntKind.i64.wrap ((d : Int) + 1 - 1) = (d : Int) := by rw [IntWalk.i64_in _ (by omega)]; omega
       have e5'' : IntKind.i64.wrap (d : Int) = (d : Int) := IntWalk.i64_in _ (by omega)
       have CI := Lib.hid (IH w1 S1 (by omega) (by have := O1.size; omega) hx hy hs (by omega))
       have hfar := farP_pos d
       have hs1 := O1.size
       clear S1
       go_wp2_with fail
       refine CI.out.mono ?_
       rintro e w2 ⟨az, va, GA, p, rfl, repA, frA, la1, la2, smA, bp, S2, O2⟩
       obtain ⟨UA, cA, rfl⟩ := slice_len repA
       have hgA : g ∉ GA := fun hin => by have := frA.2 g hin; omega
       have hlA : ∀ b ∈ GA, b < w2.heap.size := fun b hb => (pSymbols _).lt repA b hb
       have hlO := RO.lt
       have hs12 := O2.size
       replace RO := row_o RO O2 (by omega)
       replace O2 := O1.trans O2
       have RP := Row.new w2 48 #[.int .i64 p.x1, .int .i64 p.y1, .int .i64 p.x2, .int .i64 p.y2]
       have REPA := Lib.hid (repA.alloc (.cells #[.int .i64 p.x1, .int .i64 p.y1, .int .i64 p.x2, .int .i64 p.y2] 48))
       replace RO := RO.alloc (.cells #[.int .i64 p.x1, .int .i64 p.y1, .int .i64 p.x2, .int .i64 p.y2] 48)
       have S3 := S2.alloc (.cells #[.int .i64 p.x1, .int .i64 p.y1, .int .i64 p.x2, .int .i64 p.y2] 48)
       have O3 := O2.alloc (.cells #[.int .i64 p.x1, .int .i64 p.y1, .int .i64 p.x2, .int .i64 p.y2] 48)
       have FRA := Lib.hid frA
       have SMA := Lib.hid smA
       have hbp := bp
       unfold BoxLe at hbp
       have hg2 := S2.lt
       have hl2O : w.heap.size < w2.heap.size := by omega
       clear repA frA smA S2 O2
       go_upto_region 6 with fail
       generalize hw3 : w2.alloc (.cells #[.int .i64 p.x1, .int .i64 p.y1, .int .i64 p.x2, .int .i64 p.y2] 48) = w3 at RP REPA RO S3 O3 ⊢
       have hw3s : w2.heap.size < w3.heap.size := RP.lt
       generalize w2.heap.size = bP at RP hlA hg2 hl2O hw3s ⊢
       clear hw3
       have k456 : kd = 4 ∨ kd = 5 ∨ kd = 6 := by omega
       rcases k456 with hk | hk | hk
       · subst hk
         have e1 := IntWalk.i64_in (p.x2 + 2) (by omega)
         have e2 := IntWalk.i64_in (size / 4) (by omega)
         have e3 := IntWalk.i64_in (p.y1 - size / 4) (by omega)
         have e4 := IntWalk.i64_in (size / 2) (by omega)
         have t2 : size.tdiv 2 = size / 2 := Int.tdiv_eq_ediv_of_nonneg (by omega)
         have t4 : size.tdiv 4 = size / 4 := Int.tdiv_eq_ediv_of_nonneg (by omega)
         have r2 := RP.c2
         have r1 := RP.c1
         have CQ := Lib.hid (spec_l21Place0_c (mr := m + 1 + rdP d + 10) (n := 1) (M := M + farP d + 10) (K := 100) (p.x2 + 2) (p.y1 - size / 4) (size / 2) w3 S3 (by omega) (by omega) (by omega) (by omega) (by omega) (by omega) (by omega) (by omega) (by omega))
         go_wp2_with fail
         refine CQ.out.mono ?_
         rintro e w6a ⟨bs, vb, GB, q, rfl, repB, frB, lb1, lb2, smB, bq, S6, O6⟩
         obtain ⟨UB, cB, rfl⟩ := slice_len repB
         have hlB : ∀ b ∈ GB, b < w6a.heap.size := fun b hb => (pSymbols _).lt repB b hb
         have REPB := Lib.hid repB
         have SMB := Lib.hid smB
         replace RP := row_o RP O6 (by omega)
         replace RO := row_o RO O6 (by omega)
         replace REPA := Lib.hid (REPA.out.only O6 (fun b hb hin => by simp at hin; subst hin; exact hgA hb))
         have hz6 : w3.heap.size ≤ w6a.heap.size := O6.size
         replace O6 := O3.trans O6
         have nQA : w6a.heap.size ∉ GA := fun hin => by have := hlA _ hin; omega
         have RQ := Row.new w6a 48 #[.int .i64 q.x1, .int .i64 q.y1, .int .i64 q.x2, .int .i64 q.y2]
         replace RP := RP.alloc (.cells #[.int .i64 q.x1, .int .i64 q.y1, .int .i64 q.x2, .int .i64 q.y2] 48)
         replace RO := RO.alloc (.cells #[.int .i64 q.x1, .int .i64 q.y1, .int .i64 q.x2, .int .i64 q.y2] 48)
         replace REPA := Lib.hid (REPA.out.alloc (.cells #[.int .i64 q.x1, .int .i64 q.y1, .int .i64 q.x2, .int .i64 q.y2] 48))
         replace REPB := Lib.hid (REPB.out.alloc (.cells #[.int .i64 q.x1, .int .i64 q.y1, .int .i64 q.x2, .int .i64 q.y2] 48))
         have SZ := S6.alloc (.cells #[.int .i64 q.x1, .int .i64 q.y1, .int .i64 q.x2, .int .i64 q.y2] 48)
         have OZ := O6.alloc (.cells #[.int .i64 q.x1, .int .i64 q.y1, .int .i64 q.x2, .int .i64 q.y2] 48)
         have lb2 : bs.length ≤ cntP d := by (have : 1 ≤ cntP d := by (cases d <;> simp only [cntP] <;> omega)); omega
         have hgQ : g < w6a.heap.size := by omega
         clear r1 r2 S6 O6
         go_upto_region 14 with fail
         generalize hw7 : w6a.alloc (.cells #[.int .i64 q.x1, .int .i64 q.y1, .int .i64 q.x2, .int .i64 q.y2] 48) = w7 at RP RO RQ REPA REPB SZ OZ ⊢
         have hw7s : w6a.heap.size < w7.heap.size := RQ.lt
         have hPQ : bP < w6a.heap.size := by omega
         have hwO : w.heap.size ≤ w7.heap.size := by omega
         generalize w6a.heap.size = bQ at RQ nQA hw7s hPQ hgQ ⊢
         clear hw7
         have hS : (fun w' : World => w'.cell? ⟨bP, 0, none⟩ = some (.int .i64 p.x1) ∧ w'.cell? ⟨bP, 1, none⟩ = some (.int .i64 p.y1) ∧ w'.cell? ⟨bP, 2, none⟩ = some (.int .i64 p.x2) ∧ w'.cell? ⟨bP, 3, none⟩ = some (.int .i64 p.y2) ∧ w'.cell? ⟨bQ, 0, none⟩ = some (.int .i64 q.x1) ∧ w'.cell? ⟨bQ, 1, none⟩ = some (.int .i64 q.y1) ∧ w'.cell? ⟨bQ, 2, none⟩ = some (.int .i64 q.x2) ∧ w'.cell? ⟨bQ, 3, none⟩ = some (.int .i64 q.y2)) w7.drew := ⟨RP.c0, RP.c1, RP.c2, RP.c3, RQ.c0, RQ.c1, RQ.c2, RQ.c3⟩
         dsimp only at hS
         refine wp_region_held_drew (S := (fun w' : World => w'.cell? ⟨bP, 0, none⟩ = some (.int .i64 p.x1) ∧ w'.cell? ⟨bP, 1, none⟩ = some (.int .i64 p.y1) ∧ w'.cell? ⟨bP, 2, none⟩ = some (.int .i64 p.x2) ∧ w'.cell? ⟨bP, 3, none⟩ = some (.int .i64 p.y2) ∧ w'.cell? ⟨bQ, 0, none⟩ = some (.int .i64 q.x1) ∧ w'.cell? ⟨bQ, 1, none⟩ = some (.int .i64 q.y1) ∧ w'.cell? ⟨bQ, 2, none⟩ = some (.int .i64 q.x2) ∧ w'.cell? ⟨bQ, 3, none⟩ = some (.int .i64 q.y2))) (by kernel_rfl) hS (fun _ => ?_)
         refine tJ 0 hS ?_
         refine tJ 1 hS ?_
         refine tJ 3 hS ?_
         refine tJ 4 hS ?_
         refine rJ 2 fun K hK => ?_
         refine step_append_repX (T := pSymbol) (e := 50) (ys := bs) (ec := bs.flatMap pSymbolCells) rfl (.tmp 112) (.tmp 113) rfl Try.underlying24 infoSym rfl (by decide) rfl REPA.out.drew rfl (repL_pSymbol bs (pSymbols_ok REPB.out)) (syms_at REPB.out.drew) (by rw [List.append_nil]; exact FRA.out.1) (by unfold maxLen; omega) (by omega) ?_
         intro v6 w6 F6 r6 o6 q6 x6
         have fr6 : Fresh w.heap.size F6 := q6 w.heap.size (by rw [List.append_nil]; exact ⟨FRA.out.1, fun b hb => by have := FRA.out.2 b hb; omega⟩) (by show w.heap.size ≤ w7.heap.size; omega)
         have hx6 : ∀ b ∈ F6, b ∈ GA ∨ w7.heap.size ≤ b := fun b hb => by
          rcases x6.1 b hb with h | h
          · exact .inl (by simpa using h)
          · exact .inr h
         have hO6 : w.heap.size ∉ F6 := fun hin => by
          rcases hx6 _ hin with h | h
          · have := FRA.out.2 _ h; omega
          · omega
         replace RP : Row w6 bP 48 [.int .i64 p.x1, .int .i64 p.y1, .int .i64 p.x2, .int .i64 p.y2] := (o6.block _ RP.lt (fun hin => by have := hlA _ hin; omega)).trans RP
         replace RQ : Row w6 bQ 48 [.int .i64 q.x1, .int .i64 q.y1, .int .i64 q.x2, .int .i64 q.y2] := (o6.block _ RQ.lt nQA).trans RQ
         replace RO : Row w6 w.heap.size 48 [.int .i64 0, .int .i64 0, .int .i64 0, .int .i64 0] := (o6.block _ RO.lt (fun hin => by have := FRA.out.2 _ hin; omega)).trans RO
         have S7 := SZ.drew'.only o6 (fun b hb => by have := FRA.out.2 b hb; omega)
         have O7 := only_newS OZ.drew o6 (fun x hx => .inr (by have := FRA.out.2 x hx; omega))
         have R6 := Lib.hid r6
         obtain ⟨A6, n6, c6, rfl⟩ := slice_form r6
         have hs6 : w7.heap.size ≤ w6.heap.size := o6.size
         clear r6 o6 q6 x6 REPA REPB
         refine hK.out _ _ ⟨RP.c0, RP.c1, RP.c2, RP.c3, RQ.c0, RQ.c1, RQ.c2, RQ.c3⟩ (fun _ => ?_)
         clear hK K
         replace hS := (⟨RP.c0, RP.c1, RP.c2, RP.c3, RQ.c0, RQ.c1, RQ.c2, RQ.c3⟩ : w6.cell? ⟨bP, 0, none⟩ = some (.int .i64 p.x1) ∧ w6.cell? ⟨bP, 1, none⟩ = some (.int .i64 p.y1) ∧ w6.cell? ⟨bP, 2, none⟩ = some (.int .i64 p.x2) ∧ w6.cell? ⟨bP, 3, none⟩ = some (.int .i64 p.y2) ∧ w6.cell? ⟨bQ, 0, none⟩ = some (.int .i64 q.x1) ∧ w6.cell? ⟨bQ, 1, none⟩ = some (.int .i64 q.y1) ∧ w6.cell? ⟨bQ, 2, none⟩ = some (.int .i64 q.x2) ∧ w6.cell? ⟨bQ, 3, none⟩ = some (.int .i64 q.y2))
         refine rJ 5 fun K hK => ?_
         refine step_call 43 #[.tmp 115, .tmp 116] _ rfl rfl #[.agg #[.int .i64 p.x1, .int .i64 p.y1, .int .i64 p.x2, .int .i64 p.y2], .agg #[.int .i64 q.x1, .int .i64 q.y1, .int .i64 q.x2, .int .i64 q.y2]] Try.call43 (by go_simp) (spec_l02Join_c p q _) ?_
         rintro e w8 ⟨rfl, b8⟩
         refine ⟨_, rfl, ?_⟩
         replace RP := RP.later b8
         replace RQ := RQ.later b8
         replace RO := RO.later b8
         replace S7 := S7.below b8
         replace O7 := O7.trans (Only.of_below b8)
         replace R6 := Lib.hid (R6.out.below b8)
         replace hS := (⟨RP.c0, RP.c1, RP.c2, RP.c3, RQ.c0, RQ.c1, RQ.c2, RQ.c3⟩ : w8.cell? ⟨bP, 0, none⟩ = some (.int .i64 p.x1) ∧ w8.cell? ⟨bP, 1, none⟩ = some (.int .i64 p.y1) ∧ w8.cell? ⟨bP, 2, none⟩ = some (.int .i64 p.x2) ∧ w8.cell? ⟨bP, 3, none⟩ = some (.int .i64 p.y2) ∧ w8.cell? ⟨bQ, 0, none⟩ = some (.int .i64 q.x1) ∧ w8.cell? ⟨bQ, 1, none⟩ = some (.int .i64 q.y1) ∧ w8.cell? ⟨bQ, 2, none⟩ = some (.int .i64 q.x2) ∧ w8.cell? ⟨bQ, 3, none⟩ = some (.int .i64 q.y2))
         refine bJ hK hS ?_
         clear hK K
         simp only [Act.put, pA, pB, pC]
         refine tJ 6 hS ?_
         have u0 := RO.c0
         have u1 := RO.c1
         have u2 := RO.c2
         have u3 := RO.c3
         have uF := RO.frozen
         refine rJ 7 fun K hK => ?_
         simp only [boxV]
         go_simp
         have pne : bP ≠ w.heap.size := by omega
         have qne : bQ ≠ w.heap.size := by omega
         refine hK.out _ _ ⟨(cell_farU pne _ _ _ _).trans (RP.c0), (cell_farU pne _ _ _ _).trans (RP.c1), (cell_farU pne _ _ _ _).trans (RP.c2), (cell_farU pne _ _ _ _).trans (RP.c3), (cell_farU qne _ _ _ _).trans (RQ.c0), (cell_farU qne _ _ _ _).trans (RQ.c1), (cell_farU qne _ _ _ _).trans (RQ.c2), (cell_farU qne _ _ _ _).trans (RQ.c3)⟩ (fun _ => ?_)
         clear hK K hS
         refine wpAnyH_done (by kernel_rfl) ?_ _
         have RR := four_cells RO rfl (.int .i64 (joinB p q).x1) (.int .i64 (joinB p q).y1) (.int .i64 (joinB p q).x2) (.int .i64 (joinB p q).y2)
         have d0 := RR.c0
         have d1 := RR.c1
         have d2 := RR.c2
         have d3 := RR.c3
         have hbj := BoxLe.join (bp.mono (K := _) (L := M + farP (d + 1)) (by simp only [farP]; omega)) (bq.mono (L := M + farP (d + 1)) (by simp only [farP]; omega))
         have N9 := (((R6.out.setCell (p := ⟨w.heap.size, 0, none⟩) hO6 (.int .i64 (joinB p q).x1)).setCell (p := ⟨w.heap.size, 1, none⟩) hO6 (.int .i64 (joinB p q).y1)).setCell (p := ⟨w.heap.size, 2, none⟩) hO6 (.int .i64 (joinB p q).x2)).setCell (p := ⟨w.heap.size, 3, none⟩) hO6 (.int .i64 (joinB p q).y2)
         have O9 := (((O7.set_new (p := ⟨w.heap.size, 0, none⟩) (Nat.le_refl _) (.int .i64 (joinB p q).x1)).set_new (p := ⟨w.heap.size, 1, none⟩) (Nat.le_refl _) (.int .i64 (joinB p q).y1)).set_new (p := ⟨w.heap.size, 2, none⟩) (Nat.le_refl _) (.int .i64 (joinB p q).x2)).set_new (p := ⟨w.heap.size, 3, none⟩) (Nat.le_refl _) (.int .i64 (joinB p q).y2)
         have S9 := (((S7.far (p := ⟨w.heap.size, 0, none⟩) hB (.int .i64 (joinB p q).x1)).far (p := ⟨w.heap.size, 1, none⟩) hB (.int .i64 (joinB p q).y1)).far (p := ⟨w.heap.size, 2, none⟩) hB (.int .i64 (joinB p q).x2)).far (p := ⟨w.heap.size, 3, none⟩) hB (.int .i64 (joinB p q).y2)
         clear RR RO RP RQ R6 O7 S7 u0 u1 u2 u3 uF
         go_wp2_with fail
         refine bodyPost_ret (v := .tuple #[.slice A6 n6 c6, .agg #[.int .i64 (joinB p q).x1, .int .i64 (joinB p q).y1, .int .i64 (joinB p q).x2, .int .i64 (joinB p q).y2]]) (by simp [results, Try.results46, go_sem, d0, d1, d2, d3]) rfl ⟨az ++ bs, _, F6, (joinB p q), rfl, N9, fr6, by rw [List.length_append]; omega, by rw [List.length_append]; simp only [cntP]; omega, fun c hc => by
          rcases List.mem_append.1 hc with hc | hc
          · exact (SMA.out c hc).mono (by simp only [farP]; omega)
          · exact (SMB.out c hc).mono (by simp only [farP]; omega), hbj, S9.more (by simp only [rdP]; omega), O9⟩
       · subst hk
         have e1 := IntWalk.i64_in (p.x2 + 2) (by omega)
         have e2 := IntWalk.i64_in (size / 4) (by omega)
         have e3 := IntWalk.i64_in (p.y2 - size / 4) (by omega)
         have e4 := IntWalk.i64_in (size / 2) (by omega)
         have t2 : size.tdiv 2 = size / 2 := Int.tdiv_eq_ediv_of_nonneg (by omega)
         have t4 : size.tdiv 4 = size / 4 := Int.tdiv_eq_ediv_of_nonneg (by omega)
         have r2 := RP.c2
         have r1 := RP.c3
         have CQ := Lib.hid (spec_l21Place0_c (mr := m + 1 + rdP d + 10) (n := 1) (M := M + farP d + 10) (K := 100) (p.x2 + 2) (p.y2 - size / 4) (size / 2) w3 S3 (by omega) (by omega) (by omega) (by omega) (by omega) (by omega) (by omega) (by omega) (by omega))
         go_wp2_with fail
         refine CQ.out.mono ?_
         rintro e w6a ⟨bs, vb, GB, q, rfl, repB, frB, lb1, lb2, smB, bq, S6, O6⟩
         obtain ⟨UB, cB, rfl⟩ := slice_len repB
         have hlB : ∀ b ∈ GB, b < w6a.heap.size := fun b hb => (pSymbols _).lt repB b hb
         have REPB := Lib.hid repB
         have SMB := Lib.hid smB
         replace RP := row_o RP O6 (by omega)
         replace RO := row_o RO O6 (by omega)
         replace REPA := Lib.hid (REPA.out.only O6 (fun b hb hin => by simp at hin; subst hin; exact hgA hb))
         have hz6 : w3.heap.size ≤ w6a.heap.size := O6.size
         replace O6 := O3.trans O6
         have nQA : w6a.heap.size ∉ GA := fun hin => by have := hlA _ hin; omega
         have RQ := Row.new w6a 48 #[.int .i64 q.x1, .int .i64 q.y1, .int .i64 q.x2, .int .i64 q.y2]
         replace RP := RP.alloc (.cells #[.int .i64 q.x1, .int .i64 q.y1, .int .i64 q.x2, .int .i64 q.y2] 48)
         replace RO := RO.alloc (.cells #[.int .i64 q.x1, .int .i64 q.y1, .int .i64 q.x2, .int .i64 q.y2] 48)
         replace REPA := Lib.hid (REPA.out.alloc (.cells #[.int .i64 q.x1, .int .i64 q.y1, .int .i64 q.x2, .int .i64 q.y2] 48))
         replace REPB := Lib.hid (REPB.out.alloc (.cells #[.int .i64 q.x1, .int .i64 q.y1, .int .i64 q.x2, .int .i64 q.y2] 48))
         have SZ := S6.alloc (.cells #[.int .i64 q.x1, .int .i64 q.y1, .int .i64 q.x2, .int .i64 q.y2] 48)
         have OZ := O6.alloc (.cells #[.int .i64 q.x1, .int .i64 q.y1, .int .i64 q.x2, .int .i64 q.y2] 48)
         have lb2 : bs.length ≤ cntP d := by (have : 1 ≤ cntP d := by (cases d <;> simp only [cntP] <;> omega)); omega
         have hgQ : g < w6a.heap.size := by omega
         clear r1 r2 S6 O6
         go_upto_region 17 with fail
         generalize hw7 : w6a.alloc (.cells #[.int .i64 q.x1, .int .i64 q.y1, .int .i64 q.x2, .int .i64 q.y2] 48) = w7 at RP RO RQ REPA REPB SZ OZ ⊢
         have hw7s : w6a.heap.size < w7.heap.size := RQ.lt
         have hPQ : bP < w6a.heap.size := by omega
         have hwO : w.heap.size ≤ w7.heap.size := by omega
         generalize w6a.heap.size = bQ at RQ nQA hw7s hPQ hgQ ⊢
         clear hw7
         have hS : (fun w' : World => w'.cell? ⟨bP, 0, none⟩ = some (.int .i64 p.x1) ∧ w'.cell? ⟨bP, 1, none⟩ = some (.int .i64 p.y1) ∧ w'.cell? ⟨bP, 2, none⟩ = some (.int .i64 p.x2) ∧ w'.cell? ⟨bP, 3, none⟩ = some (.int .i64 p.y2) ∧ w'.cell? ⟨bQ, 0, none⟩ = some (.int .i64 q.x1) ∧ w'.cell? ⟨bQ, 1, none⟩ = some (.int .i64 q.y1) ∧ w'.cell? ⟨bQ, 2, none⟩ = some (.int .i64 q.x2) ∧ w'.cell? ⟨bQ, 3, none⟩ = some (.int .i64 q.y2)) w7.drew := ⟨RP.c0, RP.c1, RP.c2, RP.c3, RQ.c0, RQ.c1, RQ.c2, RQ.c3⟩
         dsimp only at hS
         refine wp_region_held_drew (S := (fun w' : World => w'.cell? ⟨bP, 0, none⟩ = some (.int .i64 p.x1) ∧ w'.cell? ⟨bP, 1, none⟩ = some (.int .i64 p.y1) ∧ w'.cell? ⟨bP, 2, none⟩ = some (.int .i64 p.x2) ∧ w'.cell? ⟨bP, 3, none⟩ = some (.int .i64 p.y2) ∧ w'.cell? ⟨bQ, 0, none⟩ = some (.int .i64 q.x1) ∧ w'.cell? ⟨bQ, 1, none⟩ = some (.int .i64 q.y1) ∧ w'.cell? ⟨bQ, 2, none⟩ = some (.int .i64 q.x2) ∧ w'.cell? ⟨bQ, 3, none⟩ = some (.int .i64 q.y2))) (by kernel_rfl) hS (fun _ => ?_)
         refine tJ 0 hS ?_
         refine tJ 1 hS ?_
         refine tJ 3 hS ?_
         refine tJ 4 hS ?_
         refine rJ 2 fun K hK => ?_
         refine step_append_repX (T := pSymbol) (e := 50) (ys := bs) (ec := bs.flatMap pSymbolCells) rfl (.tmp 135) (.tmp 136) rfl Try.underlying24 infoSym rfl (by decide) rfl REPA.out.drew rfl (repL_pSymbol bs (pSymbols_ok REPB.out)) (syms_at REPB.out.drew) (by rw [List.append_nil]; exact FRA.out.1) (by unfold maxLen; omega) (by omega) ?_
         intro v6 w6 F6 r6 o6 q6 x6
         have fr6 : Fresh w.heap.size F6 := q6 w.heap.size (by rw [List.append_nil]; exact ⟨FRA.out.1, fun b hb => by have := FRA.out.2 b hb; omega⟩) (by show w.heap.size ≤ w7.heap.size; omega)
         have hx6 : ∀ b ∈ F6, b ∈ GA ∨ w7.heap.size ≤ b := fun b hb => by
          rcases x6.1 b hb with h | h
          · exact .inl (by simpa using h)
          · exact .inr h
         have hO6 : w.heap.size ∉ F6 := fun hin => by
          rcases hx6 _ hin with h | h
          · have := FRA.out.2 _ h; omega
          · omega
         replace RP : Row w6 bP 48 [.int .i64 p.x1, .int .i64 p.y1, .int .i64 p.x2, .int .i64 p.y2] := (o6.block _ RP.lt (fun hin => by have := hlA _ hin; omega)).trans RP
         replace RQ : Row w6 bQ 48 [.int .i64 q.x1, .int .i64 q.y1, .int .i64 q.x2, .int .i64 q.y2] := (o6.block _ RQ.lt nQA).trans RQ
         replace RO : Row w6 w.heap.size 48 [.int .i64 0, .int .i64 0, .int .i64 0, .int .i64 0] := (o6.block _ RO.lt (fun hin => by have := FRA.out.2 _ hin; omega)).trans RO
         have S7 := SZ.drew'.only o6 (fun b hb => by have := FRA.out.2 b hb; omega)
         have O7 := only_newS OZ.drew o6 (fun x hx => .inr (by have := FRA.out.2 x hx; omega))
         have R6 := Lib.hid r6
         obtain ⟨A6, n6, c6, rfl⟩ := slice_form r6
         have hs6 : w7.heap.size ≤ w6.heap.size := o6.size
         clear r6 o6 q6 x6 REPA REPB
         refine hK.out _ _ ⟨RP.c0, RP.c1, RP.c2, RP.c3, RQ.c0, RQ.c1, RQ.c2, RQ.c3⟩ (fun _ => ?_)
         clear hK K
         replace hS := (⟨RP.c0, RP.c1, RP.c2, RP.c3, RQ.c0, RQ.c1, RQ.c2, RQ.c3⟩ : w6.cell? ⟨bP, 0, none⟩ = some (.int .i64 p.x1) ∧ w6.cell? ⟨bP, 1, none⟩ = some (.int .i64 p.y1) ∧ w6.cell? ⟨bP, 2, none⟩ = some (.int .i64 p.x2) ∧ w6.cell? ⟨bP, 3, none⟩ = some (.int .i64 p.y2) ∧ w6.cell? ⟨bQ, 0, none⟩ = some (.int .i64 q.x1) ∧ w6.cell? ⟨bQ, 1, none⟩ = some (.int .i64 q.y1) ∧ w6.cell? ⟨bQ, 2, none⟩ = some (.int .i64 q.x2) ∧ w6.cell? ⟨bQ, 3, none⟩ = some (.int .i64 q.y2))
         refine rJ 5 fun K hK => ?_
         refine step_call 43 #[.tmp 138, .tmp 139] _ rfl rfl #[.agg #[.int .i64 p.x1, .int .i64 p.y1, .int .i64 p.x2, .int .i64 p.y2], .agg #[.int .i64 q.x1, .int .i64 q.y1, .int .i64 q.x2, .int .i64 q.y2]] Try.call43 (by go_simp) (spec_l02Join_c p q _) ?_
         rintro e w8 ⟨rfl, b8⟩
         refine ⟨_, rfl, ?_⟩
         replace RP := RP.later b8
         replace RQ := RQ.later b8
         replace RO := RO.later b8
         replace S7 := S7.below b8
         replace O7 := O7.trans (Only.of_below b8)
         replace R6 := Lib.hid (R6.out.below b8)
         replace hS := (⟨RP.c0, RP.c1, RP.c2, RP.c3, RQ.c0, RQ.c1, RQ.c2, RQ.c3⟩ : w8.cell? ⟨bP, 0, none⟩ = some (.int .i64 p.x1) ∧ w8.cell? ⟨bP, 1, none⟩ = some (.int .i64 p.y1) ∧ w8.cell? ⟨bP, 2, none⟩ = some (.int .i64 p.x2) ∧ w8.cell? ⟨bP, 3, none⟩ = some (.int .i64 p.y2) ∧ w8.cell? ⟨bQ, 0, none⟩ = some (.int .i64 q.x1) ∧ w8.cell? ⟨bQ, 1, none⟩ = some (.int .i64 q.y1) ∧ w8.cell? ⟨bQ, 2, none⟩ = some (.int .i64 q.x2) ∧ w8.cell? ⟨bQ, 3, none⟩ = some (.int .i64 q.y2))
         refine bJ hK hS ?_
         clear hK K
         simp only [Act.put, pA, pB, pC]
         refine tJ 6 hS ?_
         have u0 := RO.c0
         have u1 := RO.c1
         have u2 := RO.c2
         have u3 := RO.c3
         have uF := RO.frozen
         refine rJ 7 fun K hK => ?_
         simp only [boxV]
         go_simp
         have pne : bP ≠ w.heap.size := by omega
         have qne : bQ ≠ w.heap.size := by omega
         refine hK.out _ _ ⟨(cell_farU pne _ _ _ _).trans (RP.c0), (cell_farU pne _ _ _ _).trans (RP.c1), (cell_farU pne _ _ _ _).trans (RP.c2), (cell_farU pne _ _ _ _).trans (RP.c3), (cell_farU qne _ _ _ _).trans (RQ.c0), (cell_farU qne _ _ _ _).trans (RQ.c1), (cell_farU qne _ _ _ _).trans (RQ.c2), (cell_farU qne _ _ _ _).trans (RQ.c3)⟩ (fun _ => ?_)
         clear hK K hS
         refine wpAnyH_done (by kernel_rfl) ?_ _
         have RR := four_cells RO rfl (.int .i64 (joinB p q).x1) (.int .i64 (joinB p q).y1) (.int .i64 (joinB p q).x2) (.int .i64 (joinB p q).y2)
         have d0 := RR.c0
         have d1 := RR.c1
         have d2 := RR.c2
         have d3 := RR.c3
         have hbj := BoxLe.join (bp.mono (K := _) (L := M + farP (d + 1)) (by simp only [farP]; omega)) (bq.mono (L := M + farP (d + 1)) (by simp only [farP]; omega))
         have N9 := (((R6.out.setCell (p := ⟨w.heap.size, 0, none⟩) hO6 (.int .i64 (joinB p q).x1)).setCell (p := ⟨w.heap.size, 1, none⟩) hO6 (.int .i64 (joinB p q).y1)).setCell (p := ⟨w.heap.size, 2, none⟩) hO6 (.int .i64 (joinB p q).x2)).setCell (p := ⟨w.heap.size, 3, none⟩) hO6 (.int .i64 (joinB p q).y2)
         have O9 := (((O7.set_new (p := ⟨w.heap.size, 0, none⟩) (Nat.le_refl _) (.int .i64 (joinB p q).x1)).set_new (p := ⟨w.heap.size, 1, none⟩) (Nat.le_refl _) (.int .i64 (joinB p q).y1)).set_new (p := ⟨w.heap.size, 2, none⟩) (Nat.le_refl _) (.int .i64 (joinB p q).x2)).set_new (p := ⟨w.heap.size, 3, none⟩) (Nat.le_refl _) (.int .i64 (joinB p q).y2)
         have S9 := (((S7.far (p := ⟨w.heap.size, 0, none⟩) hB (.int .i64 (joinB p q).x1)).far (p := ⟨w.heap.size, 1, none⟩) hB (.int .i64 (joinB p q).y1)).far (p := ⟨w.heap.size, 2, none⟩) hB (.int .i64 (joinB p q).x2)).far (p := ⟨w.heap.size, 3, none⟩) hB (.int .i64 (joinB p q).y2)
         clear RR RO RP RQ R6 O7 S7 u0 u1 u2 u3 uF
         go_wp2_with fail
         refine bodyPost_ret (v := .tuple #[.slice A6 n6 c6, .agg #[.int .i64 (joinB p q).x1, .int .i64 (joinB p q).y1, .int .i64 (joinB p q).x2, .int .i64 (joinB p q).y2]]) (by simp [results, Try.results46, go_sem, d0, d1, d2, d3]) rfl ⟨az ++ bs, _, F6, (joinB p q), rfl, N9, fr6, by rw [List.length_append]; omega, by rw [List.length_append]; simp only [cntP]; omega, fun c hc => by
          rcases List.mem_append.1 hc with hc | hc
          · exact (SMA.out c hc).mono (by simp only [farP]; omega)
          · exact (SMB.out c hc).mono (by simp only [farP]; omega), hbj, S9.more (by simp only [rdP]; omega), O9⟩
       · subst hk
         go_upto_region 18 with fail
         go_cut [22, 23] from 141 to 155 (fun s22 s23 wx => ∃ (bs : List PSymbol) (UB : Option Addr) (cB : Nat) (GB : List Nat) (q : PBox) (bQ : Nat), s22 = .slice UB bs.length cB ∧ s23 = .pointer (some ⟨bQ, 0, none⟩) ∧ Hid (Row wx bP 48 [.int .i64 p.x1, .int .i64 p.y1, .int .i64 p.x2, .int .i64 p.y2] ∧ Row wx bQ 48 [.int .i64 q.x1, .int .i64 q.y1, .int .i64 q.x2, .int .i64 q.y2] ∧ Row wx w.heap.size 48 [.int .i64 0, .int .i64 0, .int .i64 0, .int .i64 0] ∧ (pSymbols 50).rep true wx az [.slice UA az.length cA] GA ∧ (pSymbols 50).rep true wx bs [.slice UB bs.length cB] GB) ∧ Hid (bs.length ≤ cntP d ∧ (∀ c ∈ bs, SymLe (M + farP d + 10 + farP d) c) ∧ BoxLe (M + farP d + 10 + farP d) q ∧ SrcIs B g code (m + 3 + rdP d + rdP d) wx ∧ Only [g] w wx) ∧ bQ ∉ GA ∧ bP < bQ ∧ g < bQ ∧ w3.heap.size ≤ wx.heap.size ∧ (∀ b ∈ GB, w3.heap.size ≤ b))
         case first =>
          have hS : (fun w' : World => w'.cell? ⟨bP, 3, none⟩ = some (.int .i64 p.y2)) w3.drew := RP.c3
          dsimp only at hS
          refine wp_region_held_drew (S := (fun w' : World => w'.cell? ⟨bP, 3, none⟩ = some (.int .i64 p.y2))) (by kernel_rfl) hS (fun _ => ?_)
          have e1 := IntWalk.i64_in (p.y2 + 6) (by omega)
          refine tJ 0 hS ?_
          refine tJ 1 hS ?_
          refine tJ 2 hS ?_
          refine tJ 5 hS ?_
          refine tJ 6 hS ?_
          refine tJ 7 hS ?_
          refine tJ 8 hS ?_
          refine tJ 9 hS ?_
          refine tJ 10 hS ?_
          refine rJ2 3 15 (fun K hK => ?_) (fun K hK => ?_)
          · skip
            refine step_call 56 #[.tmp 144, .const (.int .i64 5)] _ rfl rfl #[.pointer (some ⟨g, 0, none⟩), .int .i64 5] Try.call56 (by go_simp) (src_pick_c _ S3.drew' (by omega) 5 (by omega)) ?_
            rintro e w4 ⟨⟨r, r0, r1, rfl⟩, S4, O4⟩
            refine ⟨_, rfl, ?_⟩
            replace RP := RP.drew
            replace RO := RO.drew
            replace REPA := Lib.hid REPA.out.drew
            replace RP := row_o RP O4 (by omega)
            replace RO := row_o RO O4 (by omega)
            replace REPA := Lib.hid (REPA.out.only O4 (fun b hb hin => by simp at hin; subst hin; exact hgA hb))
            have hzO4 : w3.heap.size ≤ w4.heap.size := O4.size
            replace O4 := O3.drew.trans O4
            have e2 := IntWalk.i64_in (x + r) (by omega)
            replace hS := (RP.c3 : w4.cell? ⟨bP, 3, none⟩ = some (.int .i64 p.y2))
            refine bJ hK hS ?_
            clear hK K
            simp only [Act.put, pA, pB, pC]
            refine tJ 4 hS ?_
            refine rJ2 11 15 (fun K hK => ?_) (fun K hK => ?_)
            · skip
              refine step_call 46 #[.tmp 142, .tmp 146, .tmp 149, .tmp 150, .tmp 152] _ rfl rfl #[.pointer (some ⟨g, 0, none⟩), .int .i64 (x + r), .int .i64 (p.y2 + 6), .int .i64 size, .int .i64 (d : Int)] Try.call46 (by go_simp) (IH (m := m + 1 + rdP d + 1) (M := M + farP d + 10) (x := x + r) (y := p.y2 + 6) (size := size) w4 (S4.more (by omega)) (by omega) (by have := O4.size; omega) (by omega) (by omega) hs (by omega)) ?_
              rintro e w6a ⟨bs, vb, GB, q, rfl, repB, frB, lb1, lb2, smB, bq, S6, O6⟩
              refine ⟨_, rfl, ?_⟩
              replace RP := row_o RP O6 (by omega)
              replace RO := row_o RO O6 (by omega)
              replace REPA := Lib.hid (REPA.out.only O6 (fun b hb hin => by simp at hin; subst hin; exact hgA hb))
              have hzO6 : w4.heap.size ≤ w6a.heap.size := O6.size
              replace O6 := O4.trans O6
              obtain ⟨UB, cB, rfl⟩ := slice_len repB
              have hlB : ∀ b ∈ GB, b < w6a.heap.size := fun b hb => (pSymbols _).lt repB b hb
              have frB2 := frB.2
              have REPB := Lib.hid repB
              have SMB := Lib.hid smB
              replace hS := (RP.c3 : w6a.cell? ⟨bP, 3, none⟩ = some (.int .i64 p.y2))
              refine bJ hK hS ?_
              clear hK K
              simp only [Act.put, pA, pB, pC]
              refine tJ 12 hS ?_
              refine tJ 13 hS ?_
              refine tJ 14 hS ?_
              refine rJ 15 fun K hK => ?_
              go_simp
              have hlP := RP.lt
              refine hK.out _ _ ?_ (fun _ => ?_)
              · exact (World.cell?_alloc_past (w := w6a) _ _ _ hlP).trans (RP.c3)
              clear hK K
              have RZ := (Row.new w6a 48 #[.int .i64 0, .int .i64 0, .int .i64 0, .int .i64 0])
              replace RP := (RP.alloc (.cells #[.int .i64 0, .int .i64 0, .int .i64 0, .int .i64 0] 48))
              replace RO := (RO.alloc (.cells #[.int .i64 0, .int .i64 0, .int .i64 0, .int .i64 0] 48))
              replace REPA := Lib.hid (REPA.out.alloc (.cells #[.int .i64 0, .int .i64 0, .int .i64 0, .int .i64 0] 48))
              replace REPB := Lib.hid (REPB.out.alloc (.cells #[.int .i64 0, .int .i64 0, .int .i64 0, .int .i64 0] 48))
              have S6z := (S6.alloc (.cells #[.int .i64 0, .int .i64 0, .int .i64 0, .int .i64 0] 48))
              have O6z := (O6.alloc (.cells #[.int .i64 0, .int .i64 0, .int .i64 0, .int .i64 0] 48))
              have hzA := O6.size
              replace hS := (RP.c3 : (w6a.alloc (.cells #[.int .i64 0, .int .i64 0, .int .i64 0, .int .i64 0] 48)).cell? ⟨bP, 3, none⟩ = some (.int .i64 p.y2))
              have hbz : w3.heap.size ≤ w6a.heap.size := by omega
              have nZA : w6a.heap.size ∉ GA := fun hin => by have := hlA _ hin; omega
              have nZB : w6a.heap.size ∉ GB := fun hin => by have := hlB _ hin; omega
              have hwz : w6a.heap.size < (w6a.alloc (.cells #[.int .i64 0, .int .i64 0, .int .i64 0, .int .i64 0] 48)).heap.size := by simp
              generalize hbZ : w6a.heap.size = bZ at RZ nZA hwz hbz nZB ⊢
              generalize (w6a.alloc (.cells #[.int .i64 0, .int .i64 0, .int .i64 0, .int .i64 0] 48)) = WA2 at RP RO REPA RZ S6z O6z hS hwz REPB ⊢
              skip
              have v0 := RZ.c0
              have v1 := RZ.c1
              have v2 := RZ.c2
              have v3 := RZ.c3
              have vF := RZ.frozen
              refine tJ 16 hS ?_
              refine rJ 17 fun K hK => ?_
              have hzZ : w3.heap.size ≤ WA2.heap.size := by omega
              have lRZ := RZ.lt
              generalize hWZ : WA2 = WZ at RP RO REPA REPB RZ S6z O6z hS v0 v1 v2 v3 vF hzZ lRZ ⊢
              go_simp
              have zne : bP ≠ bZ := by omega
              refine hK.out _ _ ?_ (fun _ => ?_)
              · exact (cell_farU zne _ _ _ _).trans hS
              clear hK K hS
              refine wpAnyH_done (by kernel_rfl) ?_ _
              go_wp2_with fail
              go_meet
              refine ⟨bs, UB, cB, GB, q, bZ, rfl, rfl, Lib.hid ⟨RP.far4 (by omega) _ _ _ _, four_cells RZ rfl _ _ _ _, RO.far4 (by omega) _ _ _ _, ?_, ?_⟩, Lib.hid ⟨lb2, fun c hc => SMB.out c hc, bq, ?_, ?_⟩, by simpa using nZA, by omega, by omega, ?_, ?_⟩
              · exact (((REPA.out.setCell nZA _).setCell nZA _).setCell nZA _).setCell nZA _
              · exact (((REPB.out.setCell nZB _).setCell nZB _).setCell nZB _).setCell nZB _
              · exact ((((S6z.far (by show B ≤ bZ; omega) _).far (by show B ≤ bZ; omega) _).far (by show B ≤ bZ; omega) _).far (by show B ≤ bZ; omega) _).more (by omega)
              · exact (((O6z.set_new (by show _ ≤ bZ; omega) _).set_new (by show _ ≤ bZ; omega) _).set_new (by show _ ≤ bZ; omega) _).set_new (by show _ ≤ bZ; omega) _
              · simp only [World.setCell, Array.size_modify]; omega
              · intro b hb; have := frB2 b hb; omega
            · skip
              go_simp
              have hlP := RP.lt
              refine hK.out _ _ ?_ (fun _ => ?_)
              · exact (World.cell?_alloc_past (w := w4) _ _ _ hlP).trans (RP.c3)
              clear hK K
              have RZ := (Row.new w4 48 #[.int .i64 0, .int .i64 0, .int .i64 0, .int .i64 0])
              replace RP := (RP.alloc (.cells #[.int .i64 0, .int .i64 0, .int .i64 0, .int .i64 0] 48))
              replace RO := (RO.alloc (.cells #[.int .i64 0, .int .i64 0, .int .i64 0, .int .i64 0] 48))
              replace REPA := Lib.hid (REPA.out.alloc (.cells #[.int .i64 0, .int .i64 0, .int .i64 0, .int .i64 0] 48))
              have S4z := (S4.alloc (.cells #[.int .i64 0, .int .i64 0, .int .i64 0, .int .i64 0] 48))
              have O4z := (O4.alloc (.cells #[.int .i64 0, .int .i64 0, .int .i64 0, .int .i64 0] 48))
              have hzA := O4.size
              replace hS := (RP.c3 : (w4.alloc (.cells #[.int .i64 0, .int .i64 0, .int .i64 0, .int .i64 0] 48)).cell? ⟨bP, 3, none⟩ = some (.int .i64 p.y2))
              have hbz : w3.heap.size ≤ w4.heap.size := by omega
              have nZA : w4.heap.size ∉ GA := fun hin => by have := hlA _ hin; omega
              have hwz : w4.heap.size < (w4.alloc (.cells #[.int .i64 0, .int .i64 0, .int .i64 0, .int .i64 0] 48)).heap.size := by simp
              generalize hbZ : w4.heap.size = bZ at RZ nZA hwz hbz  ⊢
              generalize (w4.alloc (.cells #[.int .i64 0, .int .i64 0, .int .i64 0, .int .i64 0] 48)) = WA1 at RP RO REPA RZ S4z O4z hS hwz  ⊢
              refine rJ 11 fun K hK => ?_
              refine step_call 46 #[.tmp 142, .tmp 146, .tmp 149, .tmp 150, .tmp 152] _ rfl rfl #[.pointer (some ⟨g, 0, none⟩), .int .i64 (x + r), .int .i64 (p.y2 + 6), .int .i64 size, .int .i64 (d : Int)] Try.call46 (by go_simp) (IH (m := m + 1 + rdP d + 1) (M := M + farP d + 10) (x := x + r) (y := p.y2 + 6) (size := size) WA1 (S4z.more (by omega)) (by omega) (by have := O4z.size; omega) (by omega) (by omega) hs (by omega)) ?_
              rintro e w6a ⟨bs, vb, GB, q, rfl, repB, frB, lb1, lb2, smB, bq, S6, O6⟩
              refine ⟨_, rfl, ?_⟩
              replace RP := row_o RP O6 (by omega)
              replace RO := row_o RO O6 (by omega)
              replace REPA := Lib.hid (REPA.out.only O6 (fun b hb hin => by simp at hin; subst hin; exact hgA hb))
              replace RZ := row_o RZ O6 (by omega)
              have hzO6 : WA1.heap.size ≤ w6a.heap.size := O6.size
              replace O6 := O4z.trans O6
              obtain ⟨UB, cB, rfl⟩ := slice_len repB
              have hlB : ∀ b ∈ GB, b < w6a.heap.size := fun b hb => (pSymbols _).lt repB b hb
              have frB2 := frB.2
              have REPB := Lib.hid repB
              have SMB := Lib.hid smB
              replace hS := (RP.c3 : w6a.cell? ⟨bP, 3, none⟩ = some (.int .i64 p.y2))
              refine bJ hK hS ?_
              clear hK K
              simp only [Act.put, pA, pB, pC]
              have nZB : bZ ∉ GB := fun hin => by have := frB.2 _ hin; omega
              refine tJ 12 hS ?_
              refine tJ 13 hS ?_
              refine tJ 14 hS ?_
              skip
              have v0 := RZ.c0
              have v1 := RZ.c1
              have v2 := RZ.c2
              have v3 := RZ.c3
              have vF := RZ.frozen
              refine tJ 16 hS ?_
              refine rJ 17 fun K hK => ?_
              have hzZ : w3.heap.size ≤ w6a.heap.size := by omega
              have lRZ := RZ.lt
              generalize hWZ : w6a = WZ at RP RO REPA REPB RZ S6 O6 hS v0 v1 v2 v3 vF hzZ lRZ ⊢
              go_simp
              have zne : bP ≠ bZ := by omega
              refine hK.out _ _ ?_ (fun _ => ?_)
              · exact (cell_farU zne _ _ _ _).trans hS
              clear hK K hS
              refine wpAnyH_done (by kernel_rfl) ?_ _
              go_wp2_with fail
              go_meet
              refine ⟨bs, UB, cB, GB, q, bZ, rfl, rfl, Lib.hid ⟨RP.far4 (by omega) _ _ _ _, four_cells RZ rfl _ _ _ _, RO.far4 (by omega) _ _ _ _, ?_, ?_⟩, Lib.hid ⟨lb2, fun c hc => SMB.out c hc, bq, ?_, ?_⟩, by simpa using nZA, by omega, by omega, ?_, ?_⟩
              · exact (((REPA.out.setCell nZA _).setCell nZA _).setCell nZA _).setCell nZA _
              · exact (((REPB.out.setCell nZB _).setCell nZB _).setCell nZB _).setCell nZB _
              · exact ((((S6.far (by show B ≤ bZ; omega) _).far (by show B ≤ bZ; omega) _).far (by show B ≤ bZ; omega) _).far (by show B ≤ bZ; omega) _).more (by omega)
              · exact (((O6.set_new (by show _ ≤ bZ; omega) _).set_new (by show _ ≤ bZ; omega) _).set_new (by show _ ≤ bZ; omega) _).set_new (by show _ ≤ bZ; omega) _
              · simp only [World.setCell, Array.size_modify]; omega
              · intro b hb; have := frB2 b hb; omega
          · skip
            go_simp
            have hlP := RP.lt
            refine hK.out _ _ ?_ (fun _ => ?_)
            · exact past_drew _ hlP (RP.c3)
            clear hK K
            have RZ := (Row.new w3 48 #[.int .i64 0, .int .i64 0, .int .i64 0, .int .i64 0]).drew
            replace RP := (RP.alloc (.cells #[.int .i64 0, .int .i64 0, .int .i64 0, .int .i64 0] 48)).drew
            replace RO := (RO.alloc (.cells #[.int .i64 0, .int .i64 0, .int .i64 0, .int .i64 0] 48)).drew
            replace REPA := Lib.hid (REPA.out.alloc (.cells #[.int .i64 0, .int .i64 0, .int .i64 0, .int .i64 0] 48)).drew
            have S3z := (S3.alloc (.cells #[.int .i64 0, .int .i64 0, .int .i64 0, .int .i64 0] 48)).drew'
            have O3z := (O3.alloc (.cells #[.int .i64 0, .int .i64 0, .int .i64 0, .int .i64 0] 48)).drew
            have hzA := O3.size
            replace hS := (RP.c3 : (w3.alloc (.cells #[.int .i64 0, .int .i64 0, .int .i64 0, .int .i64 0] 48)).drew.cell? ⟨bP, 3, none⟩ = some (.int .i64 p.y2))
            have hbz : w3.heap.size ≤ w3.heap.size := by omega
            have nZA : w3.heap.size ∉ GA := fun hin => by have := hlA _ hin; omega
            have hwz : w3.heap.size < (w3.alloc (.cells #[.int .i64 0, .int .i64 0, .int .i64 0, .int .i64 0] 48)).drew.heap.size := by simp
            generalize hbZ : w3.heap.size = bZ at RZ nZA hwz hbz  ⊢
            generalize (w3.alloc (.cells #[.int .i64 0, .int .i64 0, .int .i64 0, .int .i64 0] 48)).drew = WA0 at RP RO REPA RZ S3z O3z hS hwz  ⊢
            refine rJ 3 fun K hK => ?_
            refine step_call 56 #[.tmp 144, .const (.int .i64 5)] _ rfl rfl #[.pointer (some ⟨g, 0, none⟩), .int .i64 5] Try.call56 (by go_simp) (src_pick_c _ S3z (by omega) 5 (by omega)) ?_
            rintro e w4 ⟨⟨r, r0, r1, rfl⟩, S4, O4⟩
            refine ⟨_, rfl, ?_⟩
            replace RP := row_o RP O4 (by omega)
            replace RO := row_o RO O4 (by omega)
            replace REPA := Lib.hid (REPA.out.only O4 (fun b hb hin => by simp at hin; subst hin; exact hgA hb))
            replace RZ := row_o RZ O4 (by omega)
            have hzO4 : WA0.heap.size ≤ w4.heap.size := O4.size
            replace O4 := O3z.trans O4
            have e2 := IntWalk.i64_in (x + r) (by omega)
            replace hS := (RP.c3 : w4.cell? ⟨bP, 3, none⟩ = some (.int .i64 p.y2))
            refine bJ hK hS ?_
            clear hK K
            simp only [Act.put, pA, pB, pC]
            refine tJ 4 hS ?_
            refine rJ 11 fun K hK => ?_
            refine step_call 46 #[.tmp 142, .tmp 146, .tmp 149, .tmp 150, .tmp 152] _ rfl rfl #[.pointer (some ⟨g, 0, none⟩), .int .i64 (x + r), .int .i64 (p.y2 + 6), .int .i64 size, .int .i64 (d : Int)] Try.call46 (by go_simp) (IH (m := m + 1 + rdP d + 1) (M := M + farP d + 10) (x := x + r) (y := p.y2 + 6) (size := size) w4 (S4.more (by omega)) (by omega) (by have := O4.size; omega) (by omega) (by omega) hs (by omega)) ?_
            rintro e w6a ⟨bs, vb, GB, q, rfl, repB, frB, lb1, lb2, smB, bq, S6, O6⟩
            refine ⟨_, rfl, ?_⟩
            replace RP := row_o RP O6 (by omega)
            replace RO := row_o RO O6 (by omega)
            replace REPA := Lib.hid (REPA.out.only O6 (fun b hb hin => by simp at hin; subst hin; exact hgA hb))
            replace RZ := row_o RZ O6 (by omega)
            have hzO6 : w4.heap.size ≤ w6a.heap.size := O6.size
            replace O6 := O4.trans O6
            obtain ⟨UB, cB, rfl⟩ := slice_len repB
            have hlB : ∀ b ∈ GB, b < w6a.heap.size := fun b hb => (pSymbols _).lt repB b hb
            have frB2 := frB.2
            have REPB := Lib.hid repB
            have SMB := Lib.hid smB
            replace hS := (RP.c3 : w6a.cell? ⟨bP, 3, none⟩ = some (.int .i64 p.y2))
            refine bJ hK hS ?_
            clear hK K
            simp only [Act.put, pA, pB, pC]
            have nZB : bZ ∉ GB := fun hin => by have := frB.2 _ hin; omega
            refine tJ 12 hS ?_
            refine tJ 13 hS ?_
            refine tJ 14 hS ?_
            skip
            have v0 := RZ.c0
            have v1 := RZ.c1
            have v2 := RZ.c2
            have v3 := RZ.c3
            have vF := RZ.frozen
            refine tJ 16 hS ?_
            refine rJ 17 fun K hK => ?_
            have hzZ : w3.heap.size ≤ w6a.heap.size := by omega
            have lRZ := RZ.lt
            generalize hWZ : w6a = WZ at RP RO REPA REPB RZ S6 O6 hS v0 v1 v2 v3 vF hzZ lRZ ⊢
            go_simp
            have zne : bP ≠ bZ := by omega
            refine hK.out _ _ ?_ (fun _ => ?_)
            · exact (cell_farU zne _ _ _ _).trans hS
            clear hK K hS
            refine wpAnyH_done (by kernel_rfl) ?_ _
            go_wp2_with fail
            go_meet
            refine ⟨bs, UB, cB, GB, q, bZ, rfl, rfl, Lib.hid ⟨RP.far4 (by omega) _ _ _ _, four_cells RZ rfl _ _ _ _, RO.far4 (by omega) _ _ _ _, ?_, ?_⟩, Lib.hid ⟨lb2, fun c hc => SMB.out c hc, bq, ?_, ?_⟩, by simpa using nZA, by omega, by omega, ?_, ?_⟩
            · exact (((REPA.out.setCell nZA _).setCell nZA _).setCell nZA _).setCell nZA _
            · exact (((REPB.out.setCell nZB _).setCell nZB _).setCell nZB _).setCell nZB _
            · exact ((((S6.far (by show B ≤ bZ; omega) _).far (by show B ≤ bZ; omega) _).far (by show B ≤ bZ; omega) _).far (by show B ≤ bZ; omega) _).more (by omega)
            · exact (((O6.set_new (by show _ ≤ bZ; omega) _).set_new (by show _ ≤ bZ; omega) _).set_new (by show _ ≤ bZ; omega) _).set_new (by show _ ≤ bZ; omega) _
            · simp only [World.setCell, Array.size_modify]; omega
            · intro b hb; have := frB2 b hb; omega
         case rest =>
          obtain ⟨w7, hw7⟩ : ∃ W, W = wc := ⟨_, rfl⟩
          subst hw7
          obtain ⟨bs, UB, cB, GB, q, bQ, rfl, rfl, hrows, hrest, nQA, hPQ, hgQ, hsz7, dGB⟩ := hcut
          obtain ⟨RP', RQ, RO', repA', repB'⟩ := hrows.out
          obtain ⟨lb2, smB, bq, SZ, OZ⟩ := hrest.out
          clear hrows hrest
          have REPA' := Lib.hid repA'
          have REPB := Lib.hid repB'
          have SMB := Lib.hid smB
          clear RP RO REPA S3 O3 repA' repB' smB
          have RP := RP'
          have RO := RO'
          have REPA := REPA'
          clear RP' RO' REPA'
          have hwO : w.heap.size ≤ w7.heap.size := by omega
          have hq7 := RQ.lt
          have hlB7 : ∀ b ∈ GB, b < w7.heap.size := fun b hb => (pSymbols 50).lt REPB.out b hb
          have hbq := bq
          unfold BoxLe at hbq
          have f1 := IntWalk.i64_in (x - 4) (by omega)
          have f2 := IntWalk.i64_in (p.y2 + 2) (by omega)
          have f3 := IntWalk.i64_in (max p.x2 q.x2 + 4) (by omega)
          have f4 := IntWalk.i64_in (p.y2 + 4) (by omega)
          go_upto_region 19 with fail
          have hS : (fun w' : World => w'.cell? ⟨bP, 2, none⟩ = some (.int .i64 p.x2) ∧ w'.cell? ⟨bP, 3, none⟩ = some (.int .i64 p.y2) ∧ w'.cell? ⟨bQ, 2, none⟩ = some (.int .i64 q.x2)) w7.drew := ⟨RP.c2, RP.c3, RQ.c2⟩
          dsimp only at hS
          refine wp_region_held_drew (S := (fun w' : World => w'.cell? ⟨bP, 2, none⟩ = some (.int .i64 p.x2) ∧ w'.cell? ⟨bP, 3, none⟩ = some (.int .i64 p.y2) ∧ w'.cell? ⟨bQ, 2, none⟩ = some (.int .i64 q.x2))) (by kernel_rfl) hS (fun _ => ?_)
          refine tJ 0 hS ?_
          refine tJ 1 hS ?_
          refine tJ 3 hS ?_
          refine tJ 4 hS ?_
          refine tJ 5 hS ?_
          refine tJ 6 hS ?_
          refine tJ 7 hS ?_
          refine tJ 8 hS ?_
          refine tJ 9 hS ?_
          refine tJ 12 hS ?_
          refine tJ 13 hS ?_
          refine tJ 14 hS ?_
          refine tC (i := 2) 60 #[Go.Operand.const (Go.Value.int Go.IntKind.i64 0), Go.Operand.tmp 157] #[.int .i64 0, .int .i64 (x - 4)] Try.call60 (fun w => spec_max_c 0 (x - 4) w) hS ?_
          simp only [Act.put, pA, pB, pC]
          refine tC (i := 10) 60 #[Go.Operand.tmp 163, Go.Operand.tmp 165] #[.int .i64 p.x2, .int .i64 q.x2] Try.call60 (fun w => spec_max_c p.x2 q.x2 w) hS ?_
          simp only [Act.put, pA, pB, pC]
          refine tJ 11 hS ?_
          refine tJ 15 hS ?_
          refine rJ 16 fun K hK => ?_
          go_simp
          have hlP := RP.lt
          have hlQ := RQ.lt
          refine hK.out _ _ ⟨past_drew _ hlP (RP.c2), past_drew _ hlP (RP.c3), past_drew _ hlQ (RQ.c2)⟩ (fun _ => ?_)
          clear hK K
          have RZ := (Row.new w7 48 #[.int .i64 0, .int .i64 0, .int .i64 0, .int .i64 0]).drew
          replace RP := (RP.alloc (.cells #[.int .i64 0, .int .i64 0, .int .i64 0, .int .i64 0] 48)).drew
          replace RQ := (RQ.alloc (.cells #[.int .i64 0, .int .i64 0, .int .i64 0, .int .i64 0] 48)).drew
          replace RO := (RO.alloc (.cells #[.int .i64 0, .int .i64 0, .int .i64 0, .int .i64 0] 48)).drew
          replace REPA := Lib.hid (REPA.out.alloc (.cells #[.int .i64 0, .int .i64 0, .int .i64 0, .int .i64 0] 48)).drew
          replace REPB := Lib.hid (REPB.out.alloc (.cells #[.int .i64 0, .int .i64 0, .int .i64 0, .int .i64 0] 48)).drew
          replace SZ := (SZ.alloc (.cells #[.int .i64 0, .int .i64 0, .int .i64 0, .int .i64 0] 48)).drew'
          replace OZ := (OZ.alloc (.cells #[.int .i64 0, .int .i64 0, .int .i64 0, .int .i64 0] 48)).drew
          replace hS := (⟨RP.c2, RP.c3, RQ.c2⟩ : (w7.alloc (.cells #[.int .i64 0, .int .i64 0, .int .i64 0, .int .i64 0] 48)).drew.cell? ⟨bP, 2, none⟩ = some (.int .i64 p.x2) ∧ (w7.alloc (.cells #[.int .i64 0, .int .i64 0, .int .i64 0, .int .i64 0] 48)).drew.cell? ⟨bP, 3, none⟩ = some (.int .i64 p.y2) ∧ (w7.alloc (.cells #[.int .i64 0, .int .i64 0, .int .i64 0, .int .i64 0] 48)).drew.cell? ⟨bQ, 2, none⟩ = some (.int .i64 q.x2))
          have nZA : w7.heap.size ∉ GA := fun hin => by have := hlA _ hin; omega
          have nZB : w7.heap.size ∉ GB := fun hin => by have := hlB7 _ hin; omega
          have hw8s : (w7.alloc (.cells #[.int .i64 0, .int .i64 0, .int .i64 0, .int .i64 0] 48)).drew.heap.size = w7.heap.size + 1 := by simp
          generalize hbZ : w7.heap.size = bZ at RZ nZA nZB hw8s hlP hlQ hwO hsz7 ⊢
          generalize (w7.alloc (.cells #[.int .i64 0, .int .i64 0, .int .i64 0, .int .i64 0] 48)).drew = w8 at RP RQ RO RZ REPA REPB SZ OZ hS hw8s ⊢
          have v0 := RZ.c0
          have v1 := RZ.c1
          have v2 := RZ.c2
          have v3 := RZ.c3
          have vF := RZ.frozen
          refine rJ 17 fun K hK => ?_
          go_simp
          have pne : bP ≠ bZ := by omega
          have qne : bQ ≠ bZ := by omega
          refine hK.out _ _ ⟨(cell_farU pne _ _ _ _).trans hS.1, (cell_farU pne _ _ _ _).trans hS.2.1, (cell_farU qne _ _ _ _).trans hS.2.2⟩ (fun _ => ?_)
          clear hK K hS v0 v1 v2 v3 vF
          refine wpAnyH_done (by kernel_rfl) ?_ _
          obtain ⟨sg, hsg⟩ : ∃ s : PBox, Hid (s.x1 = max 0 (x - 4) ∧ s.y1 = p.y2 + 2 ∧ s.x2 = max p.x2 q.x2 + 4 ∧ s.y2 = p.y2 + 4) := ⟨⟨max 0 (x - 4), p.y2 + 2, max p.x2 q.x2 + 4, p.y2 + 4⟩, Lib.hid ⟨rfl, rfl, rfl, rfl⟩⟩
          replace RP := RP.far4 pne (.int .i64 (max 0 (x - 4))) (.int .i64 (p.y2 + 2)) (.int .i64 (max p.x2 q.x2 + 4)) (.int .i64 (p.y2 + 4))
          replace RQ := RQ.far4 qne (.int .i64 (max 0 (x - 4))) (.int .i64 (p.y2 + 2)) (.int .i64 (max p.x2 q.x2 + 4)) (.int .i64 (p.y2 + 4))
          replace RO := RO.far4 (t := bZ) (by omega) (.int .i64 (max 0 (x - 4))) (.int .i64 (p.y2 + 2)) (.int .i64 (max p.x2 q.x2 + 4)) (.int .i64 (p.y2 + 4))
          replace REPA := Lib.hid ((((REPA.out.setCell (p := ⟨bZ, 0, none⟩) nZA (.int .i64 (max 0 (x - 4)))).setCell (p := ⟨bZ, 1, none⟩) nZA (.int .i64 (p.y2 + 2))).setCell (p := ⟨bZ, 2, none⟩) nZA (.int .i64 (max p.x2 q.x2 + 4))).setCell (p := ⟨bZ, 3, none⟩) nZA (.int .i64 (p.y2 + 4)))
          replace REPB := Lib.hid ((((REPB.out.setCell (p := ⟨bZ, 0, none⟩) nZB (.int .i64 (max 0 (x - 4)))).setCell (p := ⟨bZ, 1, none⟩) nZB (.int .i64 (p.y2 + 2))).setCell (p := ⟨bZ, 2, none⟩) nZB (.int .i64 (max p.x2 q.x2 + 4))).setCell (p := ⟨bZ, 3, none⟩) nZB (.int .i64 (p.y2 + 4)))
          replace SZ := (((SZ.far (p := ⟨bZ, 0, none⟩) (by show B ≤ bZ; omega) (.int .i64 (max 0 (x - 4)))).far (p := ⟨bZ, 1, none⟩) (by show B ≤ bZ; omega) (.int .i64 (p.y2 + 2))).far (p := ⟨bZ, 2, none⟩) (by show B ≤ bZ; omega) (.int .i64 (max p.x2 q.x2 + 4))).far (p := ⟨bZ, 3, none⟩) (by show B ≤ bZ; omega) (.int .i64 (p.y2 + 4))
          replace OZ := (((OZ.set_new (p := ⟨bZ, 0, none⟩) (by show _ ≤ bZ; omega) (.int .i64 (max 0 (x - 4)))).set_new (p := ⟨bZ, 1, none⟩) (by show _ ≤ bZ; omega) (.int .i64 (p.y2 + 2))).set_new (p := ⟨bZ, 2, none⟩) (by show _ ≤ bZ; omega) (.int .i64 (max p.x2 q.x2 + 4))).set_new (p := ⟨bZ, 3, none⟩) (by show _ ≤ bZ; omega) (.int .i64 (p.y2 + 4))
          have RZ' := four_cells RZ rfl (.int .i64 (max 0 (x - 4))) (.int .i64 (p.y2 + 2)) (.int .i64 (max p.x2 q.x2 + 4)) (.int .i64 (p.y2 + 4))
          have hw9s : ((((w8.setCell ⟨bZ, 0, none⟩ (.int .i64 (max 0 (x - 4)))).setCell ⟨bZ, 1, none⟩ (.int .i64 (p.y2 + 2))).setCell ⟨bZ, 2, none⟩ (.int .i64 (max p.x2 q.x2 + 4))).setCell ⟨bZ, 3, none⟩ (.int .i64 (p.y2 + 4))).heap.size = bZ + 1 := by simp only [World.setCell, Array.size_modify]; exact hw8s
          generalize (((w8.setCell ⟨bZ, 0, none⟩ (.int .i64 (max 0 (x - 4)))).setCell ⟨bZ, 1, none⟩ (.int .i64 (p.y2 + 2))).setCell ⟨bZ, 2, none⟩ (.int .i64 (max p.x2 q.x2 + 4))).setCell ⟨bZ, 3, none⟩ (.int .i64 (p.y2 + 4)) = w9 at RP RQ RO RZ' REPA REPB SZ OZ hw9s ⊢
          replace hw9s : bZ < w9.heap.size ∧ w9.heap.size ≤ bZ + 1 := by omega
          have RZ2 : Row w9 bZ 48 [.int .i64 sg.x1, .int .i64 sg.y1, .int .i64 sg.x2, .int .i64 sg.y2] := by rw [hsg.out.1, hsg.out.2.1, hsg.out.2.2.1, hsg.out.2.2.2]; exact RZ'
          clear RZ RZ'
          have RZ := RZ2
          have hbs : BoxLe (M + farP (d + 1)) sg := by
           have h := hsg.out
           unfold BoxLe
           simp only [farP]
           have h3 : -M ≤ max 0 (x - 4) ∧ max 0 (x - 4) ≤ M := by omega
           have h4 : -(M + farP d + 10 + farP d) ≤ max p.x2 q.x2 ∧ max p.x2 q.x2 ≤ M + farP d + 10 + farP d := by omega
           omega
          have hsym : SymLe (M + farP (d + 1)) ⟨⟨#[45]⟩, sg.x1, sg.y1, sg.x2, sg.y2⟩ := ⟨by unfold boxOf; exact hbs, by show (1 : Nat) ≤ 8; omega⟩
          have ok1 : ∀ s ∈ [(⟨⟨#[45]⟩, sg.x1, sg.y1, sg.x2, sg.y2⟩ : PSymbol)], pSymbolOk s := fun s hs => by simp only [List.mem_singleton] at hs; subst hs; exact hsym.ok (by simp only [farP]; omega)
          have OK1 := Lib.hid ok1
          clear ok1 RZ2
          have v0 := RZ.c0
          have v1 := RZ.c1
          have v2 := RZ.c2
          have v3 := RZ.c3
          go_upto_region 21 with (at_builtin; refine wpList_append_repX (T := pSymbol) (e := 50) (ys := [(⟨⟨#[45]⟩, sg.x1, sg.y1, sg.x2, sg.y2⟩ : PSymbol)]) (ec := [.string ⟨#[45]⟩, .int .i64 sg.x1, .int .i64 sg.y1, .int .i64 sg.x2, .int .i64 sg.y2]) rfl (.tmp 172) (.tmp 175) rfl Try.underlying24 infoSym rfl (by decide) rfl (REPA.out.alloc _) rfl (repL_pSymbol [(⟨⟨#[45]⟩, sg.x1, sg.y1, sg.x2, sg.y2⟩ : PSymbol)] OK1.out) (cellsAt_new _ _ _) trivial (by rw [List.append_nil]; exact FRA.out.1) (by simp [maxLen]; omega) (by simp; omega) ?_; intro v6 w6 F6 r6 o6 q6 x6; have R6 := Lib.hid r6; have O6 := Lib.hid o6; have Q6 := Lib.hid q6; have X6 := Lib.hid x6; obtain ⟨A6, n6, c6, rfl⟩ := slice_form r6; clear r6 o6 q6 x6)
          have hx6 : ∀ b ∈ F6, b ∈ GA ∨ bZ < b := fun b hb => by
           rcases X6.out.1 b hb with h | h
           · exact .inl (by simpa using h)
           · exact .inr (by simp at h; omega)
          have hO6 : w.heap.size ∉ F6 := fun hin => by
           rcases hx6 _ hin with h | h
           · have := FRA.out.2 _ h; omega
           · omega
          have hs6 : w9.heap.size < w6.heap.size := by have := O6.out.size; simp at this; omega
          have fr6 : Fresh w.heap.size F6 := Q6.out w.heap.size (by rw [List.append_nil]; exact ⟨FRA.out.1, fun b hb => by have := FRA.out.2 b hb; omega⟩) (by simp; omega)
          have FR6 := Lib.hid fr6
          replace RP : Row w6 bP 48 [.int .i64 p.x1, .int .i64 p.y1, .int .i64 p.x2, .int .i64 p.y2] := (O6.out.block _ (RP.alloc (.cells #[.string ⟨#[45]⟩, .int .i64 sg.x1, .int .i64 sg.y1, .int .i64 sg.x2, .int .i64 sg.y2] 50)).lt (fun hin => by have := hlA _ hin; omega)).trans (RP.alloc (.cells #[.string ⟨#[45]⟩, .int .i64 sg.x1, .int .i64 sg.y1, .int .i64 sg.x2, .int .i64 sg.y2] 50))
          replace RQ : Row w6 bQ 48 [.int .i64 q.x1, .int .i64 q.y1, .int .i64 q.x2, .int .i64 q.y2] := (O6.out.block _ (RQ.alloc (.cells #[.string ⟨#[45]⟩, .int .i64 sg.x1, .int .i64 sg.y1, .int .i64 sg.x2, .int .i64 sg.y2] 50)).lt nQA).trans (RQ.alloc (.cells #[.string ⟨#[45]⟩, .int .i64 sg.x1, .int .i64 sg.y1, .int .i64 sg.x2, .int .i64 sg.y2] 50))
          replace RZ : Row w6 bZ 48 [.int .i64 sg.x1, .int .i64 sg.y1, .int .i64 sg.x2, .int .i64 sg.y2] := (O6.out.block _ (RZ.alloc (.cells #[.string ⟨#[45]⟩, .int .i64 sg.x1, .int .i64 sg.y1, .int .i64 sg.x2, .int .i64 sg.y2] 50)).lt nZA).trans (RZ.alloc (.cells #[.string ⟨#[45]⟩, .int .i64 sg.x1, .int .i64 sg.y1, .int .i64 sg.x2, .int .i64 sg.y2] 50))
          replace RO : Row w6 w.heap.size 48 [.int .i64 0, .int .i64 0, .int .i64 0, .int .i64 0] := (O6.out.block _ (RO.alloc (.cells #[.string ⟨#[45]⟩, .int .i64 sg.x1, .int .i64 sg.y1, .int .i64 sg.x2, .int .i64 sg.y2] 50)).lt (fun hin => by have := FRA.out.2 _ hin; omega)).trans (RO.alloc (.cells #[.string ⟨#[45]⟩, .int .i64 sg.x1, .int .i64 sg.y1, .int .i64 sg.x2, .int .i64 sg.y2] 50))
          replace REPB := Lib.hid ((REPB.out.alloc (.cells #[.string ⟨#[45]⟩, .int .i64 sg.x1, .int .i64 sg.y1, .int .i64 sg.x2, .int .i64 sg.y2] 50)).only O6.out (fun b hb hin => by have h1 := hlA b hin; have h2 := dGB b hb; omega))
          replace SZ := (SZ.alloc (.cells #[.string ⟨#[45]⟩, .int .i64 sg.x1, .int .i64 sg.y1, .int .i64 sg.x2, .int .i64 sg.y2] 50)).only O6.out (fun b hb => by have := FRA.out.2 b hb; omega)
          replace OZ := only_newS (OZ.alloc (.cells #[.string ⟨#[45]⟩, .int .i64 sg.x1, .int .i64 sg.y1, .int .i64 sg.x2, .int .i64 sg.y2] 50)) O6.out (fun x hx => .inr (by have := FRA.out.2 x hx; omega))
          clear REPA O6 X6 Q6 fr6 v0 v1 v2 v3
          have hS : (fun w' : World => w'.cell? ⟨bP, 0, none⟩ = some (.int .i64 p.x1) ∧ w'.cell? ⟨bP, 1, none⟩ = some (.int .i64 p.y1) ∧ w'.cell? ⟨bP, 2, none⟩ = some (.int .i64 p.x2) ∧ w'.cell? ⟨bP, 3, none⟩ = some (.int .i64 p.y2) ∧ w'.cell? ⟨bQ, 0, none⟩ = some (.int .i64 q.x1) ∧ w'.cell? ⟨bQ, 1, none⟩ = some (.int .i64 q.y1) ∧ w'.cell? ⟨bQ, 2, none⟩ = some (.int .i64 q.x2) ∧ w'.cell? ⟨bQ, 3, none⟩ = some (.int .i64 q.y2) ∧ w'.cell? ⟨bZ, 0, none⟩ = some (.int .i64 sg.x1) ∧ w'.cell? ⟨bZ, 1, none⟩ = some (.int .i64 sg.y1) ∧ w'.cell? ⟨bZ, 2, none⟩ = some (.int .i64 sg.x2) ∧ w'.cell? ⟨bZ, 3, none⟩ = some (.int .i64 sg.y2)) w6.drew := ⟨RP.c0, RP.c1, RP.c2, RP.c3, RQ.c0, RQ.c1, RQ.c2, RQ.c3, RZ.c0, RZ.c1, RZ.c2, RZ.c3⟩
          dsimp only at hS
          refine wp_region_held_drew (S := (fun w' : World => w'.cell? ⟨bP, 0, none⟩ = some (.int .i64 p.x1) ∧ w'.cell? ⟨bP, 1, none⟩ = some (.int .i64 p.y1) ∧ w'.cell? ⟨bP, 2, none⟩ = some (.int .i64 p.x2) ∧ w'.cell? ⟨bP, 3, none⟩ = some (.int .i64 p.y2) ∧ w'.cell? ⟨bQ, 0, none⟩ = some (.int .i64 q.x1) ∧ w'.cell? ⟨bQ, 1, none⟩ = some (.int .i64 q.y1) ∧ w'.cell? ⟨bQ, 2, none⟩ = some (.int .i64 q.x2) ∧ w'.cell? ⟨bQ, 3, none⟩ = some (.int .i64 q.y2) ∧ w'.cell? ⟨bZ, 0, none⟩ = some (.int .i64 sg.x1) ∧ w'.cell? ⟨bZ, 1, none⟩ = some (.int .i64 sg.y1) ∧ w'.cell? ⟨bZ, 2, none⟩ = some (.int .i64 sg.x2) ∧ w'.cell? ⟨bZ, 3, none⟩ = some (.int .i64 sg.y2))) (by kernel_rfl) hS (fun _ => ?_)
          refine tJ 0 hS ?_
          refine tJ 1 hS ?_
          refine tJ 3 hS ?_
          refine tJ 4 hS ?_
          refine tJ 5 hS ?_
          refine rJ 2 fun K hK => ?_
          refine step_append_repX (T := pSymbol) (e := 50) (ys := bs) (ec := bs.flatMap pSymbolCells) rfl (.tmp 177) (.tmp 178) rfl Try.underlying24 infoSym rfl (by decide) rfl R6.out.drew rfl (repL_pSymbol bs (pSymbols_ok REPB.out)) (syms_at REPB.out.drew) (by rw [List.append_nil]; exact FR6.out.1) (by rw [List.length_append]; unfold maxLen; simp only [List.length_cons, List.length_nil]; omega) (by rw [List.length_append]; simp only [List.length_cons, List.length_nil]; omega) ?_
          intro v7 w10 F7 r7 o7 q7 x7
          have fr7 : Fresh w.heap.size F7 := q7 w.heap.size (by rw [List.append_nil]; exact FR6.out) (by show w.heap.size ≤ w6.heap.size; omega)
          have hO7 : w.heap.size ∉ F7 := fun hin => by
           rcases x7.1 _ hin with h | h
           · exact hO6 (by simpa using h)
           · have : w6.heap.size ≤ w.heap.size := h
             omega
          have n6P : ∀ b, b ∉ GA → b ≤ bZ → b ∉ F6 := fun b h1 h2 hin => by
           rcases hx6 _ hin with h | h
           · exact h1 h
           · omega
          replace RP : Row w10 bP 48 [.int .i64 p.x1, .int .i64 p.y1, .int .i64 p.x2, .int .i64 p.y2] := (o7.block _ RP.lt (n6P _ (fun hin => by have := hlA _ hin; omega) (by omega))).trans RP
          replace RQ : Row w10 bQ 48 [.int .i64 q.x1, .int .i64 q.y1, .int .i64 q.x2, .int .i64 q.y2] := (o7.block _ RQ.lt (n6P _ nQA (by omega))).trans RQ
          replace RZ : Row w10 bZ 48 [.int .i64 sg.x1, .int .i64 sg.y1, .int .i64 sg.x2, .int .i64 sg.y2] := (o7.block _ RZ.lt (n6P _ nZA (by omega))).trans RZ
          replace RO : Row w10 w.heap.size 48 [.int .i64 0, .int .i64 0, .int .i64 0, .int .i64 0] := (o7.block _ RO.lt hO6).trans RO
          have S7 := SZ.drew'.only o7 (fun b hb => by have := FR6.out.2 b hb; omega)
          have O7 := only_newS OZ.drew o7 (fun x hx => .inr (by have := FR6.out.2 x hx; omega))
          have R7 := Lib.hid r7
          obtain ⟨A7, n7, c7, rfl⟩ := slice_form r7
          have hs7 : w6.heap.size ≤ w10.heap.size := o7.size
          clear r7 o7 q7 x7 REPB R6 SZ OZ
          refine hK.out _ _ ⟨RP.c0, RP.c1, RP.c2, RP.c3, RQ.c0, RQ.c1, RQ.c2, RQ.c3, RZ.c0, RZ.c1, RZ.c2, RZ.c3⟩ (fun _ => ?_)
          clear hK K
          replace hS := (⟨RP.c0, RP.c1, RP.c2, RP.c3, RQ.c0, RQ.c1, RQ.c2, RQ.c3, RZ.c0, RZ.c1, RZ.c2, RZ.c3⟩ : w10.cell? ⟨bP, 0, none⟩ = some (.int .i64 p.x1) ∧ w10.cell? ⟨bP, 1, none⟩ = some (.int .i64 p.y1) ∧ w10.cell? ⟨bP, 2, none⟩ = some (.int .i64 p.x2) ∧ w10.cell? ⟨bP, 3, none⟩ = some (.int .i64 p.y2) ∧ w10.cell? ⟨bQ, 0, none⟩ = some (.int .i64 q.x1) ∧ w10.cell? ⟨bQ, 1, none⟩ = some (.int .i64 q.y1) ∧ w10.cell? ⟨bQ, 2, none⟩ = some (.int .i64 q.x2) ∧ w10.cell? ⟨bQ, 3, none⟩ = some (.int .i64 q.y2) ∧ w10.cell? ⟨bZ, 0, none⟩ = some (.int .i64 sg.x1) ∧ w10.cell? ⟨bZ, 1, none⟩ = some (.int .i64 sg.y1) ∧ w10.cell? ⟨bZ, 2, none⟩ = some (.int .i64 sg.x2) ∧ w10.cell? ⟨bZ, 3, none⟩ = some (.int .i64 sg.y2))
          refine rJ 6 fun K hK => ?_
          refine step_call 43 #[.tmp 181, .tmp 182] _ rfl rfl #[.agg #[.int .i64 p.x1, .int .i64 p.y1, .int .i64 p.x2, .int .i64 p.y2], .agg #[.int .i64 q.x1, .int .i64 q.y1, .int .i64 q.x2, .int .i64 q.y2]] Try.call43 (by go_simp) (spec_l02Join_c p q _) ?_
          rintro e w11 ⟨rfl, b8⟩
          refine ⟨_, rfl, ?_⟩
          replace RP := RP.later b8
          replace RQ := RQ.later b8
          replace RZ := RZ.later b8
          replace RO := RO.later b8
          replace S7 := S7.below b8
          replace O7 := O7.trans (Only.of_below b8)
          replace R7 := Lib.hid (R7.out.below b8)
          replace hS := (⟨RP.c0, RP.c1, RP.c2, RP.c3, RQ.c0, RQ.c1, RQ.c2, RQ.c3, RZ.c0, RZ.c1, RZ.c2, RZ.c3⟩ : w11.cell? ⟨bP, 0, none⟩ = some (.int .i64 p.x1) ∧ w11.cell? ⟨bP, 1, none⟩ = some (.int .i64 p.y1) ∧ w11.cell? ⟨bP, 2, none⟩ = some (.int .i64 p.x2) ∧ w11.cell? ⟨bP, 3, none⟩ = some (.int .i64 p.y2) ∧ w11.cell? ⟨bQ, 0, none⟩ = some (.int .i64 q.x1) ∧ w11.cell? ⟨bQ, 1, none⟩ = some (.int .i64 q.y1) ∧ w11.cell? ⟨bQ, 2, none⟩ = some (.int .i64 q.x2) ∧ w11.cell? ⟨bQ, 3, none⟩ = some (.int .i64 q.y2) ∧ w11.cell? ⟨bZ, 0, none⟩ = some (.int .i64 sg.x1) ∧ w11.cell? ⟨bZ, 1, none⟩ = some (.int .i64 sg.y1) ∧ w11.cell? ⟨bZ, 2, none⟩ = some (.int .i64 sg.x2) ∧ w11.cell? ⟨bZ, 3, none⟩ = some (.int .i64 sg.y2))
          refine bJ hK hS ?_
          clear hK K
          simp only [Act.put, pA, pB, pC]
          refine rJ 7 fun K hK => ?_
          refine step_call 43 #[.tmp 180, .tmp 183] _ rfl rfl #[.agg #[.int .i64 sg.x1, .int .i64 sg.y1, .int .i64 sg.x2, .int .i64 sg.y2], boxV (joinB p q)] Try.call43 (by go_simp) (spec_l02Join_c sg (joinB p q) _) ?_
          rintro e w12 ⟨rfl, b9⟩
          refine ⟨_, rfl, ?_⟩
          replace RP := RP.later b9
          replace RQ := RQ.later b9
          replace RZ := RZ.later b9
          replace RO := RO.later b9
          replace S7 := S7.below b9
          replace O7 := O7.trans (Only.of_below b9)
          replace R7 := Lib.hid (R7.out.below b9)
          replace hS := (⟨RP.c0, RP.c1, RP.c2, RP.c3, RQ.c0, RQ.c1, RQ.c2, RQ.c3, RZ.c0, RZ.c1, RZ.c2, RZ.c3⟩ : w12.cell? ⟨bP, 0, none⟩ = some (.int .i64 p.x1) ∧ w12.cell? ⟨bP, 1, none⟩ = some (.int .i64 p.y1) ∧ w12.cell? ⟨bP, 2, none⟩ = some (.int .i64 p.x2) ∧ w12.cell? ⟨bP, 3, none⟩ = some (.int .i64 p.y2) ∧ w12.cell? ⟨bQ, 0, none⟩ = some (.int .i64 q.x1) ∧ w12.cell? ⟨bQ, 1, none⟩ = some (.int .i64 q.y1) ∧ w12.cell? ⟨bQ, 2, none⟩ = some (.int .i64 q.x2) ∧ w12.cell? ⟨bQ, 3, none⟩ = some (.int .i64 q.y2) ∧ w12.cell? ⟨bZ, 0, none⟩ = some (.int .i64 sg.x1) ∧ w12.cell? ⟨bZ, 1, none⟩ = some (.int .i64 sg.y1) ∧ w12.cell? ⟨bZ, 2, none⟩ = some (.int .i64 sg.x2) ∧ w12.cell? ⟨bZ, 3, none⟩ = some (.int .i64 sg.y2))
          refine bJ hK hS ?_
          clear hK K
          simp only [Act.put, pA, pB, pC]
          refine tJ 8 hS ?_
          have u0 := RO.c0
          have u1 := RO.c1
          have u2 := RO.c2
          have u3 := RO.c3
          have uF := RO.frozen
          refine rJ 9 fun K hK => ?_
          simp only [boxV]
          go_simp
          have pne : bP ≠ w.heap.size := by omega
          have qne : bQ ≠ w.heap.size := by omega
          have sne : bZ ≠ w.heap.size := by omega
          refine hK.out _ _ ⟨(cell_farU pne _ _ _ _).trans (RP.c0), (cell_farU pne _ _ _ _).trans (RP.c1), (cell_farU pne _ _ _ _).trans (RP.c2), (cell_farU pne _ _ _ _).trans (RP.c3), (cell_farU qne _ _ _ _).trans (RQ.c0), (cell_farU qne _ _ _ _).trans (RQ.c1), (cell_farU qne _ _ _ _).trans (RQ.c2), (cell_farU qne _ _ _ _).trans (RQ.c3), (cell_farU sne _ _ _ _).trans (RZ.c0), (cell_farU sne _ _ _ _).trans (RZ.c1), (cell_farU sne _ _ _ _).trans (RZ.c2), (cell_farU sne _ _ _ _).trans (RZ.c3)⟩ (fun _ => ?_)
          clear hK K hS
          refine wpAnyH_done (by kernel_rfl) ?_ _
          have RR := four_cells RO rfl (.int .i64 (joinB sg (joinB p q)).x1) (.int .i64 (joinB sg (joinB p q)).y1) (.int .i64 (joinB sg (joinB p q)).x2) (.int .i64 (joinB sg (joinB p q)).y2)
          have d0 := RR.c0
          have d1 := RR.c1
          have d2 := RR.c2
          have d3 := RR.c3
          have hbj := BoxLe.join hbs (BoxLe.join (bp.mono (K := _) (L := M + farP (d + 1)) (by simp only [farP]; omega)) (bq.mono (L := M + farP (d + 1)) (by simp only [farP]; omega)))
          have N9 := (((R7.out.setCell (p := ⟨w.heap.size, 0, none⟩) hO7 (.int .i64 (joinB sg (joinB p q)).x1)).setCell (p := ⟨w.heap.size, 1, none⟩) hO7 (.int .i64 (joinB sg (joinB p q)).y1)).setCell (p := ⟨w.heap.size, 2, none⟩) hO7 (.int .i64 (joinB sg (joinB p q)).x2)).setCell (p := ⟨w.heap.size, 3, none⟩) hO7 (.int .i64 (joinB sg (joinB p q)).y2)
          have O9 := (((O7.set_new (p := ⟨w.heap.size, 0, none⟩) (Nat.le_refl _) (.int .i64 (joinB sg (joinB p q)).x1)).set_new (p := ⟨w.heap.size, 1, none⟩) (Nat.le_refl _) (.int .i64 (joinB sg (joinB p q)).y1)).set_new (p := ⟨w.heap.size, 2, none⟩) (Nat.le_refl _) (.int .i64 (joinB sg (joinB p q)).x2)).set_new (p := ⟨w.heap.size, 3, none⟩) (Nat.le_refl _) (.int .i64 (joinB sg (joinB p q)).y2)
          have S9 := (((S7.far (p := ⟨w.heap.size, 0, none⟩) hB (.int .i64 (joinB sg (joinB p q)).x1)).far (p := ⟨w.heap.size, 1, none⟩) hB (.int .i64 (joinB sg (joinB p q)).y1)).far (p := ⟨w.heap.size, 2, none⟩) hB (.int .i64 (joinB sg (joinB p q)).x2)).far (p := ⟨w.heap.size, 3, none⟩) hB (.int .i64 (joinB sg (joinB p q)).y2)
          have HSM := Lib.hid hsym
          clear RR RO RP RQ RZ R7 O7 S7 u0 u1 u2 u3 uF hsym
          go_wp2_with fail
          refine bodyPost_ret (v := .tuple #[.slice A7 n7 c7, .agg #[.int .i64 (joinB sg (joinB p q)).x1, .int .i64 (joinB sg (joinB p q)).y1, .int .i64 (joinB sg (joinB p q)).x2, .int .i64 (joinB sg (joinB p q)).y2]]) (by simp [results, Try.results46, go_sem, d0, d1, d2, d3]) rfl ⟨(az ++ [(⟨⟨#[45]⟩, sg.x1, sg.y1, sg.x2, sg.y2⟩ : PSymbol)]) ++ bs, _, F7, (joinB sg (joinB p q)), rfl, N9, fr7, by rw [List.length_append, List.length_append]; simp only [List.length_cons, List.length_nil]; omega, by rw [List.length_append, List.length_append]; simp only [cntP, List.length_cons, List.length_nil]; omega, fun c hc => by
           rcases List.mem_append.1 hc with hc | hc
           · rcases List.mem_append.1 hc with hc | hc
             · exact (SMA.out c hc).mono (by simp only [farP]; omega)
             · simp only [List.mem_singleton] at hc; subst hc; exact HSM.out
           · exact (SMB.out c hc).mono (by simp only [farP]; omega), hbj, S9.more (by simp only [rdP]; omega), O9⟩
end Go.Proofs.Ytmopioaojdlnkaa
