/- What laws draw: symbols that are seldom not valid. Conditions: none. -/
import Derived.Test.YtmopioaojdlnkaaPuAt
import Derived.Test.YtmopioaojdlnkaaTkt
namespace Go.Proofs.Ytmopioaojdlnkaa
open Go Go.RowKit
def bentTexts : List ByteArray := [⟨#[]⟩, ⟨#[97, 98]⟩, ⟨#[32]⟩]
theorem bentTexts_small : ∀ s ∈ bentTexts, s.size ≤ 3 := by decide
theorem bentTexts_at (w : World) : (strs 9).rep true (w.alloc (.cells (bentTexts.map Value.string).toArray 9)) bentTexts [.slice (some ⟨w.heap.size, 0, none⟩) 3 3] [w.heap.size] :=
 slice_of_row (xs := bentTexts) (Row.new w _ _) (repL_strs _ (fun s hs => by have := bentTexts_small s hs; unfold maxLen; omega)) (by decide)
set_option maxRecDepth 100000 in
set_option maxHeartbeats 8000000 in
theorem spec_l20Bent_c {B g m : Nat} {code : List UInt8} (w : World) (h : SrcIs B g code m w) (hm : m ≤ 700000) (hB : B ≤ w.heap.size) :
 Calls Try.prog 45 #[.pointer (some ⟨g, 0, none⟩)] w (SymsDrawn 6000 12 B g (m + 120) code w) := by
 have hgw := h.lt
 have H1 := Lib.hid (spec_l20Draw_c w h (by omega) hB)
 clear h
 go_enter Try.func45, Try.ntmps45
 go_wp2_with fail
 refine H1.out.mono ?_
 rintro e w1 ⟨xs, v, G, rfl, rep, fr, hlen, hsm, S1, O1⟩
 have H2 := Lib.hid (src_pick_c w1 S1 (by omega) 24 (by omega))
 have hgG : g ∉ G := fun hin => by have := fr.2 g hin; omega
 have REP := Lib.hid rep
 have FR := Lib.hid fr
 have HSM := Lib.hid hsm
 obtain ⟨U, c9, rfl⟩ := slice_len rep
 clear rep fr hsm S1
 go_wp2_with fail
 refine H2.out.mono ?_
 rintro e w2 ⟨⟨k, k0, k1, rfl⟩, S2, O2⟩
 replace REP := Lib.hid (REP.out.only O2 (fun b hb hin => by simp at hin; subst hin; exact hgG hb))
 replace O2 := O1.trans O2
 have hs2 := O2.size
 by_cases z0 : k = 0
 · subst z0
   have STX := bentTexts_at w2
   have H3 := Lib.hid (src_text_c _ (S2.alloc (.cells (bentTexts.map Value.string).toArray 9)) (by omega) STX (by have := S2.lt; simp; omega) (by decide) (by decide))
   replace REP := Lib.hid (REP.out.alloc (.cells (bentTexts.map Value.string).toArray 9))
   replace O2 := O2.alloc (.cells (bentTexts.map Value.string).toArray 9)
   clear S2 STX
   go_wp2_with fail
   refine H3.out.mono ?_
   rintro e w3 ⟨⟨t, ht, rfl⟩, S3, O3⟩
   have htz := bentTexts_small t ht
   replace REP := Lib.hid (REP.out.only O3 (fun b hb hin => by simp at hin; subst hin; exact hgG hb))
   replace O3 := O2.trans O3
   have hs3 := O3.size
   have hsym : SymLe 6000 ⟨t, 0, 0, 0, 0⟩ := ⟨by unfold BoxLe boxOf; dsimp only; omega, by show t.size ≤ 8; omega⟩
   have ok1 : ∀ s ∈ [(⟨t, 0, 0, 0, 0⟩ : PSymbol)], pSymbolOk s := fun s hs => by simp only [List.mem_singleton] at hs; subst hs; exact hsym.ok (by omega)
   have OK1 := Lib.hid ok1
   clear ok1
   go_wp2_with (at_builtin; refine wpList_append_repX (T := pSymbol) (e := 50) (ys := [⟨t, 0, 0, 0, 0⟩]) (ec := [.string t, .int .i64 0, .int .i64 0, .int .i64 0, .int .i64 0]) rfl (.tmp 11) (.tmp 16) rfl Try.underlying24 infoSym rfl (by decide) rfl (REP.out.alloc _) rfl (repL_pSymbol [⟨t, 0, 0, 0, 0⟩] OK1.out) (cellsAt_new _ _ _) trivial (by rw [List.append_nil]; exact FR.out.1) (by simp [maxLen]; omega) (by simp; omega) ?_; intro v6 w6 F6 r6 o6 q6 x6; have R6 := Lib.hid r6; have O6 := Lib.hid o6; have Q6 := Lib.hid q6; obtain ⟨A6, n6, c6, rfl⟩ := slice_form r6; clear r6 o6 q6 x6)
   try go_wp2_with fail
   go_ret
   exact ⟨xs ++ [(⟨t, 0, 0, 0, 0⟩ : PSymbol)], .slice A6 n6 c6, F6, rfl, R6.out, Q6.out w.heap.size (by simpa using FR.out) (by have := O3.size; simp; omega), by simp; omega, fun c hc => by
    rcases List.mem_append.1 hc with hc | hc
    · exact (HSM.out c hc).mono (by omega)
    · simp only [List.mem_singleton] at hc; subst hc; exact hsym, ((S3.alloc _).only O6.out (fun b hb => by have := FR.out.2 b hb; omega)).more (by omega), only_newS (O3.alloc _) O6.out (fun x hx => .inr (FR.out.2 x hx))⟩
 · have y0 : (k == 0) = false := by simpa using z0
   by_cases z1 : k = 1
   · subst z1
     have H3 := Lib.hid (spec_l02DrawBox_c w2 S2 (by omega) (by omega))
     clear S2
     go_wp2_with fail
     refine H3.out.mono ?_
     rintro e w3 ⟨bb, rfl, hbb, S3, O3⟩
     replace REP := Lib.hid (REP.out.only O3 (fun b hb hin => by simp at hin; subst hin; exact hgG hb))
     replace O3 := O2.trans O3
     have hs3 := O3.size
     have hsym : SymLe 6000 ⟨⟨#[97]⟩, bb.x1, bb.y1, bb.x2, bb.y2⟩ := ⟨hbb.mono (by omega), by show (⟨#[97]⟩ : ByteArray).size ≤ 8; decide⟩
     have ok1 : ∀ s ∈ [(⟨⟨#[97]⟩, bb.x1, bb.y1, bb.x2, bb.y2⟩ : PSymbol)], pSymbolOk s := fun s hs => by simp only [List.mem_singleton] at hs; subst hs; exact hsym.ok (by omega)
     have OK1 := Lib.hid ok1
     clear ok1
     go_wp2_with (at_builtin; refine wpList_append_repX (T := pSymbol) (e := 50) (ys := [⟨⟨#[97]⟩, bb.x1, bb.y1, bb.x2, bb.y2⟩]) (ec := [.string ⟨#[97]⟩, .int .i64 bb.x1, .int .i64 bb.y1, .int .i64 bb.x2, .int .i64 bb.y2]) rfl (.tmp 20) (.tmp 24) rfl Try.underlying24 infoSym rfl (by decide) rfl (REP.out.alloc _) rfl (repL_pSymbol [⟨⟨#[97]⟩, bb.x1, bb.y1, bb.x2, bb.y2⟩] OK1.out) (cellsAt_new _ _ _) trivial (by rw [List.append_nil]; exact FR.out.1) (by simp [maxLen]; omega) (by simp; omega) ?_; intro v6 w6 F6 r6 o6 q6 x6; have R6 := Lib.hid r6; have O6 := Lib.hid o6; have Q6 := Lib.hid q6; obtain ⟨A6, n6, c6, rfl⟩ := slice_form r6; clear r6 o6 q6 x6)
     try go_wp2_with fail
     go_ret
     exact ⟨xs ++ [(⟨⟨#[97]⟩, bb.x1, bb.y1, bb.x2, bb.y2⟩ : PSymbol)], .slice A6 n6 c6, F6, rfl, R6.out, Q6.out w.heap.size (by simpa using FR.out) (by have := O3.size; simp; omega), by simp; omega, fun c hc => by
      rcases List.mem_append.1 hc with hc | hc
      · exact (HSM.out c hc).mono (by omega)
      · simp only [List.mem_singleton] at hc; subst hc; exact hsym, ((S3.alloc _).only O6.out (fun b hb => by have := FR.out.2 b hb; omega)).more (by omega), only_newS (O3.alloc _) O6.out (fun x hx => .inr (FR.out.2 x hx))⟩
   · have y1 : (k == 1) = false := by simpa using z1
     by_cases z2 : k = 2
     · subst z2
       have ALL := Lib.hid (show (pSymbols 50).rep true w2 xs [.slice U xs.length c9] G ∧ Fresh w.heap.size G ∧ (∀ c ∈ xs, SymLe 6000 c) ∧ SrcIs B g code (m + 81 + xs.length) w2 ∧ Only [g] w w2 from ⟨REP.out, FR.out, fun c hc => (HSM.out c hc).mono (by omega), S2.more (by omega), O2⟩)
       clear REP FR HSM S2 O2 hs2 hgG
       go_wp2_with fail
       go_loopw [3, 4] (fun l i wr => ∃ (xs : List PSymbol) (v : Value) (G : List Nat), i = .int .i64 xs.length ∧ xs.length ≤ 10 ∧ v = l ∧ Hid ((pSymbols 50).rep true wr xs [v] G ∧ Fresh w.heap.size G ∧ (∀ c ∈ xs, SymLe 6000 c) ∧ SrcIs B g code (m + 81 + xs.length) wr ∧ Only [g] w wr)) (fun _ i _ => 20 - (intOf i).toNat)
       case atStart => exact ⟨xs, _, G, rfl, by omega, rfl, ALL⟩
       case round =>
        obtain ⟨xs, v, G, rfl, hl, hv, all⟩ := hrel
        subst hv
        obtain ⟨rep, fr, hsm, S, O⟩ := all.out
        obtain ⟨U, c9, rfl⟩ := slice_len rep
        have hgG : g ∉ G := fun hin => by have := fr.2 g hin; omega
        have H3 := Lib.hid (src_pick_c wr S (by omega) 2 (by omega))
        have REP := Lib.hid rep
        have FR := Lib.hid fr
        have HSM := Lib.hid hsm
        clear rep fr hsm S all
        go_wp2_with fail
        refine H3.out.mono ?_
        rintro e w3 ⟨⟨r, r0, r1, rfl⟩, S3, O3⟩
        replace REP := Lib.hid (REP.out.only O3 (fun b hb hin => by simp at hin; subst hin; exact hgG hb))
        replace O3 := O.trans O3
        have hs3 := O3.size
        have ew := IntWalk.i64_in (8 + r) (by omega)
        by_cases hlt : (xs.length : Int) < 8 + r
        · have kw := IntWalk.i64_in ((xs.length : Int) + 1) (by omega)
          have e1 := IntWalk.i64_in (40 * (xs.length : Int)) (by omega)
          have e2 := IntWalk.i64_in (40 * (xs.length : Int) + 30) (by omega)
          obtain ⟨L, hL⟩ : ∃ L, (xs.length : Int) = L := ⟨_, rfl⟩
          have hsym : SymLe 6000 ⟨⟨#[121]⟩, 40 * (xs.length : Int), 0, 40 * (xs.length : Int) + 30, 30⟩ := ⟨by unfold BoxLe boxOf; dsimp only; omega, by show (⟨#[121]⟩ : ByteArray).size ≤ 8; decide⟩
          have ok1 : ∀ s ∈ [(⟨⟨#[121]⟩, 40 * (xs.length : Int), 0, 40 * (xs.length : Int) + 30, 30⟩ : PSymbol)], pSymbolOk s := fun s hs => by simp only [List.mem_singleton] at hs; subst hs; exact hsym.ok (by omega)
          have OK1 := Lib.hid ok1
          clear ok1 hL
          go_wp2_with (at_builtin; refine wpList_append_repX (T := pSymbol) (e := 50) (ys := [⟨⟨#[121]⟩, 40 * (xs.length : Int), 0, 40 * (xs.length : Int) + 30, 30⟩]) (ec := [.string ⟨#[121]⟩, .int .i64 (40 * (xs.length : Int)), .int .i64 0, .int .i64 (40 * (xs.length : Int) + 30), .int .i64 30]) rfl (.tmp 37) (.tmp 45) rfl Try.underlying24 infoSym rfl (by decide) rfl (REP.out.alloc _) rfl (repL_pSymbol [⟨⟨#[121]⟩, 40 * (xs.length : Int), 0, 40 * (xs.length : Int) + 30, 30⟩] OK1.out) (cellsAt_new _ _ _) trivial (by rw [List.append_nil]; exact FR.out.1) (by simp [maxLen]; omega) (by simp; omega) ?_; intro v6 w6 F6 r6 o6 q6 x6; have R6 := Lib.hid r6; have O6 := Lib.hid o6; have Q6 := Lib.hid q6; obtain ⟨A6, n6, c6, rfl⟩ := slice_form r6; clear r6 o6 q6 x6)
          have ALL := Lib.hid (show (pSymbols 50).rep true w6 (xs ++ [⟨⟨#[121]⟩, 40 * (xs.length : Int), 0, 40 * (xs.length : Int) + 30, 30⟩]) [.slice A6 n6 c6] F6 ∧ Fresh w.heap.size F6 ∧ (∀ c ∈ xs ++ [⟨⟨#[121]⟩, 40 * (xs.length : Int), 0, 40 * (xs.length : Int) + 30, 30⟩], SymLe 6000 c) ∧ SrcIs B g code (m + 81 + (xs ++ [(⟨⟨#[121]⟩, 40 * (xs.length : Int), 0, 40 * (xs.length : Int) + 30, 30⟩ : PSymbol)]).length) w6 ∧ Only [g] w w6 from ⟨R6.out, Q6.out w.heap.size (by simpa using FR.out) (by simp; omega), fun c hc => by
           rcases List.mem_append.1 hc with hc | hc
           · exact HSM.out c hc
           · simp only [List.mem_singleton] at hc; subst hc; exact hsym, ((S3.alloc _).only O6.out (fun b hb => by have := FR.out.2 b hb; omega)).more (by simp; omega), only_newS (O3.alloc _) O6.out (fun x hx => .inr (FR.out.2 x hx))⟩)
          clear R6 O6 Q6 REP FR HSM S3 O3
          try go_wp2_with fail
          go_roundw
          case rel => exact ⟨_, .slice A6 n6 c6, F6, by simp, by simp; omega, rfl, ALL⟩
          case measure => simp [intOf]; omega
        · go_wp2_with fail
          go_ret
          exact ⟨xs, _, G, rfl, REP.out, FR.out, by omega, HSM.out, S3.more (by omega), O3⟩
     · have y2 : (k == 2) = false := by simpa using z2
       go_wp2_with fail
       go_ret
       exact ⟨xs, _, G, rfl, REP.out, FR.out, by omega, fun c hc => (HSM.out c hc).mono (by omega), S2.more (by omega), O2⟩
theorem cell_farU {w : World} {b o g s t u v : Nat} (h : b ≠ g) (a c d f : Value) : ((((w.setCell ⟨g, s, none⟩ a).setCell ⟨g, t, none⟩ c).setCell ⟨g, u, none⟩ d).setCell ⟨g, v, none⟩ f).cell? ⟨b, o, none⟩ = w.cell? ⟨b, o, none⟩ := by
 have far : ∀ (w : World) (i : Nat) (y : Value), (w.setCell ⟨g, i, none⟩ y).cell? ⟨b, o, none⟩ = w.cell? ⟨b, o, none⟩ := fun w i y => World.cell?_of_block (Below.heap_setCell w ⟨g, i, none⟩ y b h)
 rw [far, far, far, far]
def placeTexts : List ByteArray := [⟨#[49]⟩, ⟨#[50]⟩, ⟨#[51]⟩, ⟨#[120]⟩, ⟨#[97]⟩, ⟨#[43]⟩, ⟨#[53]⟩]
theorem placeTexts_small : ∀ s ∈ placeTexts, s.size ≤ 3 := by decide
theorem placeTexts_at (w : World) : (strs 9).rep true (w.alloc (.cells (placeTexts.map Value.string).toArray 9)) placeTexts [.slice (some ⟨w.heap.size, 0, none⟩) 7 7] [w.heap.size] :=
 slice_of_row (xs := placeTexts) (Row.new w _ _) (repL_strs _ (fun s hs => by have := placeTexts_small s hs; unfold maxLen; omega)) (by decide)
def PlacePost (K : Int) (n : Nat) (B g m : Nat) (code : List UInt8) (w : World) (en : Ending) (w' : World) : Prop :=
 ∃ (xs : List PSymbol) (v : Value) (G : List Nat) (b : PBox), en = .returned (.tuple #[v, .agg #[.int .i64 b.x1, .int .i64 b.y1, .int .i64 b.x2, .int .i64 b.y2]]) ∧ (pSymbols 50).rep true w' xs [v] G ∧ Fresh w.heap.size G ∧ 1 ≤ xs.length ∧ xs.length ≤ n ∧ (∀ c ∈ xs, SymLe K c) ∧ BoxLe K b ∧ SrcIs B g code m w' ∧ Only [g] w w'
set_option maxRecDepth 100000 in
set_option maxHeartbeats 8000000 in
theorem spec_l21Place0_c {B g m mr n : Nat} {code : List UInt8} {M K : Int} (x y size : Int) (w : World) (h : SrcIs B g code m w) (hm : m ≤ 600000) (hB : B ≤ w.heap.size) (hx : -M ≤ x ∧ x ≤ M) (hy : -M ≤ y ∧ y ≤ M) (hs : 0 ≤ size ∧ size ≤ 40) (hM : M ≤ 50000) (hK : 100 ≤ K ∧ K ≤ 50000) (hn : 1 ≤ n) (hmr : m + 10 ≤ mr) :
 Calls Try.prog 46 #[.pointer (some ⟨g, 0, none⟩), .int .i64 x, .int .i64 y, .int .i64 size, .int .i64 0] w (PlacePost (M + K) n B g mr code w) := by
 have RO := Row.new w 48 #[.int .i64 0, .int .i64 0, .int .i64 0, .int .i64 0]
 have H1 := Lib.hid (src_pick_c _ (h.alloc (.cells #[.int .i64 0, .int .i64 0, .int .i64 0, .int .i64 0] 48)) (by omega) 7 (by omega))
 have hgw := h.lt
 have O0 : Only [g] w (w.alloc (.cells #[.int .i64 0, .int .i64 0, .int .i64 0, .int .i64 0] 48)) := Only.of_below ((Below.refl _ _).alloc (Nat.le_refl _) _)
 clear h
 go_enter Try.func46, Try.ntmps46
 go_wp2_with fail
 refine H1.out.mono ?_
 rintro e w1 ⟨⟨kd, kd0, kd1, rfl⟩, S1, O1⟩
 replace RO := row_o RO O1 (by omega)
 replace O1 := O0.trans O1
 -- the leaf, in the world w1 behind the choice of the kind
 have e1 := IntWalk.i64_in (size / 2) (by omega)
 have e2 := IntWalk.i64_in (x + size / 2) (by omega)
 have e3 := IntWalk.i64_in (y + size) (by omega)
 have et : size.tdiv 2 = size / 2 := Int.tdiv_eq_ediv_of_nonneg (by omega)
 have hlO := RO.lt
 have hgl := S1.lt
 have RB := Row.new w1 48 #[.int .i64 x, .int .i64 y, .int .i64 (x + size / 2), .int .i64 (y + size)]
 have RO2 := RO.alloc (.cells #[.int .i64 x, .int .i64 y, .int .i64 (x + size / 2), .int .i64 (y + size)] 48)
 have S2 := S1.alloc (.cells #[.int .i64 x, .int .i64 y, .int .i64 (x + size / 2), .int .i64 (y + size)] 48)
 have O2 := O1.alloc (.cells #[.int .i64 x, .int .i64 y, .int .i64 (x + size / 2), .int .i64 (y + size)] 48)
 clear RO S1 O1
 go_upto_region 4 with fail
 generalize w1.alloc (.cells #[.int .i64 x, .int .i64 y, .int .i64 (x + size / 2), .int .i64 (y + size)] 48) = w2 at RB RO2 S2 O2 ⊢
 have hS : (fun w' : World => w'.cell? ⟨w1.heap.size, 0, none⟩ = some (.int .i64 x) ∧ w'.cell? ⟨w1.heap.size, 1, none⟩ = some (.int .i64 y) ∧ w'.cell? ⟨w1.heap.size, 2, none⟩ = some (.int .i64 (x + size / 2)) ∧ w'.cell? ⟨w1.heap.size, 3, none⟩ = some (.int .i64 (y + size))) w2.drew := ⟨RB.c0, RB.c1, RB.c2, RB.c3⟩
 dsimp only at hS
 refine wp_region_held_drew (S := (fun w' : World => w'.cell? ⟨w1.heap.size, 0, none⟩ = some (.int .i64 x) ∧ w'.cell? ⟨w1.heap.size, 1, none⟩ = some (.int .i64 y) ∧ w'.cell? ⟨w1.heap.size, 2, none⟩ = some (.int .i64 (x + size / 2)) ∧ w'.cell? ⟨w1.heap.size, 3, none⟩ = some (.int .i64 (y + size)))) (by kernel_rfl) hS (fun _ => ?_)
 refine tJ 0 hS ?_
 refine tJ 3 hS ?_
 refine tJ 6 hS ?_
 refine rJ 1 fun K hK => ?_
 go_simp
 have hlB := RB.lt
 refine hK.out _ _ ⟨past_drew _ hlB (RB.c0), past_drew _ hlB (RB.c1), past_drew _ hlB (RB.c2), past_drew _ hlB (RB.c3)⟩ (fun _ => ?_)
 clear hK K
 have STX := placeTexts_at w2
 have hg2 := S2.lt
 replace RB := (RB.alloc (.cells (placeTexts.map Value.string).toArray 9)).drew
 replace RO2 := (RO2.alloc (.cells (placeTexts.map Value.string).toArray 9)).drew
 replace S2 := (S2.alloc (.cells (placeTexts.map Value.string).toArray 9)).drew'
 replace O2 := (O2.alloc (.cells (placeTexts.map Value.string).toArray 9)).drew
 replace hS := (⟨RB.c0, RB.c1, RB.c2, RB.c3⟩ : (w2.alloc (.cells (placeTexts.map Value.string).toArray 9)).drew.cell? ⟨w1.heap.size, 0, none⟩ = some (.int .i64 x) ∧ (w2.alloc (.cells (placeTexts.map Value.string).toArray 9)).drew.cell? ⟨w1.heap.size, 1, none⟩ = some (.int .i64 y) ∧ (w2.alloc (.cells (placeTexts.map Value.string).toArray 9)).drew.cell? ⟨w1.heap.size, 2, none⟩ = some (.int .i64 (x + size / 2)) ∧ (w2.alloc (.cells (placeTexts.map Value.string).toArray 9)).drew.cell? ⟨w1.heap.size, 3, none⟩ = some (.int .i64 (y + size)))
 refine rJ 2 fun K hK => ?_
 refine step_call 62 #[.tmp 48, .tmp 49] _ rfl rfl #[.pointer (some ⟨g, 0, none⟩), .slice (some ⟨w2.heap.size, 0, none⟩) 7 7] Try.call62 (by go_simp) (src_text_c _ S2 (by omega) STX.drew (by simp; omega) (by decide) (by decide)) ?_
 rintro e w4 ⟨⟨t, ht, rfl⟩, S4, O4⟩
 refine ⟨_, rfl, ?_⟩
 have htz := placeTexts_small t ht
 replace RB := row_o RB O4 (by omega)
 replace RO2 := row_o RO2 O4 (by omega)
 replace O4 := O2.trans O4
 replace hS := (⟨RB.c0, RB.c1, RB.c2, RB.c3⟩ : w4.cell? ⟨w1.heap.size, 0, none⟩ = some (.int .i64 x) ∧ w4.cell? ⟨w1.heap.size, 1, none⟩ = some (.int .i64 y) ∧ w4.cell? ⟨w1.heap.size, 2, none⟩ = some (.int .i64 (x + size / 2)) ∧ w4.cell? ⟨w1.heap.size, 3, none⟩ = some (.int .i64 (y + size)))
 refine bJ hK hS ?_
 clear hK K
 simp only [Act.put, pA, pB, pC]
 refine tJ 4 hS ?_
 refine rJ 5 fun K hK => ?_
 go_simp
 have hlB4 := RB.lt
 have hs4 := O4.size
 have hlO4 := RO2.lt
 refine hK.out _ _ ⟨past_drew _ hlB4 (RB.c0), past_drew _ hlB4 (RB.c1), past_drew _ hlB4 (RB.c2), past_drew _ hlB4 (RB.c3)⟩ (fun _ => ?_)
 clear hK K
 have hsym : SymLe (M + K) ⟨t, x, y, x + size / 2, y + size⟩ := ⟨by unfold BoxLe boxOf; dsimp only; omega, by show t.size ≤ 8; omega⟩
 have N4 : (pSymbols 50).rep true (w4.alloc (.cells #[.string t, .int .i64 x, .int .i64 y, .int .i64 (x + size / 2), .int .i64 (y + size)] 50)) [⟨t, x, y, x + size / 2, y + size⟩] [.slice (some ⟨w4.heap.size, 0, none⟩) 1 1] [w4.heap.size] :=
  slice_of_row (xs := [(⟨t, x, y, x + size / 2, y + size⟩ : PSymbol)]) (Row.new w4 _ #[.string t, .int .i64 x, .int .i64 y, .int .i64 (x + size / 2), .int .i64 (y + size)]) (repL_pSymbol [(⟨t, x, y, x + size / 2, y + size⟩ : PSymbol)] (fun s hs => by simp only [List.mem_singleton] at hs; subst hs; exact hsym.ok (by omega))) (by simp [maxLen])
 replace RB := RB.alloc (.cells #[.string t, .int .i64 x, .int .i64 y, .int .i64 (x + size / 2), .int .i64 (y + size)] 50)
 replace RO2 := RO2.alloc (.cells #[.string t, .int .i64 x, .int .i64 y, .int .i64 (x + size / 2), .int .i64 (y + size)] 50)
 replace S4 := S4.alloc (.cells #[.string t, .int .i64 x, .int .i64 y, .int .i64 (x + size / 2), .int .i64 (y + size)] 50)
 replace O4 := O4.alloc (.cells #[.string t, .int .i64 x, .int .i64 y, .int .i64 (x + size / 2), .int .i64 (y + size)] 50)
 replace hS := (⟨RB.c0, RB.c1, RB.c2, RB.c3⟩ : (w4.alloc (.cells #[.string t, .int .i64 x, .int .i64 y, .int .i64 (x + size / 2), .int .i64 (y + size)] 50)).cell? ⟨w1.heap.size, 0, none⟩ = some (.int .i64 x) ∧ (w4.alloc (.cells #[.string t, .int .i64 x, .int .i64 y, .int .i64 (x + size / 2), .int .i64 (y + size)] 50)).cell? ⟨w1.heap.size, 1, none⟩ = some (.int .i64 y) ∧ (w4.alloc (.cells #[.string t, .int .i64 x, .int .i64 y, .int .i64 (x + size / 2), .int .i64 (y + size)] 50)).cell? ⟨w1.heap.size, 2, none⟩ = some (.int .i64 (x + size / 2)) ∧ (w4.alloc (.cells #[.string t, .int .i64 x, .int .i64 y, .int .i64 (x + size / 2), .int .i64 (y + size)] 50)).cell? ⟨w1.heap.size, 3, none⟩ = some (.int .i64 (y + size)))
 refine tJ 7 hS ?_
 refine rJ 8 fun K hK => ?_
 have u0 := RO2.c0
 have u1 := RO2.c1
 have u2 := RO2.c2
 have u3 := RO2.c3
 have uF := RO2.frozen
 generalize hw5 : w4.alloc (.cells #[.string t, .int .i64 x, .int .i64 y, .int .i64 (x + size / 2), .int .i64 (y + size)] 50) = w5 at RB RO2 S4 O4 N4 hS u0 u1 u2 u3 uF ⊢
 go_simp
 have vne : w1.heap.size ≠ w.heap.size := by omega
 refine hK.out _ _ ⟨(cell_farU vne _ _ _ _).trans hS.1, (cell_farU vne _ _ _ _).trans hS.2.1, (cell_farU vne _ _ _ _).trans hS.2.2.1, (cell_farU vne _ _ _ _).trans hS.2.2.2⟩ (fun _ => ?_)
 clear hK K hS
 refine wpAnyH_done (by kernel_rfl) ?_ _
 have RR := four_cells RO2 rfl (.int .i64 x) (.int .i64 y) (.int .i64 (x + size / 2)) (.int .i64 (y + size))
 have d0 := RR.c0
 have d1 := RR.c1
 have d2 := RR.c2
 have d3 := RR.c3
 have hnb : w.heap.size ∉ [w4.heap.size] := by simp; omega
 have N5 := (((N4.setCell (p := ⟨w.heap.size, 0, none⟩) hnb (.int .i64 x)).setCell (p := ⟨w.heap.size, 1, none⟩) hnb (.int .i64 y)).setCell (p := ⟨w.heap.size, 2, none⟩) hnb (.int .i64 (x + size / 2))).setCell (p := ⟨w.heap.size, 3, none⟩) hnb (.int .i64 (y + size))
 have O5 := (((O4.set_new (p := ⟨w.heap.size, 0, none⟩) (Nat.le_refl _) (.int .i64 x)).set_new (p := ⟨w.heap.size, 1, none⟩) (Nat.le_refl _) (.int .i64 y)).set_new (p := ⟨w.heap.size, 2, none⟩) (Nat.le_refl _) (.int .i64 (x + size / 2))).set_new (p := ⟨w.heap.size, 3, none⟩) (Nat.le_refl _) (.int .i64 (y + size))
 have S5 := (((S4.far (p := ⟨w.heap.size, 0, none⟩) hB (.int .i64 x)).far (p := ⟨w.heap.size, 1, none⟩) hB (.int .i64 y)).far (p := ⟨w.heap.size, 2, none⟩) hB (.int .i64 (x + size / 2))).far (p := ⟨w.heap.size, 3, none⟩) hB (.int .i64 (y + size))
 clear RR RO2 RB N4 O4 S4 u0 u1 u2 u3 uF
 go_wp2_with fail
 refine bodyPost_ret (v := .tuple #[.slice (some ⟨w4.heap.size, 0, none⟩) 1 1, .agg #[.int .i64 x, .int .i64 y, .int .i64 (x + size / 2), .int .i64 (y + size)]]) (by simp [results, Try.results46, go_sem, d0, d1, d2, d3]) rfl ⟨[⟨t, x, y, x + size / 2, y + size⟩], _, _, ⟨x, y, x + size / 2, y + size⟩, rfl, N5, ⟨by simp, by intro b hb; simp at hb; omega⟩, by simp, by simpa using hn, fun c hc => by simp only [List.mem_singleton] at hc; subst hc; exact hsym, by unfold BoxLe; dsimp only; omega, S5.more (by omega), O5⟩
end Go.Proofs.Ytmopioaojdlnkaa
