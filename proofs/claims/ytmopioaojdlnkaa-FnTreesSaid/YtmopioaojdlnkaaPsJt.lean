/- The reference's chart of all sets of symbols. Conditions: none. -/
import Derived.Test.YtmopioaojdlnkaaPsIt
import Derived.Test.YtmopioaojdlnkaaPrH0t
import Derived.Test.YtmopioaojdlnkaaSymst
namespace Go.Proofs.Ytmopioaojdlnkaa
open Go Go.RowKit
theorem infoCell : (Try.prog.info? 72).map (fun i => (i.zero, i.size, i.bytes)) = some (some (.agg #[.int .i64 0, .int .i64 0, .int .i64 0, .int .i64 0, .int .i64 0, .int .i64 0, .int .i64 0, .int .i64 0, .int .i64 0, .int .i64 0]), 10, 80) := by kernel_rfl
theorem cells_fill (n : Nat) : (madeCells (Value.cells (.agg #[.int .i64 0, .int .i64 0, .int .i64 0, .int .i64 0, .int .i64 0, .int .i64 0, .int .i64 0, .int .i64 0, .int .i64 0, .int .i64 0])) (n * 10)).toList = rowF rcCells (fun _ => rc0) n := by
 rw [rowF_const]
 exact madeCells_toList (rcCells rc0) n (by decide)
theorem RcOk.next {xs : List PSymbol} {K : Nat → RC} {s : Nat} (h : RcOk xs K s) (h0 : s ≠ 0) {k : RC} (hb : k.box = boxS xs s) (hi : RcIs k (cellAt xs s)) : RcOk xs (updF K s k) (s + 1) := by
 have hu := h.upd h0 k
 refine ⟨hu.zero, fun t ht ht0 => ?_, fun t ht ht0 => ?_⟩
 · by_cases e : t = s
   · subst e; rw [updF_same]; exact hb
   · exact hu.box t (by omega) ht0
 · by_cases e : t = s
   · subst e; rw [updF_same]; exact hi
   · exact hu.is t (by omega) ht0
def ChtPost (e : TypeId) (ob : Bool) (xs : List PSymbol) (vl : Value) (Fl : List Nat) (N : Nat) (w : World) (en : Ending) (w' : World) : Prop :=
 ∃ gp gc K, en = .returned (.pointer (some ⟨gp, 0, none⟩)) ∧ Cht e ob xs vl Fl gp gc N K w' ∧ RcOk xs K N ∧ Below w.heap.size w w' ∧ w.heap.size ≤ gp ∧ w.heap.size ≤ gc
set_option maxRecDepth 100000 in
set_option maxHeartbeats 4000000 in
theorem spec_l21Fill_c {e : TypeId} {ob : Bool} {xs : List PSymbol} {vl : Value} {Fl : List Nat} {N : Nat} (w : World) (h : (pSymbols e).rep ob w xs [vl] Fl) (g : Grd xs N) :
 Calls Try.prog 33 #[vl] w (ChtPost e ob xs vl Fl N w) := by
 have hN := g.le
 have hn8 := g.few
 have hN1 : 1 ≤ N := by rw [g.size]; exact Nat.one_le_two_pow
 have hsh := i64_shl xs.length (by omega)
 rw [← g.size] at hsh
 have n64 : (xs.length : Int) ≤ 64 := by omega
 have hmk := make_run (P := Try.prog) (t := 68) (e := 72) Try.underlying68 infoCell N (N : Int) rfl (by omega) (by unfold maxLen; omega)
 have G := Lib.hid g
 have hFl : ∀ b ∈ Fl, b < w.heap.size := fun b hb => (pSymbols e).lt h b hb
 have H := Lib.hid h
 obtain ⟨AL, cl, rfl⟩ := slice_len h
 clear h g
 go_enter Try.func33, Try.ntmps33
 go_wp2_with fail
 have hrow := Row.new w 72 (madeCells (Value.cells (.agg #[.int .i64 0, .int .i64 0, .int .i64 0, .int .i64 0, .int .i64 0, .int .i64 0, .int .i64 0, .int .i64 0, .int .i64 0, .int .i64 0])) (N * 10))
 rw [cells_fill] at hrow
 have C0 : Cht e ob xs (.slice AL xs.length cl) Fl (w.heap.size + 1) w.heap.size N (fun _ => rc0) ((w.alloc (.cells (madeCells (Value.cells (.agg #[.int .i64 0, .int .i64 0, .int .i64 0, .int .i64 0, .int .i64 0, .int .i64 0, .int .i64 0, .int .i64 0, .int .i64 0, .int .i64 0])) (N * 10)) 72)).alloc (.cells #[.slice AL xs.length cl, .slice (some ⟨w.heap.size, 0, none⟩) N N] 70)) := by
  refine ⟨?_, (H.out.alloc _).alloc _, hrow.alloc _, by omega, fun hb => by have := hFl _ hb; omega, fun hb => by have := hFl _ hb; omega⟩
  have := Row.new (w.alloc (.cells (madeCells (Value.cells (.agg #[.int .i64 0, .int .i64 0, .int .i64 0, .int .i64 0, .int .i64 0, .int .i64 0, .int .i64 0, .int .i64 0, .int .i64 0, .int .i64 0])) (N * 10)) 72)) 70 #[.slice AL xs.length cl, .slice (some ⟨w.heap.size, 0, none⟩) N N]
  rwa [World.size_alloc] at this
 have B0 : Below w.heap.size w ((w.alloc (.cells (madeCells (Value.cells (.agg #[.int .i64 0, .int .i64 0, .int .i64 0, .int .i64 0, .int .i64 0, .int .i64 0, .int .i64 0, .int .i64 0, .int .i64 0, .int .i64 0])) (N * 10)) 72)).alloc (.cells #[.slice AL xs.length cl, .slice (some ⟨w.heap.size, 0, none⟩) N N] 70)) := ((Below.refl _ _).alloc (Nat.le_refl _) _).alloc (by simp) _
 have HC0 := Lib.hid (show Cht e ob xs (.slice AL xs.length cl) Fl (w.heap.size + 1) w.heap.size N (fun _ => rc0) _ ∧ RcOk xs (fun _ => rc0) 1 ∧ ∀ t, 1 ≤ t → (fun _ => rc0) t = rc0 from ⟨C0, ⟨rfl, fun t h1 h2 => by omega, fun t h1 h2 => by omega⟩, fun _ _ => rfl⟩)
 clear hrow C0
 go_loopw [4] (fun sv wr => ∃ (s : Nat) (K : Nat → RC), sv = .int .i64 (s : Int) ∧ 1 ≤ s ∧ s ≤ N ∧ Hid (Cht e ob xs (.slice AL xs.length cl) Fl (w.heap.size + 1) w.heap.size N K wr ∧ RcOk xs K s ∧ ∀ t, s ≤ t → K t = rc0) ∧ Below w.heap.size w wr) (fun sv _ => N - (intOf sv).toNat)
 case atStart => exact ⟨1, _, rfl, Nat.le_refl _, hN1, HC0, B0⟩
 case round =>
  obtain ⟨s, K, rfl, hs1, hsN, hh, hb⟩ := hrel
  have p1 := hh.out.1.row.c1
  by_cases hlt : s < N
  · have g1 : (s : Int) < (N : Int) := by omega
    have kw := IntWalk.i64_in ((s : Int) + 1) (by omega)
    have CF := Lib.hid (spec_cfill_c wr hh.out.1 G.out hlt (by omega) hh.out.2.1 (hh.out.2.2 s (Nat.le_refl _)))
    go_wp2_with fail
    refine CF.out.mono ?_
    rintro en w2 ⟨rfl, on2, k2, hc2, hi2, hb2⟩
    have X := Lib.hid (show Cht e ob xs (.slice AL xs.length cl) Fl (w.heap.size + 1) w.heap.size N (updF K s k2) w2 ∧ RcOk xs (updF K s k2) (s + 1) ∧ ∀ t, s + 1 ≤ t → updF K s k2 t = rc0 from ⟨hc2, hh.out.2.1.next (by omega) hb2 hi2, fun t ht => by rw [updF_other K k2 (by omega)]; exact hh.out.2.2 t (by omega)⟩)
    have B2 := Lib.hid (hb.trans (on2.below hb.size (by simp)))
    clear hc2 hi2 hb2 on2
    go_wp2_with fail
    go_roundw
    case rel => exact ⟨s + 1, _, by go_num, by omega, by omega, X, B2.out⟩
    case measure => simp [intOf]; omega
  · obtain rfl : s = N := by omega
    have g1 : ¬ ((s : Int) < (s : Int)) := by omega
    go_wp2_with fail
    go_ret
    exact ⟨_, _, K, rfl, hh.out.1, hh.out.2.1, hb, by omega, Nat.le_refl _⟩
structure CellTree (xs : List PSymbol) (s : Nat) (k : Int) (q a b : Nat) : Prop where
 kind : (cellAt xs s).kind = k
 sign : (cellAt xs s).sign = q
 pa : (cellAt xs s).a = a
 pb : (cellAt xs s).b = b
 k1 : 1 ≤ k ∧ k ≤ 5
 a0 : a ≠ 0
 al : a < s
 wa : (cellAt xs a).ways ≠ 0
 q8 : q ≤ xs.length
 two : b ≠ 0 → b < s ∧ (cellAt xs b).ways ≠ 0 ∧ treeAt xs s = .two k q (treeAt xs a) (treeAt xs b)
 root : b = 0 → k = 5 ∧ treeAt xs s = .root q (treeAt xs a)
theorem cell_tree {xs : List PSymbol} {s : Nat} (hs : s < 2 ^ xs.length) (h1 : s ≠ 2 ^ s.log2) (hw : (cellAt xs s).ways ≠ 0) : ∃ k q a b, CellTree xs s k q a b := by
 have n1 := not_single h1
 rcases (cellAt_of xs hs h1).best with ⟨h, _⟩ | ⟨_, o, ho, hl, hm, _⟩
 · rw [h] at hw; exact absurd rfl hw
 · have hi := (mem_optsF xs hs).1 ho
   have hb := opt_bits xs hi n1
   have hlt := opt_lt xs hi n1
   have hway := live_pos xs (cellAt xs) hl
   have ek : (cellAt xs s).kind = o.kind := by rw [hm]
   have eq : (cellAt xs s).sign = o.sign := by rw [hm]
   have ea : (cellAt xs s).a = o.a := by rw [hm]
   have eb : (cellAt xs s).b = o.b := by rw [hm]
   have htr := treeAt_both xs h1 (by rw [ea, eb]; exact hlt)
   rw [ea, eb, ek, eq] at htr
   have wa : (cellAt xs o.a).ways ≠ 0 := fun h => hway (by unfold waysO; rw [h, Nat.zero_mul])
   refine ⟨o.kind, o.sign, o.a, o.b, ⟨ek, eq, ea, eb, ?_, hb.1, hlt.1, wa, ?_, fun h0 => ⟨hlt.2, fun h => hway (by unfold waysO; rw [if_neg h0, h, Nat.mul_zero]), by rw [htr, if_neg h0]⟩, fun h0 => ⟨?_, by rw [htr, if_pos h0]⟩⟩⟩
   · rcases hi with ⟨h, _⟩ | ⟨h, _⟩ | ⟨h, _⟩ <;> omega
   · rcases hi with ⟨_, h, _⟩ | ⟨_, h, _⟩ | ⟨_, h, _⟩
     · omega
     · unfold hasS at h; rw [Bool.and_eq_true] at h; exact Nat.le_of_lt (bit_lt hs h.1)
     · unfold hasS at h; rw [Bool.and_eq_true] at h; exact Nat.le_of_lt (bit_lt hs h.1)
   · rcases Classical.em (o.kind = 5) with h | h
     · exact h
     · exact absurd h0 (hb.2.1 h)
theorem treeAt_sz {xs : List PSymbol} (h8 : xs.length ≤ 8) {s : Nat} (h0 : s ≠ 0) (hs : s < 2 ^ xs.length) (hw : (cellAt xs s).ways ≠ 0) : (treeAt xs s).sz ≤ 15 := by
 have hc := ((chart xs s h0 hs).1 hw).2.1
 have hp := (AT.cov_perm hc hs).length_eq
 have := (treeAt xs s).sz_le
 have h3 : (elems xs.length s).length ≤ xs.length := by
  unfold elems
  exact Nat.le_trans (List.length_filter_le _ _) (by simp)
 omega
theorem Cht.only {e : TypeId} {o : Bool} {xs : List PSymbol} {vl : Value} {Fl : List Nat} {gp gc N : Nat} {K : Nat → RC} {w w' : World} {F : List Nat} (h : Cht e o xs vl Fl gp gc N K w) (b : Only F w w') {B : Nat} (hF : ∀ b ∈ F, B ≤ b) (hp : gp < B) (hc : gc < B) (hl : ∀ b ∈ Fl, b < B) : Cht e o xs vl Fl gp gc N K w' :=
 ⟨(b.block gp h.row.lt (fun hin => by have := hF _ hin; omega)).trans h.row, h.syms.only b (fun x hx hin => by have := hF _ hin; have := hl _ hx; omega), (b.block gc h.cells.lt (fun hin => by have := hF _ hin; omega)).trans h.cells, h.ne, h.dp, h.dc⟩
theorem row_only {w w' : World} {g : Nat} {e : TypeId} {cs : List Value} {F : List Nat} (R : Row w g e cs) (b : Only F w w') (h : g ∉ F) : Row w' g e cs := (b.block g R.lt h).trans R
theorem infoNode : (Try.prog.info? 76).map (fun i => (i.zero, i.size, i.bytes)) = some (some (.agg #[.int .i64 0, .int .i64 0, .int .i64 0, .int .i64 0]), pNode.size, 32) := by kernel_rfl
theorem only_new' {F : List Nat} {w w1 w2 : World} {x : Obj} (h : Only F w w1) (k : Only F (w1.alloc x) w2) : Only F w w2 := (h.trans (Only.of_below ((Below.refl _ _).alloc (Nat.le_refl _) _))).trans k
theorem only_more {F G : List Nat} {w w1 w2 : World} (h : Only F w w1) (k : Only G w1 w2) (hG : ∀ x ∈ G, x ∈ F ∨ w.heap.size ≤ x) : Only F w w2 :=
 ⟨k.os.trans h.os, k.tape.trans h.tape, k.output.trans h.output, Nat.le_trans h.size k.size, fun i hi hn => (k.block i (Nat.lt_of_lt_of_le hi h.size) (fun hin => by
  rcases hG i hin with h' | h'
  · exact hn h'
  · omega)).trans (h.block i hi hn)⟩
def TreePost (ns : List PNode) (F : List Nat) (T : AT) (w : World) (en : Ending) (w' : World) : Prop :=
 ∃ v' F', en = .returned (.tuple #[v', .int .i64 ((ns.length + T.sz : Nat) - 1 : Int)]) ∧ (pNodes 76).rep true w' (ns ++ T.nodes ns.length) [v'] F' ∧ Only F w w' ∧ (∀ B, Fresh B F → B ≤ w.heap.size → Fresh B F') ∧ ∀ b ∈ F', b ∈ F ∨ w.heap.size ≤ b
set_option maxRecDepth 100000 in
set_option maxHeartbeats 4000000 in
theorem spec_ctree_c {e : TypeId} {ob : Bool} {xs : List PSymbol} {vl : Value} {Fl : List Nat} {gp gc N B : Nat} {K : Nat → RC} (g : Grd xs N) (hk : RcOk xs K N) (hp : gp < B) (hc : gc < B) (hl : ∀ b ∈ Fl, b < B) : ∀ (s : Nat), s ≠ 0 → s < N → (cellAt xs s).ways ≠ 0 → ∀ (ns : List PNode) (v : Value) (F : List Nat) (w : World), Cht e ob xs vl Fl gp gc N K w → (pNodes 76).rep true w ns [v] F → Fresh B F → B ≤ w.heap.size → ns.length + (treeAt xs s).sz ≤ 1000 →
 Calls Try.prog 34 #[.pointer (some ⟨gp, 0, none⟩), v, .int .i64 (s : Int)] w (TreePost ns F (treeAt xs s) w) := by
 intro s
 induction s using Nat.strongRecOn with
 | _ s ih =>
 intro h0 hs hw ns v F w h hr hf hB hsz
 have hs' : s < 2 ^ xs.length := g.size ▸ hs
 have his := hk.is s hs h0
 obtain ⟨m0, m1, m2, m3, m4, m5, m6, m7, m8, m9⟩ := h.cell hs
 obtain ⟨C, hC⟩ : ∃ C, K s = C := ⟨_, rfl⟩
 rw [hC] at m0 m1 m2 m3 m4 m5 m6 m7 m8 m9 his
 obtain ⟨e1, e2, e3, e4, e5⟩ := his.2 hw
 have p1 := h.row.c1
 have i5 : (0 : Int) ≤ (s : Int) := by omega
 have i6 : (s : Int) < (N : Int) := by omega
 have H := Lib.hid h
 have HR := Lib.hid hr
 have HF := Lib.hid hf
 have IH := Lib.hid ih
 have HG := Lib.hid g
 have HL := Lib.hid hl
 obtain ⟨A, c, rfl⟩ := slice_len hr
 have hgF : ∀ b ∈ F, b < w.heap.size := fun b hb => (pNodes _).lt hr b hb
 by_cases h1 : s = 2 ^ s.log2
 · have hA := cellAt_single xs hs' h1
   rw [hA] at e2 e3
   have hT := Lib.hid (treeAt_single xs h1)
   rw [hT.out] at hsz
   have hq : s.log2 ≤ 8 := by
    have : s.log2 < xs.length := bit_lt hs' (by rw [h1, Nat.log2_two_pow, Nat.testBit_two_pow]; simp)
    have := g.few
    omega
   dsimp only [AT.sz] at hsz
   obtain ⟨q, hqq⟩ : ∃ q, s.log2 = q := ⟨_, rfl⟩
   rw [hqq] at e3 hT hq
   rw [e2] at m6
   rw [e3] at m7
   have hok : ∀ x ∈ [(⟨0, (q : Int), 0, 0⟩ : PNode)], pNodeOk x := fun x hx => by simp only [List.mem_singleton] at hx; subst hx; unfold pNodeOk I64; dsimp only; omega
   have HOK := Lib.hid hok
   clear hC his e1 e2 e3 e4 e5 hA h1 h hr hf ih g hl hok hk hqq
   go_enter Try.func34, Try.ntmps34
   go_upto_region 2 with fail
   have RX := Row.new w 72 #[.int .i64 C.box.x1, .int .i64 C.box.y1, .int .i64 C.box.x2, .int .i64 C.box.y2, .int .i64 C.ways, .int .i64 C.cost, .int .i64 0, .int .i64 (q : Int), .int .i64 C.first, .int .i64 C.rest]
   have HX := H.out.alloc (.cells #[.int .i64 C.box.x1, .int .i64 C.box.y1, .int .i64 C.box.x2, .int .i64 C.box.y2, .int .i64 C.ways, .int .i64 C.cost, .int .i64 0, .int .i64 (q : Int), .int .i64 C.first, .int .i64 C.rest] 72)
   have HRX := HR.out.alloc (.cells #[.int .i64 C.box.x1, .int .i64 C.box.y1, .int .i64 C.box.x2, .int .i64 C.box.y2, .int .i64 C.ways, .int .i64 C.cost, .int .i64 0, .int .i64 (q : Int), .int .i64 C.first, .int .i64 C.rest] 72)
   have OX : Only F w (w.alloc (.cells #[.int .i64 C.box.x1, .int .i64 C.box.y1, .int .i64 C.box.x2, .int .i64 C.box.y2, .int .i64 C.ways, .int .i64 C.cost, .int .i64 0, .int .i64 (q : Int), .int .i64 C.first, .int .i64 C.rest] 72)) := Only.of_below ((Below.refl _ _).alloc (Nat.le_refl _) _)
   have hs1 : w.heap.size < (w.alloc (.cells #[.int .i64 C.box.x1, .int .i64 C.box.y1, .int .i64 C.box.x2, .int .i64 C.box.y2, .int .i64 C.ways, .int .i64 C.cost, .int .i64 0, .int .i64 (q : Int), .int .i64 C.first, .int .i64 C.rest] 72)).heap.size := by simp
   generalize w.alloc (.cells #[.int .i64 C.box.x1, .int .i64 C.box.y1, .int .i64 C.box.x2, .int .i64 C.box.y2, .int .i64 C.ways, .int .i64 C.cost, .int .i64 0, .int .i64 (q : Int), .int .i64 C.first, .int .i64 C.rest] 72) = w1 at RX HX HRX OX hs1 ⊢
   replace H := Lib.hid HX
   replace HR := Lib.hid HRX
   have x3 := RX.cell' (i := 6) rfl
   have x4 := RX.cell' (i := 7) rfl
   have x5 := RX.cell' (i := 8) rfl
   have x6 := RX.cell' (i := 9) rfl
   clear HX HRX m0 m1 m2 m3 m4 m5 m6 m7 m8 m9 p1
   have kw1 : IntKind.i64.wrap (ns.length : Int) = (ns.length : Int) := IntWalk.i64_in _ (by omega)
   have kw2 : IntKind.i64.wrap ((ns.length : Int) + 1 - 1) = (ns.length : Int) := by rw [Int.add_sub_cancel]; exact kw1
   go_wp2_with (at_builtin; refine wpList_append_repX (T := pNode) (e := 76) (ys := [⟨0, (q : Int), 0, 0⟩]) (ec := [.int .i64 0, .int .i64 (q : Int), .int .i64 0, .int .i64 0]) rfl (.tmp 21) (.tmp 25) rfl Try.underlying26 infoNode rfl (by decide) rfl (HR.out.alloc _) rfl (repL_pNode [⟨0, (q : Int), 0, 0⟩] HOK.out) (cellsAt_new _ _ _) trivial (by rw [List.append_nil]; exact HF.out.1) (by simp [maxLen]; omega) (by simp; omega) ?_; intro v6 w6 F6 r6 o6 q6 x6; have R6 := Lib.hid r6; obtain ⟨A6, c6, hv6⟩ := slice_len r6; rw [List.length_append, List.length_singleton] at hv6; subst hv6; have O6 := Lib.hid o6; have Q6 := Lib.hid q6; have X6 := Lib.hid x6; clear r6 o6 q6 x6)
   refine bodyPost_ret (v := .tuple #[.slice A6 (ns.length + 1) c6, .int .i64 (ns.length : Int)]) (by simp [results, Try.results34, go_sem]) rfl ⟨.slice A6 (ns.length + 1) c6, F6, by rw [hT.out]; simp [AT.sz], by rw [hT.out]; exact R6.out, only_new' OX O6.out, fun B' hB' hle => Q6.out B' (by simpa using hB') (by simp; omega), fun b hb => ?_⟩
   rcases X6.out.1 b hb with hb | hb
   · exact .inl (by simpa using hb)
   · exact .inr (by simp at hb; omega)
 · obtain ⟨k, q, a, b, T⟩ := cell_tree hs' h1 hw
   rw [T.kind] at e2
   rw [T.sign] at e3
   rw [T.pa] at e4
   rw [T.pb] at e5
   rw [e2] at m6
   rw [e3] at m7
   rw [e4] at m8
   rw [e5] at m9
   have hk1 := T.k1
   have y0 : (k == 0) = false := by simp only [beq_eq_false_iff_ne]; omega
   have hal := T.al
   have hq8 : q ≤ 8 := Nat.le_trans T.q8 g.few
   have IHA := Lib.hid (IH.out a hal T.a0 (by omega) T.wa)
   have HT := Lib.hid T
   clear hC his e1 e2 e3 e4 e5 h1 h hr hf ih g hl hk
   by_cases hb0 : b = 0
   · obtain ⟨hk5, hT5⟩ := HT.out.root hb0
     subst hk5
     rw [hT5] at hsz
     dsimp only [AT.sz] at hsz
     have HT5 := Lib.hid hT5
     have y1 : ((b : Int) != 0) = false := by simp [hb0]
     clear hT5 hb0
     go_enter Try.func34, Try.ntmps34
     go_upto_region 2 with fail
     have RX := Row.new w 72 #[.int .i64 C.box.x1, .int .i64 C.box.y1, .int .i64 C.box.x2, .int .i64 C.box.y2, .int .i64 C.ways, .int .i64 C.cost, .int .i64 5, .int .i64 (q : Int), .int .i64 (a : Int), .int .i64 (b : Int)]
     have HX := H.out.alloc (.cells #[.int .i64 C.box.x1, .int .i64 C.box.y1, .int .i64 C.box.x2, .int .i64 C.box.y2, .int .i64 C.ways, .int .i64 C.cost, .int .i64 5, .int .i64 (q : Int), .int .i64 (a : Int), .int .i64 (b : Int)] 72)
     have HRX := HR.out.alloc (.cells #[.int .i64 C.box.x1, .int .i64 C.box.y1, .int .i64 C.box.x2, .int .i64 C.box.y2, .int .i64 C.ways, .int .i64 C.cost, .int .i64 5, .int .i64 (q : Int), .int .i64 (a : Int), .int .i64 (b : Int)] 72)
     have OX : Only F w (w.alloc (.cells #[.int .i64 C.box.x1, .int .i64 C.box.y1, .int .i64 C.box.x2, .int .i64 C.box.y2, .int .i64 C.ways, .int .i64 C.cost, .int .i64 5, .int .i64 (q : Int), .int .i64 (a : Int), .int .i64 (b : Int)] 72)) := Only.of_below ((Below.refl _ _).alloc (Nat.le_refl _) _)
     have hs1 : w.heap.size < (w.alloc (.cells #[.int .i64 C.box.x1, .int .i64 C.box.y1, .int .i64 C.box.x2, .int .i64 C.box.y2, .int .i64 C.ways, .int .i64 C.cost, .int .i64 5, .int .i64 (q : Int), .int .i64 (a : Int), .int .i64 (b : Int)] 72)).heap.size := by simp
     generalize w.alloc (.cells #[.int .i64 C.box.x1, .int .i64 C.box.y1, .int .i64 C.box.x2, .int .i64 C.box.y2, .int .i64 C.ways, .int .i64 C.cost, .int .i64 5, .int .i64 (q : Int), .int .i64 (a : Int), .int .i64 (b : Int)] 72) = w1 at RX HX HRX OX hs1 ⊢
     replace H := Lib.hid HX
     replace HR := Lib.hid HRX
     have x3 := RX.cell' (i := 6) rfl
     have x4 := RX.cell' (i := 7) rfl
     have x5 := RX.cell' (i := 8) rfl
     have x6 := RX.cell' (i := 9) rfl
     clear HX HRX m0 m1 m2 m3 m4 m5 m6 m7 m8 m9 p1
     have CA := Lib.hid (IHA.out ns (.slice A ns.length c) F w1 H.out HR.out HF.out (by omega) (by omega))
     go_wp2_with fail
     refine CA.out.mono ?_
     rintro en w2 ⟨v2, F2, rfl, r2, o2, q2, z2⟩
     have hlen : (ns ++ (treeAt xs a).nodes ns.length).length = ns.length + (treeAt xs a).sz := by rw [List.length_append, AT.nodes_len]
     have hsp := (treeAt xs a).sz_pos
     obtain ⟨A2, c2, hv2⟩ := slice_len r2
     rw [hlen] at hv2
     subst hv2
     have R2 := Lib.hid r2
     have HLEN := Lib.hid hlen
     have FR2 := Lib.hid (q2 B HF.out (by omega))
     have O2 := Lib.hid (OX.trans o2)
     have Q2 := Lib.hid q2
     have Z2 := Lib.hid z2
     have hs11 := hs1
     have ZZ := Lib.hid (show ∀ x ∈ F2, x ∈ F ∨ w.heap.size ≤ x from fun x hx => by
      rcases z2 x hx with h | h
      · exact .inl h
      · exact .inr (by omega))
     replace RX := row_only RX o2 (fun hb => by have := hgF _ hb; omega)
     clear x3 x4 x5 x6
     have x3 := RX.cell' (i := 6) rfl
     have x4 := RX.cell' (i := 7) rfl
     have x5 := RX.cell' (i := 8) rfl
     have x6 := RX.cell' (i := 9) rfl
     have hs2 := o2.size
     clear r2 o2 q2 z2 hlen
     obtain ⟨n, hn⟩ : ∃ n, ns.length + (treeAt xs a).sz = n := ⟨_, rfl⟩
     have HN := Lib.hid hn
     have hn1000 : n + 1 ≤ 1000 := by omega
     rw [hn] at HLEN R2
     rw [hn]
     have hnz : 1 ≤ n := by omega
     clear hsz
     clear hn
     have kw1 : IntKind.i64.wrap (n : Int) = (n : Int) := IntWalk.i64_in _ (by omega)
     have kw2 : IntKind.i64.wrap ((n : Int) + 1 - 1) = (n : Int) := by rw [Int.add_sub_cancel]; exact kw1
     have hok : ∀ x ∈ [(⟨5, ((n : Int) - 1), 0, (q : Int)⟩ : PNode)], pNodeOk x := fun x hx => by simp only [List.mem_singleton] at hx; subst hx; unfold pNodeOk I64; dsimp only; omega
     have HOK := Lib.hid hok
     clear hok
     go_wp2_with (at_builtin; refine wpList_append_repX (T := pNode) (e := 76) (ys := [⟨5, ((n : Int) - 1), 0, (q : Int)⟩]) (ec := [.int .i64 5, .int .i64 ((n : Int) - 1), .int .i64 0, .int .i64 (q : Int)]) rfl (.tmp 50) (.tmp 58) rfl Try.underlying26 infoNode rfl (by decide) rfl (R2.out.alloc _) rfl (repL_pNode [⟨5, ((n : Int) - 1), 0, (q : Int)⟩] HOK.out) (cellsAt_new _ _ _) trivial (by rw [List.append_nil]; exact FR2.out.1) (by rw [HLEN.out]; simp [maxLen]; omega) (by rw [HLEN.out]; simp; omega) ?_; intro v6 w6 F6 r6 o6 q6 x6; have R6 := Lib.hid r6; obtain ⟨A6, c6, hv6⟩ := slice_len r6; rw [List.length_append, List.length_singleton, HLEN.out] at hv6; subst hv6; have O6 := Lib.hid o6; have Q6 := Lib.hid q6; have X6 := Lib.hid x6; clear r6 o6 q6 x6)
     refine bodyPost_ret (v := .tuple #[.slice A6 (n + 1) c6, .int .i64 (n : Int)]) (by simp [results, Try.results34, go_sem]) rfl ⟨.slice A6 (n + 1) c6, F6, (by rw [HT5.out]; simp only [AT.sz, ← Nat.add_assoc, HN.out]; simp), (by rw [HT5.out]; simp only [AT.nodes, ← List.append_assoc, HN.out]; exact R6.out), ?_, ?_, ?_⟩
     · refine only_more (w1 := w2.alloc _) (O2.out.trans (Only.of_below ((Below.refl _ _).alloc (Nat.le_refl _) _))) O6.out (fun x hx => ?_)
       exact ZZ.out x hx
     · intro B' hB' hle
       exact Q6.out B' (by rw [List.append_nil]; exact Q2.out B' hB' (by omega)) (by have := O2.out.size; simp; omega)
     · intro x hx
       rcases X6.out.1 x hx with hx | hx
       · exact ZZ.out x (by simpa using hx)
       · exact .inr (by have := O2.out.size; simp at hx; omega)
   · obtain ⟨hbs, hwb, hT5⟩ := HT.out.two hb0
     have IHB := Lib.hid (IH.out b hbs hb0 (by omega) hwb)
     rw [hT5] at hsz
     dsimp only [AT.sz] at hsz
     have HT5 := Lib.hid hT5
     have y1 : ((b : Int) != 0) = true := by simp [hb0]
     clear hT5 hb0
     go_enter Try.func34, Try.ntmps34
     go_upto_region 2 with fail
     have RX := Row.new w 72 #[.int .i64 C.box.x1, .int .i64 C.box.y1, .int .i64 C.box.x2, .int .i64 C.box.y2, .int .i64 C.ways, .int .i64 C.cost, .int .i64 k, .int .i64 (q : Int), .int .i64 (a : Int), .int .i64 (b : Int)]
     have HX := H.out.alloc (.cells #[.int .i64 C.box.x1, .int .i64 C.box.y1, .int .i64 C.box.x2, .int .i64 C.box.y2, .int .i64 C.ways, .int .i64 C.cost, .int .i64 k, .int .i64 (q : Int), .int .i64 (a : Int), .int .i64 (b : Int)] 72)
     have HRX := HR.out.alloc (.cells #[.int .i64 C.box.x1, .int .i64 C.box.y1, .int .i64 C.box.x2, .int .i64 C.box.y2, .int .i64 C.ways, .int .i64 C.cost, .int .i64 k, .int .i64 (q : Int), .int .i64 (a : Int), .int .i64 (b : Int)] 72)
     have OX : Only F w (w.alloc (.cells #[.int .i64 C.box.x1, .int .i64 C.box.y1, .int .i64 C.box.x2, .int .i64 C.box.y2, .int .i64 C.ways, .int .i64 C.cost, .int .i64 k, .int .i64 (q : Int), .int .i64 (a : Int), .int .i64 (b : Int)] 72)) := Only.of_below ((Below.refl _ _).alloc (Nat.le_refl _) _)
     have hs1 : w.heap.size < (w.alloc (.cells #[.int .i64 C.box.x1, .int .i64 C.box.y1, .int .i64 C.box.x2, .int .i64 C.box.y2, .int .i64 C.ways, .int .i64 C.cost, .int .i64 k, .int .i64 (q : Int), .int .i64 (a : Int), .int .i64 (b : Int)] 72)).heap.size := by simp
     generalize w.alloc (.cells #[.int .i64 C.box.x1, .int .i64 C.box.y1, .int .i64 C.box.x2, .int .i64 C.box.y2, .int .i64 C.ways, .int .i64 C.cost, .int .i64 k, .int .i64 (q : Int), .int .i64 (a : Int), .int .i64 (b : Int)] 72) = w1 at RX HX HRX OX hs1 ⊢
     replace H := Lib.hid HX
     replace HR := Lib.hid HRX
     have x3 := RX.cell' (i := 6) rfl
     have x4 := RX.cell' (i := 7) rfl
     have x5 := RX.cell' (i := 8) rfl
     have x6 := RX.cell' (i := 9) rfl
     clear HX HRX m0 m1 m2 m3 m4 m5 m6 m7 m8 m9 p1
     have CA := Lib.hid (IHA.out ns (.slice A ns.length c) F w1 H.out HR.out HF.out (by omega) (by omega))
     go_wp2_with fail
     refine CA.out.mono ?_
     rintro en w2 ⟨v2, F2, rfl, r2, o2, q2, z2⟩
     have hlen : (ns ++ (treeAt xs a).nodes ns.length).length = ns.length + (treeAt xs a).sz := by rw [List.length_append, AT.nodes_len]
     have hsp := (treeAt xs a).sz_pos
     obtain ⟨A2, c2, hv2⟩ := slice_len r2
     rw [hlen] at hv2
     subst hv2
     have R2 := Lib.hid r2
     have HLEN := Lib.hid hlen
     have FR2 := Lib.hid (q2 B HF.out (by omega))
     have O2 := Lib.hid (OX.trans o2)
     have Q2 := Lib.hid q2
     have Z2 := Lib.hid z2
     have hs11 := hs1
     have ZZ := Lib.hid (show ∀ x ∈ F2, x ∈ F ∨ w.heap.size ≤ x from fun x hx => by
      rcases z2 x hx with h | h
      · exact .inl h
      · exact .inr (by omega))
     have H2 := Lib.hid (H.out.only o2 HF.out.2 hp hc HL.out)
     have hgF2 : ∀ x ∈ F2, x < w2.heap.size := fun x hx => (pNodes _).lt r2 x hx
     replace RX := row_only RX o2 (fun hb => by have := hgF _ hb; omega)
     clear x3 x4 x5 x6
     have x3 := RX.cell' (i := 6) rfl
     have x4 := RX.cell' (i := 7) rfl
     have x5 := RX.cell' (i := 8) rfl
     have x6 := RX.cell' (i := 9) rfl
     have hs2 := o2.size
     clear r2 o2 q2 z2 hlen
     obtain ⟨n, hn⟩ : ∃ n, ns.length + (treeAt xs a).sz = n := ⟨_, rfl⟩
     have HN := Lib.hid hn
     have hn1000 : n + (treeAt xs b).sz + 1 ≤ 1000 := by omega
     rw [hn] at HLEN R2
     rw [hn]
     have hnz : 1 ≤ n := by omega
     clear hsz
     clear hn
     have CB := IHB.out _ (.slice A2 n c2) F2 w2 H2.out R2.out FR2.out (by omega) (by rw [HLEN.out]; omega)
     unfold TreePost at CB
     rw [HLEN.out] at CB
     have HCB := Lib.hid CB
     have hxF2 : w.heap.size ∉ F2 := fun hin => by
      rcases Z2.out _ hin with h | h
      · have := hgF _ h; omega
      · omega
     clear CB
     go_wp2_with fail
     refine HCB.out.mono ?_
     rintro en w3 ⟨v3, F3, rfl, r3, o3, q3, z3⟩
     have hlen3 : ((ns ++ (treeAt xs a).nodes ns.length) ++ (treeAt xs b).nodes n).length = n + (treeAt xs b).sz := by rw [List.length_append, HLEN.out, AT.nodes_len]
     have hsp3 := (treeAt xs b).sz_pos
     obtain ⟨A3, c3, hv3⟩ := slice_len r3
     rw [hlen3] at hv3
     subst hv3
     have R3 := Lib.hid r3
     clear HLEN
     have HLEN := Lib.hid hlen3
     have FR3 := Lib.hid (q3 B FR2.out (by omega))
     have O3 := Lib.hid (only_more O2.out o3 ZZ.out)
     have Q3 := Lib.hid q3
     have ZZ3 := Lib.hid (show ∀ x ∈ F3, x ∈ F ∨ w.heap.size ≤ x from fun x hx => by
      rcases z3 x hx with h | h
      · exact ZZ.out x h
      · exact .inr (by omega))
     replace RX := row_only RX o3 hxF2
     clear x3 x4 x5 x6
     have x3 := RX.cell' (i := 6) rfl
     have x4 := RX.cell' (i := 7) rfl
     have x5 := RX.cell' (i := 8) rfl
     have x6 := RX.cell' (i := 9) rfl
     have hs3 := o3.size
     clear r3 o3 q3 z3 hlen3
     obtain ⟨m, hm⟩ : ∃ m, n + (treeAt xs b).sz = m := ⟨_, rfl⟩
     have HM := Lib.hid hm
     have hm1000 : m + 1 ≤ 1000 := by omega
     rw [hm] at HLEN R3
     rw [hm]
     have hmz : 1 ≤ m := by omega
     clear hm
     have kw1 : IntKind.i64.wrap (m : Int) = (m : Int) := IntWalk.i64_in _ (by omega)
     have kw2 : IntKind.i64.wrap ((m : Int) + 1 - 1) = (m : Int) := by rw [Int.add_sub_cancel]; exact kw1
     have hok : ∀ x ∈ [(⟨k, ((n : Int) - 1), ((m : Int) - 1), (q : Int)⟩ : PNode)], pNodeOk x := fun x hx => by simp only [List.mem_singleton] at hx; subst hx; unfold pNodeOk I64; dsimp only; omega
     have HOK := Lib.hid hok
     clear hok
     go_wp2_with (at_builtin; refine wpList_append_repX (T := pNode) (e := 76) (ys := [⟨k, ((n : Int) - 1), ((m : Int) - 1), (q : Int)⟩]) (ec := [.int .i64 k, .int .i64 ((n : Int) - 1), .int .i64 ((m : Int) - 1), .int .i64 (q : Int)]) rfl (.tmp 50) (.tmp 58) rfl Try.underlying26 infoNode rfl (by decide) rfl (R3.out.alloc _) rfl (repL_pNode [⟨k, ((n : Int) - 1), ((m : Int) - 1), (q : Int)⟩] HOK.out) (cellsAt_new _ _ _) trivial (by rw [List.append_nil]; exact FR3.out.1) (by rw [HLEN.out]; simp [maxLen]; omega) (by rw [HLEN.out]; simp; omega) ?_; intro v6 w6 F6 r6 o6 q6 x6; have R6 := Lib.hid r6; obtain ⟨A6, c6, hv6⟩ := slice_len r6; rw [List.length_append, List.length_singleton, HLEN.out] at hv6; subst hv6; have O6 := Lib.hid o6; have Q6 := Lib.hid q6; have X6 := Lib.hid x6; clear r6 o6 q6 x6)
     refine bodyPost_ret (v := .tuple #[.slice A6 (m + 1) c6, .int .i64 (m : Int)]) (by simp [results, Try.results34, go_sem]) rfl ⟨.slice A6 (m + 1) c6, F6, (by rw [HT5.out]; simp only [AT.sz, ← Nat.add_assoc, HN.out, HM.out]; simp), (by rw [HT5.out]; simp only [AT.nodes, ← List.append_assoc, HN.out, HM.out]; exact R6.out), ?_, ?_, ?_⟩
     · refine only_more (w1 := w3.alloc _) (O3.out.trans (Only.of_below ((Below.refl _ _).alloc (Nat.le_refl _) _))) O6.out (fun x hx => ?_)
       exact ZZ3.out x hx
     · intro B' hB' hle
       exact Q6.out B' (by rw [List.append_nil]; exact Q3.out B' (Q2.out B' hB' (by omega)) (by omega)) (by have := O3.out.size; simp; omega)
     · intro x hx
       rcases X6.out.1 x hx with hx | hx
       · exact ZZ3.out x (by simpa using hx)
       · exact .inr (by have := O3.out.size; simp at hx; omega)
end Go.Proofs.Ytmopioaojdlnkaa
