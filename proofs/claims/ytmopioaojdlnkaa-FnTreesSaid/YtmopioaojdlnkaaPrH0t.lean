/- What a node costs by itself is a small number. No program is named here. Conditions: none. -/
import Derived.Test.YtmopioaojdlnkaaInt
import Derived.Test.YtmopioaojdlnkaaPrGt
import Derived.Test.YtmopioaojdlnkaaRowt
import Derived.Laws.BitsLemmas
import Derived.Test.YtmopioaojdlnkaaCost2t
import Derived.Test.YtmopioaojdlnkaaMarkt
import Derived.Test.YtmopioaojdlnkaaTkt
import Derived.Deep.Cut
namespace Go.Proofs.Ytmopioaojdlnkaa
open Go Go.RowKit
theorem ownF_small {k : Int} {a b s : PBox} (ha : boxIn a) (hb : boxIn b) (hs : boxIn s) : 0 ≤ ownF k a b s ∧ ownF k a b s ≤ 20000 := by
 unfold boxIn at *
 unfold ownF absI
 repeat' split
 all_goals omega
def BoxesIn (xs : List PSymbol) : Prop := ∀ i, i < xs.length → boxIn (sbox xs i)
theorem AT.bx_in {xs : List PSymbol} (hx : BoxesIn xs) : ∀ T : AT, (∀ i ∈ T.syms, i < xs.length) → boxIn (T.bx xs)
 | .leaf i, h => hx i (h i (by simp [AT.syms]))
 | .two k s a b, h => by
   have ha := a.bx_in hx (fun i hi => h i (by rw [AT.syms]; exact List.mem_append_left _ hi))
   have hb := b.bx_in hx (fun i hi => h i (by rw [AT.syms]; exact List.mem_append_right _ (List.mem_append_left _ hi)))
   rw [AT.bx]
   refine boxIn_join (boxIn_join ha hb) ?_
   split
   · rename_i hk
     exact hx s (h s (by rw [AT.syms, if_pos hk]; simp))
   · exact ha
 | .root s a, h => by
   have ha := a.bx_in hx (fun i hi => h i (by rw [AT.syms]; exact List.mem_append_left _ hi))
   rw [AT.bx]
   exact boxIn_join (boxIn_join ha ha) (hx s (h s (by rw [AT.syms]; simp)))
theorem AT.cost_small {xs : List PSymbol} (hx : BoxesIn xs) : ∀ T : AT, (∀ i ∈ T.syms, i < xs.length) → 0 ≤ T.cost xs ∧ T.cost xs ≤ 20000 * T.sz
 | .leaf _, _ => ⟨Int.le_refl _, by simp [AT.cost, AT.sz]⟩
 | .two k s a b, h => by
   have h1 : ∀ i ∈ a.syms, i < xs.length := fun i hi => h i (by rw [AT.syms]; exact List.mem_append_left _ hi)
   have h2 : ∀ i ∈ b.syms, i < xs.length := fun i hi => h i (by rw [AT.syms]; exact List.mem_append_right _ (List.mem_append_left _ hi))
   have ca := a.cost_small hx h1
   have cb := b.cost_small hx h2
   have hs : boxIn (if k = 2 then sbox xs s else a.bx xs) := by
    split
    · rename_i hk
      exact hx s (h s (by rw [AT.syms, if_pos hk]; simp))
    · exact a.bx_in hx h1
   have := ownF_small (k := k) (a.bx_in hx h1) (b.bx_in hx h2) hs
   rw [AT.cost, AT.sz]
   push_cast
   omega
 | .root s a, h => by
   have h1 : ∀ i ∈ a.syms, i < xs.length := fun i hi => h i (by rw [AT.syms]; exact List.mem_append_left _ hi)
   have ca := a.cost_small hx h1
   have hs : boxIn (sbox xs s) := hx s (h s (by rw [AT.syms]; simp))
   have := ownF_small (k := 5) (a.bx_in hx h1) (a.bx_in hx h1) hs
   rw [AT.cost, AT.sz]
   push_cast
   omega
theorem elems_len_le (n s : Nat) : (elems n s).length ≤ n := by
 have := List.length_filter_le (fun i => s.testBit i) (List.range n)
 rwa [List.length_range] at this
theorem cell_cost {xs : List PSymbol} (hx : BoxesIn xs) (h8 : xs.length ≤ 8) {s : Nat} (h0 : s ≠ 0) (hs : s < 2 ^ xs.length) (hw : (cellAt xs s).ways ≠ 0) : 0 ≤ (cellAt xs s).cost ∧ (cellAt xs s).cost ≤ 300000 := by
 obtain ⟨t1, t2, t3⟩ := (chart xs s h0 hs).1 hw
 have h1 : ∀ i ∈ (treeAt xs s).syms, i < xs.length := fun i hi => bit_lt hs ((t2.2 i).1 hi)
 have hc := (treeAt xs s).cost_small hx h1
 have hsz := (treeAt xs s).sz_le
 have hl := (AT.cov_perm t2 hs).length_eq
 have := elems_len_le xs.length s
 rw [t3] at hc
 omega
theorem joinN_in : ∀ {l : List PBox}, l ≠ [] → (∀ b ∈ l, boxIn b) → boxIn (joinN l)
 | [], h, _ => absurd rfl h
 | [b], _, h => h b (by simp)
 | b :: c :: r, _, h => by
   rw [joinN_cons (by simp)]
   exact boxIn_join (h b (by simp)) (joinN_in (by simp) fun x hx => h x (List.mem_cons_of_mem _ hx))
theorem boxS_in {xs : List PSymbol} (hx : BoxesIn xs) {s : Nat} (h0 : s ≠ 0) (hs : s < 2 ^ xs.length) : boxIn (boxS xs s) := by
 refine joinN_in ?_ ?_
 · intro h
   rw [List.map_eq_nil_iff] at h
   obtain ⟨i, hi⟩ := ne_zero_bit h0
   have := (mem_elems hs).2 hi
   rw [h] at this; cases this
 · intro b hb
   obtain ⟨i, hi, rfl⟩ := List.mem_map.1 hb
   exact hx i (bit_lt hs ((mem_elems hs).1 hi))
theorem wraps_i64 (n : Int) (h₀ : 0 ≤ n) (h₁ : n < 2 ^ 8) : IntKind.i64.wrap n = n := by rw [IntKind.wrap_i64]; omega
theorem i64_and (a b : Nat) (ha : a < 256) (hb : b < 256) : bits .and .i64 (a : Int) (b : Int) = ((a &&& b : Nat) : Int) := (bits_nat .i64 8 (by decide) wraps_i64 a b ha hb).1
theorem nat_andNot (a b : Nat) (ha : a < 18446744073709551616) (hb : b < 18446744073709551616) : a &&& (18446744073709551616 - 1 - b) = a ^^^ (a &&& b) := by
 apply Nat.eq_of_testBit_eq
 intro i
 rw [Nat.testBit_and, Nat.testBit_xor, Nat.testBit_and, show 18446744073709551616 - 1 - b = 2 ^ 64 - (b + 1) by omega, Nat.testBit_two_pow_sub_succ (by omega)]
 by_cases hi : i < 64
 · simp only [hi, decide_true, Bool.true_and]; cases a.testBit i <;> cases b.testBit i <;> rfl
 · have : a.testBit i = false := Nat.testBit_lt_two_pow (Nat.lt_of_lt_of_le ha (Nat.pow_le_pow_right (n := 2) (by decide) (show 64 ≤ i by omega)))
   rw [this]; simp
theorem i64_andNot (a b : Nat) (ha : a < 256) (hb : b < 256) : bits .andNot .i64 (a : Int) (b : Int) = ((a ^^^ (a &&& b) : Nat) : Int) := by
 have h1 : a % 2 ^ IntKind.i64.bits = a := Nat.mod_eq_of_lt (by show a < 18446744073709551616; omega)
 have h2 : b % 2 ^ IntKind.i64.bits = b := Nat.mod_eq_of_lt (by show b < 18446744073709551616; omega)
 simp only [bits, BitVec.ofInt_natCast, BitVec.toNat_and, BitVec.toNat_not, BitVec.toNat_ofNat, h1, h2]
 rw [show (2 ^ IntKind.i64.bits - 1 - b : Nat) = 18446744073709551616 - 1 - b from rfl, nat_andNot a b (by omega) (by omega)]
 refine wraps_i64 _ (Int.natCast_nonneg _) ?_
 have : a ^^^ (a &&& b) < 2 ^ 8 := Nat.xor_lt_two_pow (by omega) (Nat.and_lt_two_pow _ (by omega))
 exact_mod_cast this
theorem and_pow (s i : Nat) : s &&& 2 ^ i = if s.testBit i then 2 ^ i else 0 := by
 apply Nat.eq_of_testBit_eq
 intro j
 rw [Nat.testBit_and, Nat.testBit_two_pow]
 by_cases h : i = j
 · subst h; cases e : s.testBit i <;> simp
 · cases e : s.testBit i <;> simp [h]
theorem nat_mask1b (x : Nat) : x &&& 1 = x % 2 := Nat.and_two_pow_sub_one_eq_mod x 1
theorem bit_is (s i : Nat) (hs : s < 256) : bits .and .i64 ((s / 2 ^ i : Nat) : Int) 1 = if s.testBit i then 1 else 0 := by
 have h := i64_and (s / 2 ^ i) 1 (Nat.lt_of_le_of_lt (Nat.div_le_self _ _) hs) (by decide)
 rw [nat_mask1b] at h
 refine Eq.trans h ?_
 rw [Nat.testBit_eq_decide_div_mod_eq]
 by_cases e : s / 2 ^ i % 2 = 1
 · rw [e]; rfl
 · rw [show s / 2 ^ i % 2 = 0 by omega]; rfl
theorem pow_small (i : Nat) (h : i ≤ 8) : 2 ^ i ≤ 256 := Nat.le_trans (Nat.pow_le_pow_right (n := 2) (by decide) h) (by decide)
theorem i64_shl (i : Nat) (h : i ≤ 8) : IntKind.i64.wrap (2 ^ i) = ((2 ^ i : Nat) : Int) := by
 have e : ((2 : Int) ^ i) = ((2 ^ i : Nat) : Int) := by simp
 have := pow_small i h
 rw [e]
 clear e
 generalize (2 : Nat) ^ i = p at *
 exact IntWalk.i64_in _ (by omega)
def rowF {α : Type} (enc : α → List Value) (K : Nat → α) : Nat → List Value
 | 0 => []
 | n + 1 => rowF enc K n ++ enc (K n)
def updF {α : Type} (K : Nat → α) (s : Nat) (a : α) : Nat → α := fun t => if t = s then a else K t
theorem updF_same {α : Type} (K : Nat → α) (s : Nat) (a : α) : updF K s a s = a := by simp [updF]
theorem updF_other {α : Type} (K : Nat → α) {s t : Nat} (a : α) (h : t ≠ s) : updF K s a t = K t := by simp [updF, h]
theorem updF_upd {α : Type} (K : Nat → α) (s : Nat) (a b : α) : updF (updF K s a) s b = updF K s b := by
 funext t; unfold updF; split <;> rfl
theorem updF_id {α : Type} (K : Nat → α) (s : Nat) : updF K s (K s) = K := by
 funext t; unfold updF; split
 · rename_i h; rw [h]
 · rfl
section
variable {α : Type} {enc : α → List Value} {z : Nat}
theorem rowF_len (h : ∀ a, (enc a).length = z) (K : Nat → α) : ∀ n, (rowF enc K n).length = n * z
 | 0 => by simp [rowF]
 | n + 1 => by rw [rowF, List.length_append, rowF_len h K n, h, Nat.add_mul, Nat.one_mul]
theorem rowF_at (h : ∀ a, (enc a).length = z) (K : Nat → α) {s j : Nat} (hj : j < z) : ∀ {n}, s < n → (rowF enc K n)[s * z + j]? = (enc (K s))[j]?
 | 0, hs => by omega
 | n + 1, hs => by
   have hl := rowF_len h K n
   rw [rowF]
   by_cases e : s = n
   · subst e
     rw [List.getElem?_append_right (by omega), hl, Nat.add_sub_cancel_left]
   · have : s * z + j < n * z := by
      have : (s + 1) * z ≤ n * z := Nat.mul_le_mul_right _ (by omega)
      rw [Nat.add_mul] at this; omega
     rw [List.getElem?_append_left (by omega), rowF_at h K hj (by omega)]
theorem rowF_cong {K L : Nat → α} : ∀ {n}, (∀ s, s < n → K s = L s) → rowF enc K n = rowF enc L n
 | 0, _ => rfl
 | n + 1, h => by rw [rowF, rowF, rowF_cong (fun s hs => h s (by omega)), h n (by omega)]
theorem rowF_set (h : ∀ a, (enc a).length = z) (K : Nat → α) {s j : Nat} (hj : j < z) (u : Value) {a : α} (ha : enc a = (enc (K s)).set j u) : ∀ {n}, s < n → (rowF enc K n).set (s * z + j) u = rowF enc (updF K s a) n
 | 0, hs => by omega
 | n + 1, hs => by
   have hl := rowF_len h K n
   rw [rowF, rowF]
   by_cases e : s = n
   · subst e
     rw [List.set_append_right _ _ (by omega), hl, Nat.add_sub_cancel_left, updF_same, ha]
     congr 1
     exact rowF_cong (fun t ht => (updF_other K a (by omega)).symm)
   · have : s * z + j < n * z := by
      have : (s + 1) * z ≤ n * z := Nat.mul_le_mul_right _ (by omega)
      rw [Nat.add_mul] at this; omega
     rw [List.set_append_left _ _ (by omega), rowF_set h K hj u ha (by omega), updF_other K a (by omega)]
theorem rowF_const (c : α) : ∀ n, rowF enc (fun _ => c) n = (List.replicate n (enc c)).flatten
 | 0 => rfl
 | n + 1 => by rw [rowF, rowF_const c n, List.replicate_succ', List.flatten_append]; simp
variable {w : World} {g : Nat} {e : TypeId} {K : Nat → α} {n : Nat}
theorem RowF.cell (h : ∀ a, (enc a).length = z) (R : Row w g e (rowF enc K n)) {s j : Nat} (hs : s < n) (hj : j < z) {u : Value} (hu : (enc (K s))[j]? = some u) : w.cell? ⟨g, s * z + j, none⟩ = some u :=
 R.cell' ((rowF_at h K hj hs).trans hu)
theorem RowF.set (h : ∀ a, (enc a).length = z) (R : Row w g e (rowF enc K n)) {s j : Nat} (hs : s < n) (hj : j < z) (u : Value) {a : α} (ha : enc a = (enc (K s)).set j u) : Row (w.setCell ⟨g, s * z + j, none⟩ u) g e (rowF enc (updF K s a) n) := by
 rw [← rowF_set h K hj u ha hs]; exact R.set _ u
end
section
variable (xs : List PSymbol) (c : Nat → Cell)
theorem stepO_ways (m : Cell) (o : Opt) : m.ways ≤ (stepO xs c m o).ways := by
 unfold stepO; split
 · split <;> simp
 · exact Nat.le_refl _
theorem foldO_ways : ∀ (R : List Opt) (m : Cell), m.ways ≤ (R.foldl (stepO xs c) m).ways
 | [], _ => Nat.le_refl _
 | o :: R, m => Nat.le_trans (stepO_ways xs c m o) (foldO_ways R _)
theorem stepI_ways (m : Cell) (o : Opt) : m.ways ≤ (stepI xs c m o).ways := by
 unfold stepI; split
 · split <;> simp
 · exact Nat.le_refl _
theorem foldI_ways : ∀ (R : List Opt) (m : Cell), m.ways ≤ (R.foldl (stepI xs c) m).ways
 | [], _ => Nat.le_refl _
 | o :: R, m => Nat.le_trans (stepI_ways xs c m o) (foldI_ways R _)
end
theorem waysO_small {xs : List PSymbol} (h8 : xs.length ≤ 8) {s : Nat} (hs : s < 2 ^ xs.length) (h1 : s ≠ 2 ^ s.log2) {o : Opt} (ho : IsOpt xs s o) : waysO (cellAt xs) o ≤ 10000000000000000 := by
 have n1 := not_single h1
 have hb := opt_bits xs ho n1
 have hlt := opt_lt xs ho n1
 have hp := opt_pcn hs ho n1
 have ha := ways_le h8 o.a hb.1 (by omega)
 have hpa := pcn_pos (n := xs.length) (s := o.a) (by omega) hb.1
 have hps := pcn_le xs.length s
 unfold waysO
 by_cases h0 : o.b = 0
 · rw [if_pos h0, Nat.mul_one]
   exact Nat.le_trans ha (Nat.le_trans (tabF_mono 8 (by decide) _ (by have := pcn_le xs.length o.a; omega)) tabF_eight)
 · rw [if_neg h0]
   have hbw := ways_le h8 o.b h0 (by omega)
   have hpb := pcn_pos (n := xs.length) (s := o.b) (by omega) h0
   refine Nat.le_trans (Nat.mul_le_mul ha hbw) (Nat.le_trans (tabF_mul _ (by omega) _ (by omega) hpa hpb (by omega)) (Nat.le_trans (tabF_mono 8 (by decide) _ (by omega)) tabF_eight))
structure RC where
 box : PBox
 ways : Int
 cost : Int
 kind : Int
 sign : Int
 first : Int
 rest : Int
def rcCells (c : RC) : List Value := [.int .i64 c.box.x1, .int .i64 c.box.y1, .int .i64 c.box.x2, .int .i64 c.box.y2, .int .i64 c.ways, .int .i64 c.cost, .int .i64 c.kind, .int .i64 c.sign, .int .i64 c.first, .int .i64 c.rest]
theorem rcCells_len (c : RC) : (rcCells c).length = 10 := rfl
def rc0 : RC := ⟨⟨0, 0, 0, 0⟩, 0, 0, 0, 0, 0, 0⟩
structure Cht (e : TypeId) (o : Bool) (xs : List PSymbol) (vl : Value) (Fl : List Nat) (gp gc N : Nat) (K : Nat → RC) (w : World) : Prop where
 row : Row w gp 70 [vl, .slice (some ⟨gc, 0, none⟩) N N]
 syms : (pSymbols e).rep o w xs [vl] Fl
 cells : Row w gc 72 (rowF rcCells K N)
 ne : gp ≠ gc
 dp : gp ∉ Fl
 dc : gc ∉ Fl
section
variable {e : TypeId} {o : Bool} {xs : List PSymbol} {vl : Value} {Fl : List Nat} {gp gc N : Nat} {K : Nat → RC} {w w' : World}
theorem Cht.alloc (h : Cht e o xs vl Fl gp gc N K w) (x : Obj) : Cht e o xs vl Fl gp gc N K (w.alloc x) := ⟨h.row.alloc x, h.syms.alloc x, h.cells.alloc x, h.ne, h.dp, h.dc⟩
theorem Cht.drew (h : Cht e o xs vl Fl gp gc N K w) : Cht e o xs vl Fl gp gc N K w.drew := ⟨h.row.drew, h.syms.drew, h.cells.drew, h.ne, h.dp, h.dc⟩
theorem Cht.drewN (h : Cht e o xs vl Fl gp gc N K w) (n : Nat) : Cht e o xs vl Fl gp gc N K (w.drewN n) := ⟨h.row.drewN n, h.syms.drewN n, h.cells.drewN n, h.ne, h.dp, h.dc⟩
theorem Cht.below (h : Cht e o xs vl Fl gp gc N K w) (b : Below w.heap.size w w') : Cht e o xs vl Fl gp gc N K w' := ⟨h.row.later b, h.syms.below b, h.cells.later b, h.ne, h.dp, h.dc⟩
theorem Cht.put (h : Cht e o xs vl Fl gp gc N K w) {s j : Nat} (hs : s < N) (hj : j < 10) (u : Value) {a : RC} (ha : rcCells a = (rcCells (K s)).set j u) : Cht e o xs vl Fl gp gc N (updF K s a) (w.setCell ⟨gc, s * 10 + j, none⟩ u) :=
 ⟨h.row.far (p := ⟨gc, _, none⟩) h.ne u, h.syms.setCell (p := ⟨gc, _, none⟩) h.dc u, RowF.set rcCells_len h.cells hs hj u ha, h.ne, h.dp, h.dc⟩
theorem Cht.far (h : Cht e o xs vl Fl gp gc N K w) {p : Addr} (hp : gp ≠ p.block) (hc : gc ≠ p.block) (hl : p.block ∉ Fl) (u : Value) : Cht e o xs vl Fl gp gc N K (w.setCell p u) :=
 ⟨h.row.far hp u, h.syms.setCell hl u, h.cells.far hc u, h.ne, h.dp, h.dc⟩
theorem Cht.cell (h : Cht e o xs vl Fl gp gc N K w) {s : Nat} (hs : s < N) :
 w.cell? ⟨gc, s * 10, none⟩ = some (.int .i64 (K s).box.x1) ∧ w.cell? ⟨gc, s * 10 + 1, none⟩ = some (.int .i64 (K s).box.y1) ∧ w.cell? ⟨gc, s * 10 + 2, none⟩ = some (.int .i64 (K s).box.x2) ∧ w.cell? ⟨gc, s * 10 + 3, none⟩ = some (.int .i64 (K s).box.y2) ∧
 w.cell? ⟨gc, s * 10 + 4, none⟩ = some (.int .i64 (K s).ways) ∧ w.cell? ⟨gc, s * 10 + 5, none⟩ = some (.int .i64 (K s).cost) ∧ w.cell? ⟨gc, s * 10 + 6, none⟩ = some (.int .i64 (K s).kind) ∧ w.cell? ⟨gc, s * 10 + 7, none⟩ = some (.int .i64 (K s).sign) ∧
 w.cell? ⟨gc, s * 10 + 8, none⟩ = some (.int .i64 (K s).first) ∧ w.cell? ⟨gc, s * 10 + 9, none⟩ = some (.int .i64 (K s).rest) :=
 ⟨RowF.cell rcCells_len h.cells hs (j := 0) (by decide) rfl, RowF.cell rcCells_len h.cells hs (j := 1) (by decide) rfl, RowF.cell rcCells_len h.cells hs (j := 2) (by decide) rfl, RowF.cell rcCells_len h.cells hs (j := 3) (by decide) rfl, RowF.cell rcCells_len h.cells hs (j := 4) (by decide) rfl,
  RowF.cell rcCells_len h.cells hs (j := 5) (by decide) rfl, RowF.cell rcCells_len h.cells hs (j := 6) (by decide) rfl, RowF.cell rcCells_len h.cells hs (j := 7) (by decide) rfl, RowF.cell rcCells_len h.cells hs (j := 8) (by decide) rfl, RowF.cell rcCells_len h.cells hs (j := 9) (by decide) rfl⟩
end
def waysR (A B : RC) (rest : Int) : Int := if rest = 0 then A.ways else A.ways * B.ways
def tryR (A B M : RC) (kind sign first rest : Int) (SB : PBox) : RC :=
 if waysR A B rest = 0 ∨ fitsF kind A.box B.box SB = false then M
 else if M.ways = 0 ∨ A.cost + B.cost + ownF kind A.box B.box SB < M.cost then ⟨M.box, M.ways + waysR A B rest, A.cost + B.cost + ownF kind A.box B.box SB, kind, sign, first, rest⟩
 else { M with ways := M.ways + waysR A B rest }
theorem tryR_none {A B M : RC} {kind sign first rest : Int} {SB : PBox} (h : waysR A B rest = 0) : tryR A B M kind sign first rest SB = M := by unfold tryR; rw [if_pos (.inl h)]
theorem tryR_unfit {A B M : RC} {kind sign first rest : Int} {SB : PBox} (h : fitsF kind A.box B.box SB = false) : tryR A B M kind sign first rest SB = M := by unfold tryR; rw [if_pos (.inr h)]
theorem tryR_new {A B M : RC} {kind sign first rest : Int} {SB : PBox} (h : waysR A B rest ≠ 0) (hf : fitsF kind A.box B.box SB = true) (hn : M.ways = 0 ∨ A.cost + B.cost + ownF kind A.box B.box SB < M.cost) :
 tryR A B M kind sign first rest SB = ⟨M.box, M.ways + waysR A B rest, A.cost + B.cost + ownF kind A.box B.box SB, kind, sign, first, rest⟩ := by
 unfold tryR; rw [if_neg (by simp [h, hf]), if_pos hn]
theorem tryR_old {A B M : RC} {kind sign first rest : Int} {SB : PBox} (h : waysR A B rest ≠ 0) (hf : fitsF kind A.box B.box SB = true) (hn : ¬ (M.ways = 0 ∨ A.cost + B.cost + ownF kind A.box B.box SB < M.cost)) :
 tryR A B M kind sign first rest SB = { M with ways := M.ways + waysR A B rest } := by
 unfold tryR; rw [if_neg (by simp [h, hf]), if_neg hn]
structure TryIn (A B M : RC) (rest : Int) : Prop where
 a : boxIn A.box
 b : boxIn B.box
 aw : 0 ≤ A.ways ∧ A.ways ≤ 10000000000000000
 pw : 0 ≤ waysR A B rest ∧ waysR A B rest ≤ 10000000000000000
 mw : 0 ≤ M.ways ∧ M.ways ≤ 10000000000000000
 co : waysR A B rest ≠ 0 → (0 ≤ A.cost ∧ A.cost ≤ 1000000) ∧ 0 ≤ B.cost ∧ B.cost ≤ 1000000
set_option maxRecDepth 100000 in
set_option maxHeartbeats 4000000 in
theorem spec_tryP_c {e : TypeId} {o : Bool} {xs : List PSymbol} {vl : Value} {Fl : List Nat} {gp gc N : Nat} {K : Nat → RC} (s fi re : Nat) (kind : Int) (hk : kind = 1 ∨ kind = 3 ∨ kind = 4)(sg : Int) (hre : re ≠ 0) (w : World) (h : Cht e o xs vl Fl gp gc N K w) (_hN : N ≤ 256) (hs : s < N) (hf : fi < N) (hr : re < N) (hfs : fi ≠ s) (hrs : re ≠ s) (hin : TryIn (K fi) (K re) (K s) (re : Int)) (SB : PBox) (hSB : boxIn SB) (hz : SB = ⟨0, 0, 0, 0⟩) :
 Calls Try.prog 86 #[.pointer (some ⟨gp, 0, none⟩), .int .i64 (s : Int), .int .i64 kind, .int .i64 sg, .int .i64 (fi : Int), .int .i64 (re : Int)] w fun en w' => en = .returned (.tuple #[]) ∧ Only [gc] w w' ∧ Cht e o xs vl Fl gp gc N (updF K s (tryR (K fi) (K re) (K s) kind sg (fi : Int) (re : Int) SB)) w' := by
 obtain ⟨A, hA⟩ : ∃ A, K fi = A := ⟨_, rfl⟩
 obtain ⟨B, hB⟩ : ∃ B, K re = B := ⟨_, rfl⟩
 obtain ⟨M, hM⟩ : ∃ M, K s = M := ⟨_, rfl⟩
 rw [hA, hB, hM] at hin ⊢
 obtain ⟨a0, a1, a2, a3, a4, a5, a6, a7, a8, a9⟩ := h.cell hf
 obtain ⟨b0, b1, b2, b3, b4, b5, b6, b7, b8, b9⟩ := h.cell hr
 rw [hA] at a0 a1 a2 a3 a4 a5 a6 a7 a8 a9
 rw [hB] at b0 b1 b2 b3 b4 b5 b6 b7 b8 b9
 have HM := Lib.hid hM
 have HIN := Lib.hid hin
 have HSB := Lib.hid hSB
 have p1 := h.row.c1
 have hgp := h.row.lt
 have hgc := h.cells.lt
 have hFl : ∀ b ∈ Fl, b < w.heap.size := fun b hb => (pSymbols e).lt h.syms b hb
 have i1 : (0 : Int) ≤ (fi : Int) := by omega
 have i2 : (fi : Int) < (N : Int) := by omega
 have i3 : (0 : Int) ≤ (re : Int) := by omega
 have i4 : (re : Int) < (N : Int) := by omega
 have i5 : (0 : Int) ≤ (s : Int) := by omega
 have i6 : (s : Int) < (N : Int) := by omega
 have hb : ((re : Int) != 0) = true := by simp [hre]
 have hw0 := hin.aw
 have hw1 := hin.pw
 have hww : waysR A B (re : Int) = A.ways * B.ways := by unfold waysR; rw [if_neg (by omega)]
 rw [hww] at hw1
 have ew := IntWalk.i64_in (A.ways * B.ways) (by omega)
 have HC := Lib.hid h
 have CL : Hid (∀ w : World, Calls Try.prog 40 #[.int .i64 kind] w fun e w' => e = .returned (.string ⟨#[]⟩) ∧ w' = w) := Lib.hid (by intro w; have := spec_l21Label_c kind w; rcases hk with rfl | rfl | rfl <;> exact this)
 have CF := Lib.hid (fun w => spec_l21Fits_c kind A.box B.box SB w (by omega) HIN.out.a HIN.out.b HSB.out)
 have CO := Lib.hid (fun w => spec_l21Own_c kind A.box B.box SB w HIN.out.a HIN.out.b HSB.out)
 have own := ownF_small (k := kind) HIN.out.a HIN.out.b HSB.out
 have hco := hin.co
 rw [hww] at hco
 have hmw := hin.mw
 have HT0 := Lib.hid (fun (h : A.ways * B.ways = 0) => tryR_none (A := A) (B := B) (M := M) (kind := kind) (sign := sg) (first := (fi : Int)) (rest := (re : Int)) (SB := SB) (hww.trans h))
 have HT1 := Lib.hid (fun h => tryR_unfit (A := A) (B := B) (M := M) (kind := kind) (sign := sg) (first := (fi : Int)) (rest := (re : Int)) (SB := SB) h)
 have HT2 := Lib.hid (fun (h : A.ways * B.ways ≠ 0) h2 h3 => tryR_new (A := A) (B := B) (M := M) (kind := kind) (sign := sg) (first := (fi : Int)) (rest := (re : Int)) (SB := SB) (fun h' => h (hww.symm.trans h')) h2 h3)
 have HT3 := Lib.hid (fun (h : A.ways * B.ways ≠ 0) h2 h3 => tryR_old (A := A) (B := B) (M := M) (kind := kind) (sign := sg) (first := (fi : Int)) (rest := (re : Int)) (SB := SB) (fun h' => h (hww.symm.trans h')) h2 h3)
 rw [hww] at HT2 HT3
 generalize tryR A B M kind sg (fi : Int) (re : Int) SB = T at HT0 HT1 HT2 HT3 ⊢
 generalize hfit : fitsF kind A.box B.box SB = fit at CF HT1 HT2 HT3
 generalize ownF kind A.box B.box SB = ow at CO HT2 HT3 own
 obtain ⟨s1, s2, s3, s4⟩ := SB
 (injection hz with z1 z2 z3 z4; subst z1; subst z2; subst z3; subst z4)
 have HRE := Lib.hid hre
 clear hre
 clear h hM hin hA hB hSB hfit hww HIN HSB
 go_enter Try.func86, Try.ntmps86
 go_wp2_with fail
 refine (CL.out _).mono ?_
 rintro en w1 ⟨rfl, rfl⟩
 have RA := ((Row.new w 72 #[.int .i64 A.box.x1, .int .i64 A.box.y1, .int .i64 A.box.x2, .int .i64 A.box.y2, .int .i64 A.ways, .int .i64 A.cost, .int .i64 A.kind, .int .i64 A.sign, .int .i64 A.first, .int .i64 A.rest]).alloc (.cells #[.int .i64 B.box.x1, .int .i64 B.box.y1, .int .i64 B.box.x2, .int .i64 B.box.y2, .int .i64 B.ways, .int .i64 B.cost, .int .i64 B.kind, .int .i64 B.sign, .int .i64 B.first, .int .i64 B.rest] 72)).alloc (.cells #[.int .i64 0, .int .i64 0, .int .i64 0, .int .i64 0] 48)
 have RB := (Row.new (w.alloc (.cells #[.int .i64 A.box.x1, .int .i64 A.box.y1, .int .i64 A.box.x2, .int .i64 A.box.y2, .int .i64 A.ways, .int .i64 A.cost, .int .i64 A.kind, .int .i64 A.sign, .int .i64 A.first, .int .i64 A.rest] 72)) 72 #[.int .i64 B.box.x1, .int .i64 B.box.y1, .int .i64 B.box.x2, .int .i64 B.box.y2, .int .i64 B.ways, .int .i64 B.cost, .int .i64 B.kind, .int .i64 B.sign, .int .i64 B.first, .int .i64 B.rest]).alloc (.cells #[.int .i64 0, .int .i64 0, .int .i64 0, .int .i64 0] 48)
 have RS := Row.new ((w.alloc (.cells #[.int .i64 A.box.x1, .int .i64 A.box.y1, .int .i64 A.box.x2, .int .i64 A.box.y2, .int .i64 A.ways, .int .i64 A.cost, .int .i64 A.kind, .int .i64 A.sign, .int .i64 A.first, .int .i64 A.rest] 72)).alloc (.cells #[.int .i64 B.box.x1, .int .i64 B.box.y1, .int .i64 B.box.x2, .int .i64 B.box.y2, .int .i64 B.ways, .int .i64 B.cost, .int .i64 B.kind, .int .i64 B.sign, .int .i64 B.first, .int .i64 B.rest] 72)) 48 #[.int .i64 0, .int .i64 0, .int .i64 0, .int .i64 0]
 have on : Only [gc] w (((w.alloc (.cells #[.int .i64 A.box.x1, .int .i64 A.box.y1, .int .i64 A.box.x2, .int .i64 A.box.y2, .int .i64 A.ways, .int .i64 A.cost, .int .i64 A.kind, .int .i64 A.sign, .int .i64 A.first, .int .i64 A.rest] 72)).alloc (.cells #[.int .i64 B.box.x1, .int .i64 B.box.y1, .int .i64 B.box.x2, .int .i64 B.box.y2, .int .i64 B.ways, .int .i64 B.cost, .int .i64 B.kind, .int .i64 B.sign, .int .i64 B.first, .int .i64 B.rest] 72)).alloc (.cells #[.int .i64 0, .int .i64 0, .int .i64 0, .int .i64 0] 48)) := Only.of_below ((((Below.refl _ _).alloc (Nat.le_refl _) _).alloc (by simp) _).alloc (by simp; omega) _)
 have h1 := ((HC.out.alloc (.cells #[.int .i64 A.box.x1, .int .i64 A.box.y1, .int .i64 A.box.x2, .int .i64 A.box.y2, .int .i64 A.ways, .int .i64 A.cost, .int .i64 A.kind, .int .i64 A.sign, .int .i64 A.first, .int .i64 A.rest] 72)).alloc (.cells #[.int .i64 B.box.x1, .int .i64 B.box.y1, .int .i64 B.box.x2, .int .i64 B.box.y2, .int .i64 B.ways, .int .i64 B.cost, .int .i64 B.kind, .int .i64 B.sign, .int .i64 B.first, .int .i64 B.rest] 72)).alloc (.cells #[.int .i64 0, .int .i64 0, .int .i64 0, .int .i64 0] 48)
 simp only [World.size_alloc] at RB RS
 generalize ((w.alloc (.cells #[.int .i64 A.box.x1, .int .i64 A.box.y1, .int .i64 A.box.x2, .int .i64 A.box.y2, .int .i64 A.ways, .int .i64 A.cost, .int .i64 A.kind, .int .i64 A.sign, .int .i64 A.first, .int .i64 A.rest] 72)).alloc (.cells #[.int .i64 B.box.x1, .int .i64 B.box.y1, .int .i64 B.box.x2, .int .i64 B.box.y2, .int .i64 B.ways, .int .i64 B.cost, .int .i64 B.kind, .int .i64 B.sign, .int .i64 B.first, .int .i64 B.rest] 72)).alloc (.cells #[.int .i64 0, .int .i64 0, .int .i64 0, .int .i64 0] 48) = w2 at RA RB RS on h1 ⊢
 clear HC a0 a1 a2 a3 a4 a5 a6 a7 a8 a9 b0 b1 b2 b3 b4 b5 b6 b7 b8 b9 p1
 skip
 by_cases hz : A.ways * B.ways = 0
 · have HZ := Lib.hid (HT0.out hz)
   have y0 : (A.ways * B.ways == 0) = true := by simpa using hz
   go_wp2_with fail
   refine bodyPost_ret (v := .tuple #[]) (by simp [results, Try.results86, go_sem]) rfl ⟨rfl, on, ?_⟩
   rw [HZ.out, ← HM.out, updF_id]
   exact h1
 have y0 : (A.ways * B.ways == 0) = false := by simpa using hz
 have hco' := hco hz
 have f0 := RA.c0
 have f1 := RA.c1
 have f2 := RA.c2
 have f3 := RA.c3
 have f5 := RA.c5
 have g0 := RB.c0
 have g1 := RB.c1
 have g2 := RB.c2
 have g3 := RB.c3
 have g5 := RB.c5
 have k0 := RS.c0
 have k1 := RS.c1
 have k2 := RS.c2
 have k3 := RS.c3
 go_wp2_with fail
 refine (CF.out _).mono ?_
 rintro en w3 ⟨rfl, b3⟩
 replace RA := RA.later b3
 replace RB := RB.later b3
 replace RS := RS.later b3
 replace h1 := h1.below b3
 replace on := on.trans (Only.of_below b3)
 clear f0 f1 f2 f3 f5 g0 g1 g2 g3 g5 k0 k1 k2 k3 b3
 cases fit with
 | false =>
   have HZ := Lib.hid (HT1.out rfl)
   go_wp2_with fail
   refine bodyPost_ret (v := .tuple #[]) (by simp [results, Try.results86, go_sem]) rfl ⟨rfl, on, ?_⟩
   rw [HZ.out, ← HM.out, updF_id]
   exact h1
 | true =>
   have p1 := h1.row.c1
   go_upto_region 10 with fail
   clear p1
   replace RA := RA.drew
   replace RB := RB.drew
   replace RS := RS.drew
   replace h1 := h1.drew
   replace on := on.trans (Only.of_below (Below.refl w3.heap.size w3).drew)
   have ec := IntWalk.i64_in (A.cost + B.cost) (by omega)
   have ec2 := IntWalk.i64_in (A.cost + B.cost + ow) (by omega)
   have hS : (fun w' : World => w'.cell? ⟨w.heap.size, 0, none⟩ = some (.int .i64 A.box.x1) ∧ w'.cell? ⟨w.heap.size, 1, none⟩ = some (.int .i64 A.box.y1) ∧ w'.cell? ⟨w.heap.size, 2, none⟩ = some (.int .i64 A.box.x2) ∧ w'.cell? ⟨w.heap.size, 3, none⟩ = some (.int .i64 A.box.y2) ∧ w'.cell? ⟨w.heap.size, 5, none⟩ = some (.int .i64 A.cost) ∧ w'.cell? ⟨w.heap.size + 1, 0, none⟩ = some (.int .i64 B.box.x1) ∧ w'.cell? ⟨w.heap.size + 1, 1, none⟩ = some (.int .i64 B.box.y1) ∧ w'.cell? ⟨w.heap.size + 1, 2, none⟩ = some (.int .i64 B.box.x2) ∧ w'.cell? ⟨w.heap.size + 1, 3, none⟩ = some (.int .i64 B.box.y2) ∧ w'.cell? ⟨w.heap.size + 1, 5, none⟩ = some (.int .i64 B.cost) ∧ w'.cell? ⟨w.heap.size + 1 + 1, 0, none⟩ = some (.int .i64 0) ∧ w'.cell? ⟨w.heap.size + 1 + 1, 1, none⟩ = some (.int .i64 0) ∧ w'.cell? ⟨w.heap.size + 1 + 1, 2, none⟩ = some (.int .i64 0) ∧ w'.cell? ⟨w.heap.size + 1 + 1, 3, none⟩ = some (.int .i64 0)) w3.drew := ⟨RA.c0, RA.c1, RA.c2, RA.c3, RA.c5, RB.c0, RB.c1, RB.c2, RB.c3, RB.c5, RS.c0, RS.c1, RS.c2, RS.c3⟩
   dsimp only at hS
   refine wp_region_held_drew (S := (fun w' : World => w'.cell? ⟨w.heap.size, 0, none⟩ = some (.int .i64 A.box.x1) ∧ w'.cell? ⟨w.heap.size, 1, none⟩ = some (.int .i64 A.box.y1) ∧ w'.cell? ⟨w.heap.size, 2, none⟩ = some (.int .i64 A.box.x2) ∧ w'.cell? ⟨w.heap.size, 3, none⟩ = some (.int .i64 A.box.y2) ∧ w'.cell? ⟨w.heap.size, 5, none⟩ = some (.int .i64 A.cost) ∧ w'.cell? ⟨w.heap.size + 1, 0, none⟩ = some (.int .i64 B.box.x1) ∧ w'.cell? ⟨w.heap.size + 1, 1, none⟩ = some (.int .i64 B.box.y1) ∧ w'.cell? ⟨w.heap.size + 1, 2, none⟩ = some (.int .i64 B.box.x2) ∧ w'.cell? ⟨w.heap.size + 1, 3, none⟩ = some (.int .i64 B.box.y2) ∧ w'.cell? ⟨w.heap.size + 1, 5, none⟩ = some (.int .i64 B.cost) ∧ w'.cell? ⟨w.heap.size + 1 + 1, 0, none⟩ = some (.int .i64 0) ∧ w'.cell? ⟨w.heap.size + 1 + 1, 1, none⟩ = some (.int .i64 0) ∧ w'.cell? ⟨w.heap.size + 1 + 1, 2, none⟩ = some (.int .i64 0) ∧ w'.cell? ⟨w.heap.size + 1 + 1, 3, none⟩ = some (.int .i64 0))) (by kernel_rfl) hS (fun _ => ?_)
   refine tJ 0 hS ?_
   refine tJ 1 hS ?_
   refine tJ 2 hS ?_
   refine tJ 3 hS ?_
   refine tJ 4 hS ?_
   refine tJ 5 hS ?_
   refine tJ 6 hS ?_
   refine tJ 7 hS ?_
   refine tJ 8 hS ?_
   refine tJ 9 hS ?_
   refine tJ 10 hS ?_
   refine rJ 11 fun K hK => ?_
   refine step_call 98 #[.tmp 75, .tmp 76, .tmp 78, .tmp 80] _ rfl rfl #[.int .i64 kind, .agg #[.int .i64 0, .int .i64 0, .int .i64 0, .int .i64 0], .agg #[.int .i64 A.box.x1, .int .i64 A.box.y1, .int .i64 A.box.x2, .int .i64 A.box.y2], .agg #[.int .i64 B.box.x1, .int .i64 B.box.y1, .int .i64 B.box.x2, .int .i64 B.box.y2]] Try.call98 (by go_simp) (CO.out _) ?_
   rintro en w4 ⟨rfl, b4⟩
   refine ⟨_, rfl, ?_⟩
   replace RA := RA.later b4
   replace RB := RB.later b4
   replace RS := RS.later b4
   replace h1 := h1.below b4
   replace on := on.trans (Only.of_below b4)
   replace hS : (fun w' : World => w'.cell? ⟨w.heap.size, 0, none⟩ = some (.int .i64 A.box.x1) ∧ w'.cell? ⟨w.heap.size, 1, none⟩ = some (.int .i64 A.box.y1) ∧ w'.cell? ⟨w.heap.size, 2, none⟩ = some (.int .i64 A.box.x2) ∧ w'.cell? ⟨w.heap.size, 3, none⟩ = some (.int .i64 A.box.y2) ∧ w'.cell? ⟨w.heap.size, 5, none⟩ = some (.int .i64 A.cost) ∧ w'.cell? ⟨w.heap.size + 1, 0, none⟩ = some (.int .i64 B.box.x1) ∧ w'.cell? ⟨w.heap.size + 1, 1, none⟩ = some (.int .i64 B.box.y1) ∧ w'.cell? ⟨w.heap.size + 1, 2, none⟩ = some (.int .i64 B.box.x2) ∧ w'.cell? ⟨w.heap.size + 1, 3, none⟩ = some (.int .i64 B.box.y2) ∧ w'.cell? ⟨w.heap.size + 1, 5, none⟩ = some (.int .i64 B.cost) ∧ w'.cell? ⟨w.heap.size + 1 + 1, 0, none⟩ = some (.int .i64 0) ∧ w'.cell? ⟨w.heap.size + 1 + 1, 1, none⟩ = some (.int .i64 0) ∧ w'.cell? ⟨w.heap.size + 1 + 1, 2, none⟩ = some (.int .i64 0) ∧ w'.cell? ⟨w.heap.size + 1 + 1, 3, none⟩ = some (.int .i64 0)) w4 := ⟨RA.c0, RA.c1, RA.c2, RA.c3, RA.c5, RB.c0, RB.c1, RB.c2, RB.c3, RB.c5, RS.c0, RS.c1, RS.c2, RS.c3⟩
   dsimp only at hS
   refine bJ hK hS ?_
   clear hK K
   simp only [Act.put, pA, pB, pC]
   refine tJ 12 hS ?_
   refine tJ 13 hS ?_
   refine wpAnyH_done (by kernel_rfl) ?_ _
   clear hS b4
   have p1 := h1.row.c1
   obtain ⟨m0, m1, m2, m3, m4, m5, m6, m7, m8, m9⟩ := h1.cell hs
   rw [HM.out] at m0 m1 m2 m3 m4 m5 m6 m7 m8 m9
   have mF := h1.cells.frozen
   have eW := IntWalk.i64_in (M.ways + A.ways * B.ways) (by omega)
   clear RA RB RS CF CO CL HT0 HT1 own hco hFl
   by_cases hn : M.ways = 0 ∨ A.cost + B.cost + ow < M.cost
   · have HZ := Lib.hid (HT2.out hz (by simp) hn)
     clear HT2 HT3
     have q1 := h1.put hs (j := 5) (by decide) (.int .i64 (A.cost + B.cost + ow)) (a := { M with cost := A.cost + B.cost + ow }) (by rw [HM.out]; rfl)
     have q2 := q1.put hs (j := 6) (by decide) (.int .i64 kind) (a := { M with cost := A.cost + B.cost + ow, kind := kind }) (by rw [updF_same]; rfl)
     rw [updF_upd] at q2
     have q3 := q2.put hs (j := 7) (by decide) (.int .i64 sg) (a := { M with cost := A.cost + B.cost + ow, kind := kind, sign := sg }) (by rw [updF_same]; rfl)
     rw [updF_upd] at q3
     have q4 := q3.put hs (j := 8) (by decide) (.int .i64 (fi : Int)) (a := { M with cost := A.cost + B.cost + ow, kind := kind, sign := sg, first := (fi : Int) }) (by rw [updF_same]; rfl)
     rw [updF_upd] at q4
     have q5 := q4.put hs (j := 9) (by decide) (.int .i64 (re : Int)) (a := { M with cost := A.cost + B.cost + ow, kind := kind, sign := sg, first := (fi : Int), rest := (re : Int) }) (by rw [updF_same]; rfl)
     rw [updF_upd] at q5
     have q6 := q5.put hs (j := 4) (by decide) (.int .i64 (M.ways + A.ways * B.ways)) (a := { M with cost := A.cost + B.cost + ow, kind := kind, sign := sg, first := (fi : Int), rest := (re : Int), ways := M.ways + A.ways * B.ways }) (by rw [updF_same]; rfl)
     rw [updF_upd] at q6
     have HQ := Lib.hid q6
     have HON := Lib.hid ((((((on.set (p := ⟨gc, s * 10 + 5, none⟩) (by simp) (.int .i64 (A.cost + B.cost + ow))).set (p := ⟨gc, s * 10 + 6, none⟩) (by simp) (.int .i64 kind)).set (p := ⟨gc, s * 10 + 7, none⟩) (by simp) (.int .i64 sg)).set (p := ⟨gc, s * 10 + 8, none⟩) (by simp) (.int .i64 (fi : Int))).set (p := ⟨gc, s * 10 + 9, none⟩) (by simp) (.int .i64 (re : Int))).set (p := ⟨gc, s * 10 + 4, none⟩) (by simp) (.int .i64 (M.ways + A.ways * B.ways)))
     clear q1 q2 q3 q4 q5 q6 h1 on
     rcases Classical.em (M.ways = 0) with hm | hm
     · have y1 : (M.ways == 0) = true := by simpa using hm
       clear hn hm
       go_wp2_with fail
       refine bodyPost_end (v := .tuple #[]) (by simp [results, Try.results86, go_sem]) rfl ⟨rfl, ?_, ?_⟩
       · exact HON.out
       · rw [HZ.out]; exact HQ.out
     · have y1 : (M.ways == 0) = false := by simpa using hm
       have y2 : A.cost + B.cost + ow < M.cost := by rcases hn with h | h; exact absurd h hm; exact h
       clear hn hm
       go_wp2_with fail
       refine bodyPost_end (v := .tuple #[]) (by simp [results, Try.results86, go_sem]) rfl ⟨rfl, ?_, ?_⟩
       · exact HON.out
       · rw [HZ.out]; exact HQ.out
   · have HZ := Lib.hid (HT3.out hz (by simp) hn)
     clear HT2 HT3
     have q1 := h1.put hs (j := 4) (by decide) (.int .i64 (M.ways + A.ways * B.ways)) (a := { M with ways := M.ways + A.ways * B.ways }) (by rw [HM.out]; rfl)
     have HQ := Lib.hid q1
     have HON := Lib.hid (on.set (p := ⟨gc, s * 10 + 4, none⟩) (by simp) (.int .i64 (M.ways + A.ways * B.ways)))
     have y1 : (M.ways == 0) = false := by simp only [beq_eq_false_iff_ne]; exact fun h => hn (.inl h)
     have y2 : ¬ A.cost + B.cost + ow < M.cost := fun h => hn (.inr h)
     clear hn q1 h1 on
     go_wp2_with fail
     refine bodyPost_end (v := .tuple #[]) (by simp [results, Try.results86, go_sem]) rfl ⟨rfl, ?_, ?_⟩
     · exact HON.out
     · rw [HZ.out]; exact HQ.out
end Go.Proofs.Ytmopioaojdlnkaa
