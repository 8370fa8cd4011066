/- Bytes in a block of one's own, whatever they are, with a frozen mark behind them or none. No program is named here. Conditions: none. -/
import Derived.Test.YtelkggafmnckoaaSrc2
import Derived.Deep.RegionLaw
import Derived.Laws.IdiomStrings
namespace Go.Proofs.Ytelkggafmnckoaa
open Go Go.RowKit

/-- Block g holds cap bytes, none frozen. -/
def BRow (w : World) (g cap : Nat) : Prop := ∃ (cur : Array Value) (e : TypeId) (lo hi : Nat), w.heap[g]? = some (.cells cur e (lo, hi)) ∧ cur.size = cap ∧ (hi = 0 ∨ cap ≤ lo) ∧ ∀ v ∈ cur.toList, ∃ x : UInt8, v = .int .u8 (x.toNat : Int)
section
variable {w w' : World} {g cap : Nat}
theorem BRow.lt (h : BRow w g cap) : g < w.heap.size := by
  obtain ⟨cur, e, lo, hi, h1, _⟩ := h
  exact (Array.getElem?_eq_some_iff.1 h1).1
theorem BRow.kept (h : BRow w g cap) (hk : w'.heap[g]? = w.heap[g]?) : BRow w' g cap := by
  obtain ⟨cur, e, lo, hi, h1, h2⟩ := h
  exact ⟨cur, e, lo, hi, hk.trans h1, h2⟩
theorem BRow.below (h : BRow w g cap) (hb : Below w.heap.size w w') : BRow w' g cap := h.kept (hb.block g h.lt)
theorem BRow.alloc (h : BRow w g cap) (x : Obj) : BRow (w.alloc x) g cap := h.below ((Below.refl _ _).alloc (Nat.le_refl _) _)
theorem BRow.only {F : List Nat} (h : BRow w g cap) (ho : Only F w w') (hg : g ∉ F) : BRow w' g cap := h.kept (ho.block g h.lt hg)
theorem BRow.drewN (h : BRow w g cap) (n : Nat) : BRow (w.drewN n) g cap := h
theorem BRow.cell (h : BRow w g cap) {j : Nat} (hj : j < cap) : ∃ x : UInt8, w.cell? ⟨g, j, none⟩ = some (.int .u8 (x.toNat : Int)) := by
  obtain ⟨cur, e, lo, hi, h1, h2, h3, h4⟩ := h
  obtain ⟨x, hx⟩ := h4 (cur[j]'(by omega)) (by simp)
  refine ⟨x, ?_⟩
  simp [World.cell?, h1]
  rw [Array.getElem?_eq_getElem (by omega), hx]
theorem BRow.frozen (h : BRow w g cap) {j : Nat} (hj : j < cap) : w.frozen? ⟨g, j, none⟩ = false := by
  obtain ⟨cur, e, lo, hi, h1, h2, h3, h4⟩ := h
  simp only [World.frozen?, h1, Bool.and_eq_false_iff, decide_eq_false_iff_not]
  omega
theorem BRow.set (h : BRow w g cap) (i : Nat) (x : UInt8) : BRow (w.setCell ⟨g, i, none⟩ (.int .u8 (x.toNat : Int))) g cap := by
  obtain ⟨cur, e, lo, hi, h1, h2, h3, h4⟩ := h
  refine ⟨cur.setIfInBounds i (.int .u8 (x.toNat : Int)), e, lo, hi, by simp [World.setCell, Array.getElem?_modify, h1], by simpa using h2, h3, fun v hv => ?_⟩
  rw [Array.toList_setIfInBounds] at hv
  rcases List.mem_or_eq_of_mem_set hv with h | h
  · exact h4 v h
  · exact ⟨x, h⟩
theorem BRow.sets : ∀ (vs : List Value) (o : Nat) {w : World}, BRow w g cap → (∀ v ∈ vs, ∃ x : UInt8, v = .int .u8 (x.toNat : Int)) → BRow (w.setCells g o vs) g cap
  | [], _, _, h, _ => h
  | v :: r, o, w, h, hv => by
    obtain ⟨x, rfl⟩ := hv v (by simp)
    exact BRow.sets r (o + 1) (h.set o x) (fun u hu => hv u (by simp [hu]))
theorem only_sets {F : List Nat} : ∀ (vs : List Value) (o : Nat) {a b : World}, Only F a b → g ∈ F → Only F a (b.setCells g o vs)
  | [], _, _, _, h, _ => h
  | v :: r, o, a, b, h, hg => only_sets r (o + 1) (h.set (p := ⟨g, o, none⟩) hg v) hg
/-- A list of the first n bytes. -/
theorem BRow.list (h : BRow w g cap) : ∀ n, n ≤ cap → ∃ l : List UInt8, l.length = n ∧ ∀ j (hj : j < l.length), w.cell? ⟨g, j, none⟩ = some (.int .u8 (l[j].toNat : Int))
  | 0, _ => ⟨[], rfl, fun j hj => by simp at hj⟩
  | n + 1, hn => by
    obtain ⟨l, hl, hc⟩ := BRow.list h n (by omega)
    obtain ⟨x, hx⟩ := h.cell (j := n) (by omega)
    refine ⟨l ++ [x], by simp [hl], fun j hj => ?_⟩
    by_cases e : j < l.length
    · rw [List.getElem_append_left e]; exact hc j e
    · obtain rfl : j = n := by simp at hj; omega
      rw [hx]
      congr
      rw [List.getElem_append_right (by omega)]
      simp
end
/-- Only new blocks differ besides. -/
theorem only_new {F G : List Nat} {a b c : World} (h : Only F a b) (ho : Only G b c) (hG : ∀ x ∈ G, x ∈ F ∨ a.heap.size ≤ x) : Only F a c :=
  ⟨ho.os.trans h.os, ho.tape.trans h.tape, ho.output.trans h.output, Nat.le_trans h.size ho.size, fun k hk hn => (ho.block k (Nat.lt_of_lt_of_le hk h.size) (fun hin => by rcases hG k hin with h1 | h1 <;> first | exact hn h1 | omega)).trans (h.block k hk hn)⟩
theorem addr_add (g o j : Nat) : (⟨g, o, none⟩ : Addr).add j = ⟨g, o + j, none⟩ := by unfold Addr.add; split <;> simp_all
section
variable {P : Program} {t e : TypeId}
/-- '[]byte(s)'. -/
theorem brow_of_string {src dst : TypeId} (s : ByteArray) (w : World) (hs : P.underlying src = some .string) (hd : P.underlying dst = some (.slice e)) (he : P.underlying e = some (.int .u8)) (hm : s.size ≤ maxLen) :
    ∃ cap w1, (convert src dst (.string s)).run P w = .ok (.slice (some ⟨w.heap.size, 0, none⟩) s.size cap) w1 ∧ BRow w1 w.heap.size cap ∧ Below w.heap.size w w1 ∧ s.size ≤ cap ∧ cap ≤ maxLen := by
  have hge := grownCap_ge w s.size 0 e
  refine ⟨_, _, run_bytes_of_string w src dst e s hs hd he, ⟨_, e, _, _, heap_alloc_new w.drew _, ?_, .inr (Nat.le_of_eq ?_), fun v hv => ?_⟩, (Below.refl _ _).drew.alloc (Nat.le_refl _) _, hge, grownCap_le_maxLen _ _ _ _ hm⟩
  · simp only [bytesRow, Array.size_append, Array.size_map, Array.size_replicate]
    have : s.data.size = s.size := rfl
    omega
  · simp only [bytesRow, Array.size_append, Array.size_map, Array.size_replicate]
    have : s.data.size = s.size := rfl
    omega
  · simp only [bytesRow, Array.toList_append, Array.toList_map, Array.toList_replicate] at hv
    rcases List.mem_append.1 hv with h | h
    · obtain ⟨x, _, rfl⟩ := List.mem_map.1 h
      exact ⟨x, rfl⟩
    · exact ⟨0, List.eq_of_mem_replicate h⟩
/-- 'string(b)'. -/
theorem brow_string {src dst : TypeId} {w : World} {g n cap c : Nat} (h : BRow w g cap) (hn : n ≤ cap) (hs : P.underlying src = some (.slice e)) (he : P.underlying e = some (.int .u8)) (hd : P.underlying dst = some .string) :
    ∃ s : ByteArray, s.size = n ∧ ∀ m, (convert src dst (.slice (some ⟨g, 0, none⟩) n c)).run P (w.drewN m) = .ok (.string s) (w.drewN m) := by
  obtain ⟨l, rfl, hc⟩ := h.list n hn
  refine ⟨⟨l.toArray⟩, by simp [ByteArray.size], fun m => run_convert_bytes_back _ src dst e _ _ l hs he hd (fun j hj => ?_)⟩
  rw [addr_add, Nat.zero_add]
  exact hc j hj
/-- append of bytes. -/
theorem run_append_brow (ty : TypeId) (ht : P.underlying t = some (.slice e)) (hi : (P.info? e).map (fun i => (i.zero, i.size, i.bytes)) = some (some (.int .u8 0), 1, 1)) {w : World} {g n cap m c : Nat} {a : Addr} (h : BRow w g cap) (hn : n ≤ cap) (hcm : cap ≤ maxLen)
    (news : List Value) (hl : news.length = m) (hb : ∀ v ∈ news, ∃ x : UInt8, v = .int .u8 (x.toNat : Int)) (hnews : ∀ j u, news[j]? = some u → w.cell? (a.add j) = some u) (h63 : n + m ≤ 1000000) :
    ∃ g' cap' w', (Builtin.append_ #[t, t] ty #[.slice (some ⟨g, 0, none⟩) n cap, .slice (some a) m c]).run P w = .ok (.slice (some ⟨g', 0, none⟩) (n + m) cap') w' ∧ BRow w' g' cap' ∧ (g' = g ∨ w.heap.size ≤ g') ∧ Only [g] w w' ∧ n + m ≤ cap' ∧ cap' ≤ maxLen := by
  obtain ⟨i, hi1, hz, hs1, hs2⟩ := info_parts hi
  by_cases hr : n + m ≤ cap
  · have hrun := run_append_room_cells (P := P) w t ty e i ht hi1 g 0 n cap a m c news (by rw [hs1, Nat.mul_one]; exact hl) hnews (fun u hu => by obtain ⟨x, rfl⟩ := hb u hu; rfl) hr (fun j hj => by rw [hs1, Nat.mul_one, Nat.zero_add]; obtain ⟨x, hx⟩ := h.cell (j := n + j) (by omega); rw [hx]; rfl) (fun j hj => by rw [hs1, Nat.mul_one, Nat.zero_add]; exact h.frozen (by omega))
    exact ⟨g, cap, _, hrun, h.sets _ _ hb, .inl rfl, only_sets _ _ (Only.refl _ _) (by simp), hr, hcm⟩
  · obtain ⟨l, hll, hc⟩ := h.list n hn
    have hmx : n + m ≤ maxLen := by unfold maxLen; omega
    have hrun := run_append_grow (P := P) w t ty e i (.int .u8 0) ht hi1 hz ⟨g, 0, none⟩ n cap (l.map fun b => .int .u8 (b.toNat : Int)) (by simp [hll, hs1]) (fun j v hv => by
      rw [addr_add, Nat.zero_add]
      rw [List.getElem?_map] at hv
      cases hj : l[j]? with
      | none => rw [hj] at hv; cases hv
      | some b =>
        obtain ⟨hlt, rfl⟩ := List.getElem?_eq_some_iff.1 hj
        rw [hj] at hv
        rw [← Option.some.inj hv]
        exact hc j hlt) a m c news (by simp [hs1, hl]) hnews (by omega) (by omega) (by rw [hs2]; exact growslice_fits (by omega) (by omega))
    refine ⟨w.heap.size, _, _, hrun, ⟨_, e, 0, 0, heap_alloc_new w.drew _, ?_, .inl rfl, fun v hv => ?_⟩, .inr (Nat.le_refl _), Only.of_below ((Below.refl _ _).drew.alloc (Nat.le_refl _) _), grownCap_ge _ _ _ _, grownCap_le_maxLen _ _ _ _ hmx⟩
    · have := grownCap_ge w (n + m) cap e
      have hz1 : (Value.int IntKind.u8 0).cells.size = 1 := rfl
      simp only [Array.size_append, List.size_toArray, size_zeroCells, hz1, List.length_map, hll, hl]
      omega
    · simp only [Array.toList_append] at hv
      rcases List.mem_append.1 hv with hv | hv
      · rcases List.mem_append.1 hv with hv | hv
        · obtain ⟨x, _, rfl⟩ := List.mem_map.1 hv
          exact ⟨x, rfl⟩
        · exact hb v hv
      · refine ⟨0, ?_⟩
        simp [Builtin.zeroCells, Value.cells, Nat.mod_one] at hv
        first | exact hv.2.symm | exact hv.2
theorem wpList_append_brow {ops : Array Oper} {rest : List Oper} {o : Oper} {ac : Act} {Q : Exit → Act → World → Prop} (hgd : o.guard = none) (s x : Operand)
    (ho : o.op = .call { callee := .builtin .append, args := #[s, x], argTypes := #[t, t] })
    (ht : P.underlying t = some (.slice e)) (hi : (P.info? e).map (fun i => (i.zero, i.size, i.bytes)) = some (some (.int .u8 0), 1, 1)) {w : World} {g n cap m c : Nat} {a : Addr} (h : BRow w g cap) (hn : n ≤ cap) (hcm : cap ≤ maxLen)
    (hs : ac.eval s = .slice (some ⟨g, 0, none⟩) n cap) (hx : ac.eval x = .slice (some a) m c)
    (news : List Value) (hl : news.length = m) (hb : ∀ v ∈ news, ∃ x : UInt8, v = .int .u8 (x.toNat : Int)) (hnews : ∀ j u, news[j]? = some u → w.cell? (a.add j) = some u) (h63 : n + m ≤ 1000000)
    (hK : ∀ g' cap' w', BRow w' g' cap' → (g' = g ∨ w.heap.size ≤ g') → Only [g] w w' → n + m ≤ cap' → cap' ≤ maxLen → wpList P ops Q rest (ac.put o.dst (.slice (some ⟨g', 0, none⟩) (n + m) cap')) w') : wpList P ops Q (o :: rest) ac w := by
  refine wpList_plain hgd fun K hK' => ?_
  obtain ⟨g', cap', w', hrun, h2, h3, h4, h5, h6⟩ := run_append_brow (P := P) (c := c) o.type ht hi h hn hcm news hl hb hnews h63
  unfold Oper.wp execOp
  simp only [ho, resolve, invoke, builtin, Sem.run_bind, Sem.run_pure, Result.andThen_ok, List.map_toArray, List.map_cons, List.map_nil, hs, hx, hrun]
  exact hK' _ _ (hK g' cap' w' h2 h3 h4 h5 h6)
end
end Go.Proofs.Ytelkggafmnckoaa
