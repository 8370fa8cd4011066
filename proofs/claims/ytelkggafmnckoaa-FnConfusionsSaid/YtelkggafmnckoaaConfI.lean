/- The program's Confusions. Conditions: none. -/
import Derived.Test.YtelkggafmnckoaaSortC
import Derived.Test.YtelkggafmnckoaaEvRate
import Derived.Test.YtelkggafmnckoaaEvAlign2
import Derived.Test.YtelkggafmnckoaaEdLaw2
import Derived.Test.YtelkggafmnckoaaLAlignment
import Derived.StillTail
import Derived.StillTailTactics
namespace Go.Proofs.Ytelkggafmnckoaa
open Go Go.RowKit

def stepKey (a b : ByteArray) (s : AStep) : CKey := (a.extract s.i.toNat (s.i.toNat + passI s.op), b.extract s.j.toNat (s.j.toNat + passJ s.op))
def stepKeys (a b : ByteArray) (l : List AStep) : List CKey := (l.filter fun s => decide (s.op ≠ 0)).map (stepKey a b)
def caseKeys (c : ACase) : List CKey := stepKeys c.want c.got (align c.want c.got)
def keysAll (xs : List ACase) : List CKey := xs.flatMap caseKeys
def oneC (k : CKey) : PConf := ⟨k.1, k.2, 1⟩
def confOf (p : CKey × Int) : PConf := ⟨p.1.1, p.1.2, p.2⟩
/-- The confusions that are told. -/
def confsK (ks : List CKey) : List PConf := (ks.foldl (countIns cLess) []).map confOf
def confsR (xs : List ACase) : List PConf := if casesOk xs then confsK (keysAll xs) else []
theorem stepKeys_take {a b : ByteArray} {l : List AStep} {k : Nat} (h : k < l.length) : stepKeys a b (l.take (k + 1)) = stepKeys a b (l.take k) ++ (if l[k].op = 0 then [] else [stepKey a b l[k]]) := by
  unfold stepKeys
  rw [List.take_succ_eq_append_getElem h, List.filter_append, List.map_append]
  congr 1
  by_cases h0 : l[k].op = 0 <;> simp [h0]
theorem keysAll_take {xs : List ACase} {k : Nat} (h : k < xs.length) : keysAll (xs.take (k + 1)) = keysAll (xs.take k) ++ caseKeys xs[k] := by
  unfold keysAll
  rw [List.take_succ_eq_append_getElem h, List.flatMap_append]
  simp
theorem stepKeys_len (a b : ByteArray) (l : List AStep) : (stepKeys a b l).length ≤ l.length := by
  unfold stepKeys; rw [List.length_map]; exact List.length_filter_le _ _
theorem caseKeys_len {c : ACase} (h : caseOk c = true) : (caseKeys c).length ≤ 80 := by
  have h1 := stepKeys_len c.want c.got (align c.want c.got)
  have h2 := alignFrom_len c.want c.got (c.want.size + c.got.size) 0 0
  simp only [caseOk, shortB, Bool.and_eq_true, decide_eq_true_eq] at h
  unfold caseKeys
  unfold align at h1 ⊢
  omega
theorem keysAll_len : ∀ {xs : List ACase}, xs.all caseOk = true → (keysAll xs).length ≤ 80 * xs.length
  | [], _ => by simp [keysAll]
  | c :: xs, h => by
    rw [List.all_cons, Bool.and_eq_true] at h
    have h1 := keysAll_len h.2
    have h2 := caseKeys_len h.1
    unfold keysAll at h1 ⊢
    rw [List.flatMap_cons, List.length_append, List.length_cons]
    omega
theorem isAl_all {a b : ByteArray} : ∀ (l : List AStep) (i j : Nat), isAl a b l i j = true → ∀ s ∈ l, 0 ≤ s.i ∧ 0 ≤ s.j ∧ (0 ≤ s.op ∧ s.op ≤ 3) ∧ s.i.toNat + passI s.op ≤ a.size ∧ s.j.toNat + passJ s.op ≤ b.size
  | [], _, _, _, s, hs => by simp at hs
  | t :: l, i, j, h, s, hs => by
    simp only [isAl, Bool.and_eq_true, decide_eq_true_eq] at h
    obtain ⟨⟨h1, h2⟩, h3, h4⟩ := h
    rcases List.mem_cons.1 hs with rfl | hs
    · obtain ⟨p1, p2⟩ := allows_le h3
      have ho : 0 ≤ s.op ∧ s.op ≤ 3 := by
        simp only [allowsB, Bool.and_eq_true] at h3
        have h5 := h3.2
        split at h5
        · omega
        · split at h5
          · omega
          · have := of_decide_eq_true h5; omega
      rw [h1, h2]
      simp only [Int.toNat_natCast]
      exact ⟨by omega, by omega, ho, p1, p2⟩
    · exact isAl_all l _ _ h4 s hs
theorem align_all (a b : ByteArray) : ∀ s ∈ align a b, 0 ≤ s.i ∧ 0 ≤ s.j ∧ (0 ≤ s.op ∧ s.op ≤ 3) ∧ s.i.toNat + passI s.op ≤ a.size ∧ s.j.toNat + passJ s.op ≤ b.size := isAl_all _ 0 0 (align_ok a b).1
theorem infoConf : (Try.prog.info? 55).map (fun i => (i.zero, i.size, i.bytes)) = some (some (.agg #[.string .empty, .string .empty, .int .i64 0]), pConf.size, 40) := by kernel_rfl
theorem conf_empty (w : World) (e : TypeId) : (pConfs e).rep true w [] [.slice none 0 0] [] := slice_nil _ _ _ _
theorem ext_size (a : ByteArray) (i j : Nat) : (a.extract i j).size ≤ a.size := by rw [ByteArray.size_extract]; omega
theorem oneC_ok {a b : ByteArray} {s : AStep} (ha : a.size ≤ 40) (hb : b.size ≤ 40) : pConfOk (oneC (stepKey a b s)) := by
  have h1 := ext_size a s.i.toNat (s.i.toNat + passI s.op)
  have h2 := ext_size b s.j.toNat (s.j.toNat + passJ s.op)
  refine ⟨?_, ?_, ?_⟩
  · show (a.extract _ _).size ≤ maxLen; unfold maxLen; omega
  · show (b.extract _ _).size ≤ maxLen; unfold maxLen; omega
  · show I64 1; unfold I64; omega
theorem conf_set2 : ∀ (xs : List PConf) (k : Nat) (hk : k < xs.length) (n : Int), (xs.flatMap pConfCells).set (k * 3 + 2) (.int .i64 n) = (xs.set k { xs[k] with count := n }).flatMap pConfCells
  | s :: r, 0, _, n => by simp [pConfCells]
  | s :: r, k + 1, h, n => by
    have ih := conf_set2 r k (by simpa using h) n
    rw [show (k + 1) * 3 + 2 = k * 3 + 2 + 3 by omega]
    simp only [List.flatMap_cons, List.set_cons_succ, List.getElem_cons_succ, ← ih]
    simp [pConfCells]
/-- Confusions of one's own: the cells of one, and what a store of its count leaves. -/
theorem conf_own {w : World} {e : TypeId} {xs : List PConf} {v : Value} {F : List Nat} (h : (pConfs e).rep true w xs [v] F) {k : Nat} (hk : k < xs.length) :
    ∃ g c, v = .slice (some ⟨g, 0, none⟩) xs.length c ∧ F = [g] ∧ g < w.heap.size ∧ xs.length ≤ c ∧ c ≤ maxLen ∧ w.cell? ⟨g, k * 3, none⟩ = some (.string xs[k].want) ∧ w.cell? ⟨g, k * 3 + 1, none⟩ = some (.string xs[k].got) ∧ w.cell? ⟨g, k * 3 + 2, none⟩ = some (.int .i64 xs[k].count) ∧ (∀ i, w.frozen? ⟨g, i, none⟩ = false) ∧
      (∀ n, I64 n → (pConfs e).rep true (w.setCell ⟨g, k * 3 + 2, none⟩ (.int .i64 n)) (xs.set k { xs[k] with count := n }) [v] F) := by
  have hok := pConfs_ok h
  obtain ⟨A, c0, hv0, hc1, hc2, hr⟩ := pConfs_open h
  obtain ⟨g, c, cs, rest, G, rfl, hlc, hcm, hrow, hrep, hlen, rfl⟩ := row_of_slice h (by omega)
  obtain ⟨rfl, rfl⟩ := repL_pConf_inv hrep
  have hkk : pConfOk xs[k] := hok _ (List.getElem_mem hk)
  obtain ⟨b, off, hA, hbb, _, q0, q1, q2, _⟩ := hr k hk
  injection hv0 with e1 _ _
  rw [hA] at e1
  injection e1 with e1
  injection e1 with e1 e2 _
  subst e1; subst e2
  rw [Nat.zero_add] at q0 q1 q2
  have hl := pConfCells_len xs
  refine ⟨g, c, rfl, rfl, hbb, hlc, hcm, q0, q1, q2, hrow.frozen, fun n hn => ?_⟩
  have hr2 := hrow.set (k * 3 + 2) (.int .i64 n)
  rw [List.set_append_left _ _ (by omega), conf_set2 xs k hk n] at hr2
  have hok2 : ∀ t ∈ xs.set k { xs[k] with count := n }, pConfOk t := fun t ht => by
    rcases List.mem_or_eq_of_mem_set ht with h | rfl
    · exact hok t h
    · exact ⟨hkk.1, hkk.2.1, hn⟩
  exact slice_of_room hr2 (repL_pConf _ hok2) (by simp) hlc hcm (by rw [← hlen]; simp only [List.length_append, pConfCells_len, List.length_set])
theorem groupN_bound {l : List (CKey × Int)} {k : CKey} {m : Int} (hm : 0 ≤ m) (h : ∀ x ∈ l, 1 ≤ x.2 ∧ x.2 ≤ m) : ∀ x ∈ groupN l k, 1 ≤ x.2 ∧ x.2 ≤ m + 1 := by
  intro x hx
  unfold groupN at hx
  split at hx
  · rename_i a n hl
    have hmem : (a, n) ∈ l := List.mem_of_getLast? hl
    split at hx
    · rcases List.mem_append.1 hx with h1 | h1
      · have := h x ((List.dropLast_sublist l).mem h1); omega
      · simp only [List.mem_singleton] at h1
        have := h _ hmem
        rw [h1]; dsimp only at this ⊢; omega
    · rcases List.mem_append.1 hx with h1 | h1
      · have := h x h1; omega
      · simp only [List.mem_singleton] at h1
        rw [h1]; dsimp only; omega
  · simp only [List.mem_singleton] at hx
    rw [hx]; dsimp only; omega
theorem group_bound : ∀ (ks : List CKey) (l : List (CKey × Int)) (m : Int), 0 ≤ m → (∀ x ∈ l, 1 ≤ x.2 ∧ x.2 ≤ m) → ∀ x ∈ ks.foldl groupN l, 1 ≤ x.2 ∧ x.2 ≤ m + ks.length
  | [], l, m, _, h, x, hx => by have := h x hx; simp; omega
  | k :: ks, l, m, hm, h, x, hx => by
    have := group_bound ks _ (m + 1) (by omega) (groupN_bound hm h) x hx
    simp only [List.length_cons]; omega
theorem groupN_len (l : List (CKey × Int)) (k : CKey) : (groupN l k).length ≤ l.length + 1 := by
  unfold groupN
  split
  · split <;> simp <;> omega
  · simp
theorem group_len : ∀ (ks : List CKey) (l : List (CKey × Int)), (ks.foldl groupN l).length ≤ l.length + ks.length
  | [], l => by simp
  | k :: ks, l => by
    have h1 := group_len ks (groupN l k)
    have h2 := groupN_len l k
    simp only [List.foldl_cons, List.length_cons]; omega
theorem group_take {ks : List CKey} {k : Nat} (h : k < ks.length) : (ks.take (k + 1)).foldl groupN [] = groupN ((ks.take k).foldl groupN []) ks[k] := by
  rw [List.take_succ_eq_append_getElem h, List.foldl_append]; rfl
/-- The last key of what has been counted is the last key that came. -/
theorem group_last : ∀ (ks : List CKey) (k : CKey), ∃ r n, (ks ++ [k]).foldl groupN [] = r ++ [(k, n)] := by
  intro ks k
  rw [List.foldl_append]
  show ∃ r n, groupN (ks.foldl groupN []) k = r ++ [(k, n)]
  unfold groupN
  split
  · rename_i a n hl
    split
    · rename_i e
      exact ⟨_, n + 1, by rw [e]⟩
    · exact ⟨_, 1, rfl⟩
  · exact ⟨[], 1, rfl⟩
theorem groupN_same {r : List (CKey × Int)} {k : CKey} {n : Int} : groupN (r ++ [(k, n)]) k = r ++ [(k, n + 1)] := by
  unfold groupN
  simp
theorem groupN_other {r : List (CKey × Int)} {a k : CKey} {n : Int} (h : a ≠ k) : groupN (r ++ [(a, n)]) k = r ++ [(a, n)] ++ [(k, 1)] := by
  unfold groupN
  simp [h]
theorem conf_key (y : PConf) (h : y.count = 1) : oneC (confKey y) = y := by
  obtain ⟨a, b, c⟩ := y
  dsimp only at h
  subst h; rfl
end Go.Proofs.Ytelkggafmnckoaa
