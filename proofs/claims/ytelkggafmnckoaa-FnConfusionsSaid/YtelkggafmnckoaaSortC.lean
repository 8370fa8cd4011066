/- slices.SortFunc over confusions of one's own: what it leaves, as plain data. Conditions: none. -/
import Derived.Test.YtelkggafmnckoaaCmp
import Derived.Test.YtelkggafmnckoaaShelfSort
import Derived.Shelf.SlSortCmp.NoneTotal
namespace Go.Proofs.Ytelkggafmnckoaa
open Go Go.RowKit Go.Shelf
open Go.Sort (flatK size_flatK get_flatK HoldsK putRowK)

section
variable {α : Type} [Inhabited α] {enc : α → List Value} {k : Nat}
theorem flat_get! (hk : ∀ x, (enc x).length = k) (k0 : 0 < k) : ∀ (xs : List α) (t : Nat), t < xs.length * k → (xs.flatMap enc)[t]? = some ((enc xs.toArray[t / k]!)[t % k]!)
  | [], t, h => by simp at h
  | x :: xs, t, h => by
    rw [List.flatMap_cons]
    by_cases ht : t < k
    · rw [List.getElem?_append_left (by rw [hk]; exact ht), Nat.div_eq_of_lt ht, Nat.mod_eq_of_lt ht]
      have : t < (enc x).length := by rw [hk]; exact ht
      simp [this]
    · rw [List.getElem?_append_right (by rw [hk]; omega), hk]
      have hl : t - k < xs.length * k := by rw [List.length_cons, Nat.add_mul] at h; omega
      rw [flat_get! hk k0 xs (t - k) hl]
      have e1 : t / k = (t - k) / k + 1 := by
        obtain ⟨u, rfl⟩ : ∃ u, t = u + k := ⟨t - k, by omega⟩
        rw [Nat.add_sub_cancel, Nat.add_div_right _ k0]
      have e2 : t % k = (t - k) % k := by
        obtain ⟨u, rfl⟩ : ∃ u, t = u + k := ⟨t - k, by omega⟩
        rw [Nat.add_sub_cancel, Nat.add_mod_right]
      rw [e1, e2]
      have hd : (t - k) / k < xs.length := (Nat.div_lt_iff_lt_mul k0).2 hl
      simp [hd]
omit [Inhabited α] in
theorem flat_len (hk : ∀ x, (enc x).length = k) (xs : List α) : (xs.flatMap enc).length = xs.length * k := by
  induction xs with
  | nil => simp
  | cons x xs ih => rw [List.flatMap_cons, List.length_append, ih, hk, List.length_cons, Nat.add_mul]; omega
theorem flatK_list (hk : ∀ x, (enc x).length = k) (k0 : 0 < k) (xs : List α) : (flatK enc k xs.toArray).toList = xs.flatMap enc := by
  apply List.ext_getElem?
  intro t
  by_cases h : t < xs.length * k
  · rw [flat_get! hk k0 xs t h, Array.getElem?_toList]
    have hs : t < (flatK enc k xs.toArray).size := by rw [size_flatK]; simpa using h
    rw [Array.getElem?_eq_getElem hs, ← getElem!_pos _ t hs, get_flatK _ _ _ _ (by simpa using h)]
  · rw [List.getElem?_eq_none (by rw [Array.length_toList, size_flatK]; simpa using h), List.getElem?_eq_none (by rw [flat_len hk]; omega)]
end
theorem putCells_list (F : Array Value) (cs rest : List Value) (h : F.size = cs.length) : Sort.putCells id 0 F (cs ++ rest).toArray = (F.toList ++ rest).toArray := by
  apply Array.ext
  · simp [Sort.putCells, h]
  · intro i h1 h2
    simp only [Sort.putCells, Array.getElem_mapIdx, List.getElem_toArray]
    by_cases hi : i < F.size
    · rw [if_pos ⟨Nat.zero_le _, by omega⟩, List.getElem_append_left (by simpa using hi), Nat.sub_zero, getElem!_pos F i hi]
      simp
    · rw [if_neg (by omega), List.getElem_append_right (by omega), List.getElem_append_right (by simpa using hi)]
      simp [h]
theorem sorted_list {α : Type} [Inhabited α] {lt : α → α → Bool} {xs : List α} {d : Array α} (hp : Sort.PermIn 0 xs.toArray.size xs.toArray d) (hs : Sort.SortedIn lt 0 xs.toArray.size d) : d.toList.Perm xs ∧ d.toList.Pairwise (fun x y => lt y x = false) ∧ d.size = xs.length := by
  obtain ⟨h1, -, h3⟩ := hp
  have e1 : d.size = xs.length := by simpa using h1
  refine ⟨?_, ?_, e1⟩
  · have a1 : d.extract 0 xs.toArray.size = d := by rw [show xs.toArray.size = d.size from h1.symm]; simp
    have a2 : xs.toArray.extract 0 xs.toArray.size = xs.toArray := by simp
    rw [a1, a2] at h3
    simpa using h3
  · rw [List.pairwise_iff_getElem]
    intro i j hi hj hij
    have := hs i j (Nat.zero_le _) hij (by simpa [e1] using hj)
    rw [getElem!_pos d j (by simpa using hj), getElem!_pos d i (by simpa using hi)] at this
    simpa using this
instance : Inhabited PConf := ⟨⟨.empty, .empty, 0⟩⟩
def cfC (x y : PConf) : Int := cmpC (confKey x) (confKey y)
theorem ltOf_cfC (x y : PConf) : ltOf cfC x y = cLess (confKey x) (confKey y) := cmpC_neg _ _
theorem cfC_swo : Sort.SWO (ltOf cfC) := by
  refine ⟨fun x => ?_, fun x y z h1 h2 => ?_, fun x y z h1 h2 => ?_⟩
  · rw [ltOf_cfC]; exact cLess_sto.irr _
  · rw [ltOf_cfC] at *; exact cLess_sto.tr _ _ _ h1 h2
  · rw [ltOf_cfC] at *
    rcases cLess_sto.cases (confKey x) (confKey z) with h | h | h
    · rcases cLess_sto.cases (confKey x) (confKey y) with g | g | g
      · rw [g.1] at h1; cases h1
      · rw [← g] at h2; exact h2
      · have := cLess_sto.tr _ _ _ g.2.1 h.1; rw [this] at h2; cases h2
    · rw [h]; exact cLess_sto.irr _
    · exact h.1
theorem closure_cmp (blk off size : Nat) (w : World) : CmpLays Try.prog 56 #[] pConfCells 3 cfC blk off size w :=
  fun _ _ _ _ x y => (closure_c x y _).mono fun _ _ ⟨he, hw⟩ => ⟨he, hw⟩
theorem sort_c {e : TypeId} {xs : List PConf} {v : Value} {F : List Nat} (w : World) (h : (pConfs e).rep true w xs [v] F) (hx : xs.length ≤ 1048576) :
    Calls Try.prog 59 #[v, .func (.func 56) #[] #[]] w fun en w' => en = .returned (.tuple #[]) ∧ ∃ ys, ys.Perm xs ∧ ys.Pairwise (fun x y => cLess (confKey y) (confKey x) = false) ∧ (pConfs e).rep true w' ys [v] F ∧ Only F w w' := by
  have hok := pConfs_ok h
  by_cases hn : xs.length = 0
  · obtain ⟨A, c, rfl⟩ := slice_len h
    have hx0 : xs = [] := List.length_eq_zero_iff.1 hn
    subst hx0
    refine (AnyF.slices_SortFunc_none laysF06 A c _ w).mono ?_
    rintro en w' ⟨rfl, rfl⟩
    exact ⟨rfl, [], List.Perm.refl _, List.Pairwise.nil, h, Only.refl _ _⟩
  · obtain ⟨g, c, cs, rest, G, rfl, hlc, hcm, hrow, hrep, hlen, rfl⟩ := row_of_slice h (by omega)
    obtain ⟨rfl, rfl⟩ := repL_pConf_inv hrep
    have hk : ∀ x, (pConfCells x).length = 3 := fun _ => rfl
    have eg : ∀ args w, (callFunc 56 args).run Try.prog w = .ok (.enter 56 args) w := enters_of Try.func56 (by kernel_rfl) rfl
    have hfl := flatK_list hk (by omega) xs
    have hH : HoldsK pConfCells 3 w g 0 xs.toArray := by
      intro j hj
      refine ⟨?_, hrow.frozen _⟩
      rw [hrow.cell, Nat.zero_add, List.getElem?_append_left (by rw [flat_len hk]; simpa using hj), ← hfl, Array.getElem?_toList, Array.getElem?_eq_getElem hj, getElem!_pos _ j hj]
      rfl
    have hc := AnyQ.slices_SortFunc laysF06 3 Try.isAgg55 Try.sizeOf55 pConfCells hk (fun x u hu => by simp [pConfCells] at hu; rcases hu with rfl | rfl | rfl <;> rfl) cfC cfC_swo 56 #[] g 0 c xs.toArray w eg (closure_cmp g 0 xs.toArray.size w) hH hrow.lt (by simp; omega)
    have e1 : xs.toArray.size = xs.length := by simp
    rw [e1] at hc
    refine hc.mono ?_
    rintro en w' ⟨rfl, d, n, os, hp, hs, rfl⟩
    rw [← e1] at hp hs
    obtain ⟨p1, p2, p3⟩ := sorted_list hp hs
    have hfd := flatK_list hk (by omega) d.toList
    have hsz : (flatK pConfCells 3 d).size = (xs.flatMap pConfCells).length := by rw [size_flatK, flat_len hk, p3]
    refine ⟨rfl, d.toList, p1, p2.imp (fun {x y} hxy => by rwa [ltOf_cfC] at hxy), ?_, ?_⟩
    · have hrow2 : Row (sortWorldK pConfCells 3 w g 0 n d os) g e (d.toList.flatMap pConfCells ++ rest) := by
        unfold Row
        have h1 : ((putRowK pConfCells 3 (Sort.ahead w n) g 0 d)).heap[g]? = some (.cells (Sort.putCells id 0 (flatK pConfCells 3 d) (xs.flatMap pConfCells ++ rest).toArray) e (0, 0)) := by
          show (w.heap.modify g _)[g]? = _
          rw [Array.getElem?_modify, if_pos rfl, show w.heap[g]? = some (.cells (xs.flatMap pConfCells ++ rest).toArray e (0, 0)) from hrow]
          rfl
        have h2 : (sortWorldK pConfCells 3 w g 0 n d os).heap[g]? = ((putRowK pConfCells 3 (Sort.ahead w n) g 0 d)).heap[g]? := by
          show (((putRowK pConfCells 3 (Sort.ahead w n) g 0 d)).heap ++ os)[g]? = _
          rw [Array.getElem?_append_left (Array.getElem?_eq_some_iff.1 h1).1]
        rw [h2, h1, putCells_list _ _ _ hsz, ← hfd]
      refine slice_of_room hrow2 (repL_pConf _ (fun s hs => hok s (p1.mem_iff.1 hs))) (by simpa using p3) hlc hcm ?_
      rw [← hlen, List.length_append, List.length_append, flat_len hk, flat_len hk]
      simp [p3]
    · refine ⟨rfl, rfl, rfl, ?_, fun i hi hne => ?_⟩
      · show w.heap.size ≤ (((putRowK pConfCells 3 (Sort.ahead w n) g 0 d)).heap ++ os).size
        simp [putRowK, Sort.putRow, Sort.mapBlock, Sort.ahead]
      · show (((putRowK pConfCells 3 (Sort.ahead w n) g 0 d)).heap ++ os)[i]? = _
        have e : ((putRowK pConfCells 3 (Sort.ahead w n) g 0 d)).heap = w.heap.modify g (Sort.onCells (Sort.putCells id 0 (flatK pConfCells 3 d))) := rfl
        rw [e, Array.getElem?_append_left (by simpa using hi), Array.getElem?_modify, if_neg (by simp at hne; omega)]
end Go.Proofs.Ytelkggafmnckoaa
