/- The parts of a text between blanks, and a number of a text, as the program reads them. Conditions: the library's variables are laid. -/
import Derived.Shelf.Strconv.Itoa3
import Derived.Lib.SmallJoins
import Derived.Test.YtahoopmiipmgpaaDoorEvRead
import Derived.Test.YtahoopmiipmgpaaDoorEvText2
import Derived.Test.YtahoopmiipmgpaaDoorShelfStr
import Derived.Test.YtahoopmiipmgpaaDoorShelfInt
import Derived.Test.YtahoopmiipmgpaaDoorStrS
namespace Go.Proofs.YtahoopmiipmgpaaDoor
open Go Go.RowKit

/-- The library's variables. -/
structure Env (w : World) : Prop where
  tab : Tab w
  max : ∃ m, w.cell? ⟨0, 0, none⟩ = some (.int .i64 m)
  syn : ∃ tp p, w.var? Tryd.prog "strconv.ErrSyntax" = some #[.iface tp p]
  ran : ∃ tp p, w.var? Tryd.prog "strconv.ErrRange" = some #[.iface tp p]
theorem var_later {w w' : World} {n : String} {g : Nat} {cs : Array Value} (hg : Tryd.prog.globalNamed n = some g) (h : w.var? Tryd.prog n = some cs) (hb : Below w.heap.size w w') : w'.var? Tryd.prog n = some cs :=
  Joins.var_stays hg h hb (Nat.le_refl _)
theorem gSyn : Tryd.prog.globalNamed "strconv.ErrSyntax" = some 1 := by kernel_rfl
theorem gRan : Tryd.prog.globalNamed "strconv.ErrRange" = some 2 := by kernel_rfl
theorem Env.below {w w' : World} (h : Env w) (hb : Below w.heap.size w w') : Env w' := by
  obtain ⟨m, hm⟩ := h.max
  obtain ⟨t1, p1, h1⟩ := h.syn
  obtain ⟨t2, p2, h2⟩ := h.ran
  exact ⟨h.tab.below hb, ⟨m, (hb.cell (Lib.lt_of_cell hm)).trans hm⟩, ⟨t1, p1, var_later gSyn h1 hb⟩, ⟨t2, p2, var_later gRan h2 hb⟩⟩

theorem index_app {w r : List UInt8} (h : ∀ b ∈ w, b ≠ 32) : Lib.index (w ++ 32 :: r) [32] = w.length := by
  rw [Lib.index_one]
  induction w with
  | nil => simp [Lib.indexByte]
  | cons b w ih =>
    have hb := h b (List.mem_cons_self ..)
    rw [List.cons_append, Lib.indexByte, ih (fun c hc => h c (List.mem_cons_of_mem _ hc))]
    simp only [beq_iff_eq, hb, if_false, List.length_cons]
    rw [if_neg (by omega)]; omega
theorem first_blank : ∀ {l : List UInt8}, 32 ∈ l → ∃ w r, l = w ++ 32 :: r ∧ ∀ b ∈ w, b ≠ 32
  | b :: l, h => by
    by_cases hb : b = 32
    · subst hb; exact ⟨[], l, rfl, by simp⟩
    · obtain ⟨w, r, rfl, hw⟩ := first_blank (l := l) (by rcases List.mem_cons.1 h with h | h; exact absurd h.symm hb; exact h)
      refine ⟨b :: w, r, rfl, ?_⟩
      intro c hc
      rcases List.mem_cons.1 hc with rfl | hc
      · exact hb
      · exact hw c hc
theorem splitB_list : ∀ (k : Nat) (s : ByteArray), Lib.countB s ⟨#[32]⟩ = k → (Lib.splitB ⟨#[32]⟩ 0 k s).map (fun b => b.data.toList) = splitL s.data.toList
  | 0, s, h => by
    have hc : s.data.toList.count 32 = 0 := by rw [← Lib.count_one]; exact h
    rw [Lib.splitB_zero, split_word (fun b hb hb2 => List.count_eq_zero.1 hc (hb2 ▸ hb))]
    rfl
  | k + 1, s, h => by
    have hc : s.data.toList.count 32 = k + 1 := by rw [← Lib.count_one]; exact h
    obtain ⟨w, r, hl, hw⟩ := first_blank (List.count_pos_iff.1 (by omega : 0 < s.data.toList.count 32))
    have hi : Lib.indexB s ⟨#[32]⟩ = w.length := by
      show Lib.index s.data.toList [32] = _
      rw [hl, index_app hw]
    have hsz : s.size = w.length + (r.length + 1) := by rw [Lib.size_eq, hl]; simp
    have hrest : (s.extract (w.length + 1) s.size).data.toList = r := by
      rw [ByteArray.data_extract, Array.toList_extract, List.extract_eq_take_drop, hl, hsz]
      simp
      exact List.take_of_length_le (by omega)
    have hfst : (s.extract 0 w.length).data.toList = w := by
      rw [ByteArray.data_extract, Array.toList_extract, List.extract_eq_take_drop, hl]
      simp
    have hcr : Lib.countB (s.extract (w.length + 1) s.size) ⟨#[32]⟩ = k := by
      show Lib.count (s.extract (w.length + 1) s.size).data.toList [32] = k
      rw [hrest, Lib.count_one]
      rw [hl, List.count_append, List.count_eq_zero.2 (fun hm => hw 32 hm rfl), List.count_cons_self] at hc
      omega
    rw [Lib.splitB, if_neg (by rw [hi]; simp), hi, hl, split_app hw, List.map_cons]
    simp only [Int.toNat_natCast, Nat.add_zero]
    rw [hfst]
    have := splitB_list k _ hcr
    rw [hrest] at this
    rw [← this]
    rfl
theorem splitL_le : ∀ (l : List UInt8), (∀ w ∈ splitL l, w.length ≤ l.length) ∧ (splitL l).length ≤ l.length + 1
  | [] => by simp [splitL]
  | b :: l => by
    obtain ⟨h1, h2⟩ := splitL_le l
    cases hs : splitL l with
    | nil => exact absurd hs (splitL_ne l)
    | cons w r =>
      rw [hs] at h1 h2
      rw [splitL, hs]
      split
      · refine ⟨?_, by simp at h2 ⊢; omega⟩
        intro v hv
        rcases List.mem_cons.1 hv with rfl | hv
        · simp
        · have := h1 v hv; simp; omega
      · refine ⟨?_, by simp at h2 ⊢; omega⟩
        intro v hv
        rcases List.mem_cons.1 hv with rfl | hv
        · have := h1 w (List.mem_cons_self ..); simp; omega
        · have := h1 v (List.mem_cons_of_mem _ hv); simp; omega
theorem ba_size (s : ByteArray) : s.data.toList.length = s.size := (Lib.size_eq s).symm

set_option maxHeartbeats 400000 in
theorem impl_wordsOf_c (s : ByteArray) (w : World) (hs : s.size ≤ 1048576) (hE : Env w) :
    Calls Tryd.prog 16 #[.string s] w fun e w' => ∃ ws v, e = .returned v ∧ ws.map (fun b : ByteArray => b.data.toList) = splitL s.data.toList ∧ (strs 9).rep true w' ws [v] [w.heap.size] ∧ Below w.heap.size w w' := by
  obtain ⟨m, hm⟩ := hE.max
  have C := Lib.hid (strings_Split s ⟨#[32]⟩ m w (by omega) hm (by decide))
  have hl := Lib.splitB_all ⟨#[32]⟩ (by decide) 0 _ s rfl
  have hm := splitB_list _ s rfl
  have hz := (splitL_le s.data.toList).1
  have hz2 := (splitL_le s.data.toList).2
  rw [← hm, ba_size] at hz hz2
  rw [List.length_map] at hz2
  generalize Lib.splitB ⟨#[32]⟩ 0 (Lib.countB s ⟨#[32]⟩) s = ws at C hl hm hz hz2
  generalize Lib.countB s ⟨#[32]⟩ = k at C hl
  have hrep : (strs 9).rep true (w.alloc (.cells (ws.map Value.string).toArray 9)) ws [.slice (some ⟨w.heap.size, 0, none⟩) ws.length ws.length] [w.heap.size] :=
    slice_of_row (Row.new w _ _) (repL_strs ws (fun p hp => by have := hz p.data.toList (List.mem_map_of_mem hp); rw [ba_size] at this; unfold maxLen; omega)) (by unfold maxLen; omega)
  rw [hl] at hrep
  go_enter Tryd.func16, Tryd.ntmps16
  go_wp2_with fail
  refine C.out.mono ?_
  rintro e w1 ⟨rfl, rfl⟩
  go_wp2_with fail
  go_ret
  exact ⟨ws, _, rfl, hm, hrep, (Below.refl _ _).alloc (Nat.le_refl _) _⟩
set_option maxHeartbeats 400000 in
theorem FormatIntI_c (n : Int) (w : World) (h0 : -9223372036854775808 ≤ n) (h1 : n ≤ 9223372036854775807) (htab : Lib.TabIs Tryd.prog w "internal/strconv.uint64pow10" .u64 Lib.pow10Tab) :
    Calls Tryd.prog 74 #[.int .i64 n, .int .i64 10] w fun e w' => e = .returned (.string ⟨(Lib.itoa n).toArray⟩) ∧ Below w.heap.size w w' := by
  have HC := Lib.hid (FormatInt10_c n h0 h1)
  go_enter Tryd.func74, Tryd.ntmps74
  go_wp2_with fail
  refine (HC.out _ htab).mono ?_
  rintro e w1 ⟨rfl, k, os, rfl⟩
  go_wp2_with fail
  go_ret
  exact ⟨rfl, grow_below⟩
set_option maxHeartbeats 400000 in
theorem impl_DecimalI_c (n : Int) (w : World) (h0 : -9223372036854775808 ≤ n) (h1 : n ≤ 9223372036854775807) (hT : Tab w) :
    Calls Tryd.prog 53 #[.int .i64 n] w fun e w' => e = .returned (.string ⟨(Lib.itoa n).toArray⟩) ∧ Below w.heap.size w w' := by
  have HC := Lib.hid (FormatIntI_c n w h0 h1 hT)
  go_enter Tryd.func53, Tryd.ntmps53
  go_wp2_with fail
  refine HC.out.mono ?_
  rintro e w1 ⟨rfl, hb⟩
  go_wp2_with fail
  go_ret
  exact ⟨rfl, hb⟩
theorem rdec_ok (l : List UInt8) : I64 (rdec l).1 := by
  unfold rdec
  split
  · exact ⟨by decide, by decide⟩
  · split
    · rename_i v hv
      have := Lib.parseIntB_bounds hv
      split
      · exact ⟨by simp at this ⊢; omega, by simp at this ⊢; omega⟩
      · exact ⟨by decide, by decide⟩
    · exact ⟨by decide, by decide⟩
theorem bytesWorld_below' {w w' : World} {t : TypeId} (h : w' = w ∨ ∃ s, w' = Lib.bytesWorld w t s) : Below w.heap.size w w' := by
  rcases h with rfl | ⟨s, rfl⟩
  · exact Below.refl _ _
  · exact Lib.bytesWorld_below _ _ _
set_option maxHeartbeats 1000000 in
theorem impl_ReadDecimal_c (s : ByteArray) (w : World) (hs : s.size ≤ 1048576) (hE : Env w) :
    Calls Tryd.prog 27 #[.string s] w fun e w' => e = .returned (.tuple #[.int .i64 (rdec s.data.toList).1, .bool (rdec s.data.toList).2]) ∧ Below w.heap.size w w' := by
  have CT := Lib.hid (strings_TrimPrefix s ⟨#[45]⟩ w)
  obtain ⟨t, ht⟩ : ∃ t : ByteArray, t = ⟨(Lib.trimPrefix s.data.toList [45]).toArray⟩ := ⟨_, rfl⟩
  rw [show (⟨#[45]⟩ : ByteArray).data.toList = [45] from rfl, ← ht] at CT
  have hl : (Lib.trimPrefix s.data.toList [45]).length = t.size := by rw [ht]; rfl
  have hv : rdec s.data.toList = if t.size < 1 ∨ 18 < t.size then (0, false)
    else match Lib.parseIntB 64 s.data.toList with
    | .ok v => if Lib.itoa v = s.data.toList then (v, true) else (0, false)
    | _ => (0, false) := by rw [rdec, hl]; rfl
  rw [hv]
  clear hv hl ht
  by_cases h1 : t.size < 1
  · have g1 : ((t.size : Int) < 1) = True := eq_true (by omega)
    rw [if_pos (.inl h1)]
    clear h1
    go_enter Tryd.func27, Tryd.ntmps27
    go_wp2_with fail
    refine CT.out.mono ?_
    rintro e w1 ⟨rfl, rfl⟩
    go_wp2_with fail
    go_ret2
    exact ⟨rfl, Below.refl _ _⟩
  have g1 : ((t.size : Int) < 1) = False := eq_false (by omega)
  by_cases h2 : 18 < t.size
  · have g2 : ((18 : Int) < t.size) = True := eq_true (by omega)
    rw [if_pos (.inr h2)]
    clear h1 h2
    go_enter Tryd.func27, Tryd.ntmps27
    go_wp2_with fail
    refine CT.out.mono ?_
    rintro e w1 ⟨rfl, rfl⟩
    go_wp2_with fail
    go_ret2
    exact ⟨rfl, Below.refl _ _⟩
  have g2 : ((18 : Int) < t.size) = False := eq_false (by omega)
  rw [if_neg (by omega)]
  clear h1 h2
  rcases hp : Lib.parseIntB 64 s.data.toList with v | _ | _
  ·
    have CP := Lib.hid (strconv_ParseInt_10_at64_ok s (by omega) v hp w)
    have hb := Lib.parseIntB_bounds hp
    have CD := Lib.hid (fun w' (q : Tab w') => impl_DecimalI_c v w' (by simp at hb; omega) (by simp at hb; omega) q)
    obtain ⟨d, hd⟩ : ∃ d : ByteArray, d = ⟨(Lib.itoa v).toArray⟩ := ⟨_, rfl⟩
    rw [← hd] at CD
    have hq : (Lib.itoa v = s.data.toList) = (d = s) := by
      rw [hd, eq_iff_iff]
      constructor
      · intro h; rw [h]
      · intro h; rw [← h]
    simp only [hq]
    have hT := hE.tab
    clear hb hp hd hq
    by_cases he : d = s
    · have ge : (!d.toList == s.toList) = false := by rw [he]; simp
      rw [if_pos he]
      clear he
      go_enter Tryd.func27, Tryd.ntmps27
      go_wp2_with fail
      refine CT.out.mono ?_
      rintro e w1 ⟨rfl, rfl⟩
      go_wp2_with fail
      refine CP.out.mono ?_
      rintro e w2 ⟨rfl, hw⟩
      have b2 := bytesWorld_below' hw
      clear hw
      go_wp2_with fail
      refine (CD.out _ (hT.below b2)).mono ?_
      rintro e w3 ⟨rfl, b3⟩
      go_wp2_with fail
      go_ret2
      exact ⟨rfl, b2.trans (b3.mono b2.size)⟩
    · have ge : (!d.toList == s.toList) = true := by rw [str_eq]; simp [he]
      rw [if_neg he]
      clear he
      go_enter Tryd.func27, Tryd.ntmps27
      go_wp2_with fail
      refine CT.out.mono ?_
      rintro e w1 ⟨rfl, rfl⟩
      go_wp2_with fail
      refine CP.out.mono ?_
      rintro e w2 ⟨rfl, hw⟩
      have b2 := bytesWorld_below' hw
      clear hw
      go_wp2_with fail
      refine (CD.out _ (hT.below b2)).mono ?_
      rintro e w3 ⟨rfl, b3⟩
      go_wp2_with fail
      go_ret2
      exact ⟨rfl, b2.trans (b3.mono b2.size)⟩
  ·
    obtain ⟨tp, p, hvar⟩ := hE.syn
    have CP := Lib.hid (strconv_ParseInt_10_at64_syntax_var s (by omega) hp tp p w hvar)
    clear hvar hp
    go_enter Tryd.func27, Tryd.ntmps27
    go_wp2_with fail
    refine CT.out.mono ?_
    rintro e w1 ⟨rfl, rfl⟩
    go_wp2_with fail
    refine CP.out.mono ?_
    rintro e w2 ⟨N, rfl, _, _, b2⟩
    go_wp2_with fail
    go_ret2
    exact ⟨rfl, b2⟩
  ·
    obtain ⟨tp, p, hvar⟩ := hE.ran
    have CP := Lib.hid (strconv_ParseInt_10_at64_range_var s (by omega) hp tp p w hvar)
    generalize Lib.intSat 64 s.data.toList = z at CP
    clear hvar hp
    go_enter Tryd.func27, Tryd.ntmps27
    go_wp2_with fail
    refine CT.out.mono ?_
    rintro e w1 ⟨rfl, rfl⟩
    go_wp2_with fail
    refine CP.out.mono ?_
    rintro e w2 ⟨N, rfl, _, _, b2⟩
    go_wp2_with fail
    go_ret2
    exact ⟨rfl, b2⟩
end Go.Proofs.YtahoopmiipmgpaaDoor
