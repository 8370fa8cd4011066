/- The lines of a text: what the program's linesOf and the reference's l01Split give at any byte. Conditions: the library's variables are laid. -/
import Derived.Test.YtahoopmiipmgpaaDoorRpA
import Derived.Test.YtahoopmiipmgpaaDoorShelfStr
namespace Go.Proofs.YtahoopmiipmgpaaDoor
open Go Go.RowKit

theorem infoSt : (Tryd.prog.info? 9).map (fun i => (i.zero, i.size, i.bytes)) = some (some (.string .empty), str.size, 16) := by kernel_rfl
theorem extract_list (s : ByteArray) (f i : Nat) : (s.extract f i).data.toList = (s.data.toList.drop f).take (i - f) := by
  rw [ByteArray.data_extract, Array.toList_extract, List.extract_eq_take_drop]
theorem byte_at {s : ByteArray} {k : Nat} (h : k < s.size) : s.data.toList[k]? = some s[k] := by
  rw [Array.getElem?_toList]
  exact Array.getElem?_eq_getElem h
theorem ba_size (s : ByteArray) : s.data.toList.length = s.size := (Lib.size_eq s).symm

theorem index_appC {c : UInt8} {w r : List UInt8} (h : ∀ b ∈ w, b ≠ c) : Lib.index (w ++ c :: r) [c] = w.length := by
  rw [Lib.index_one]
  induction w with
  | nil => simp [Lib.indexByte]
  | cons b w ih =>
    have hb := h b (List.mem_cons_self ..)
    rw [List.cons_append, Lib.indexByte, ih (fun d hd => h d (List.mem_cons_of_mem _ hd))]
    simp only [beq_iff_eq, hb, if_false, List.length_cons]
    rw [if_neg (by omega)]; omega
theorem first_c {c : UInt8} : ∀ {l : List UInt8}, c ∈ l → ∃ w r, l = w ++ c :: r ∧ ∀ b ∈ w, b ≠ c
  | b :: l, h => by
    by_cases hb : b = c
    · subst hb; exact ⟨[], l, rfl, by simp⟩
    · obtain ⟨w, r, rfl, hw⟩ := first_c (l := l) (by rcases List.mem_cons.1 h with h | h; exact absurd h.symm hb; exact h)
      refine ⟨b :: w, r, rfl, ?_⟩
      intro d hd
      rcases List.mem_cons.1 hd with rfl | hd
      · exact hb
      · exact hw d hd
theorem splitB_listC (c : UInt8) : ∀ (k : Nat) (s : ByteArray), Lib.countB s ⟨#[c]⟩ = k → (Lib.splitB ⟨#[c]⟩ 0 k s).map (fun b => b.data.toList) = splitC c s.data.toList
  | 0, s, h => by
    have hc : s.data.toList.count c = 0 := by rw [← Lib.count_one]; exact h
    rw [Lib.splitB_zero, splitC_word (fun b hb hb2 => by subst hb2; exact List.count_eq_zero.1 hc hb)]
    rfl
  | k + 1, s, h => by
    have hc : s.data.toList.count c = k + 1 := by rw [← Lib.count_one]; exact h
    obtain ⟨w, r, hl, hw⟩ := first_c (List.count_pos_iff.1 (by omega : 0 < s.data.toList.count c))
    have hi : Lib.indexB s ⟨#[c]⟩ = w.length := by
      show Lib.index s.data.toList [c] = _
      rw [hl, index_appC hw]
    have hsz : s.size = w.length + (r.length + 1) := by rw [Lib.size_eq, hl]; simp
    have hrest : (s.extract (w.length + 1) s.size).data.toList = r := by
      rw [ByteArray.data_extract, Array.toList_extract, List.extract_eq_take_drop, hl, hsz]
      simp
      exact List.take_of_length_le (by omega)
    have hfst : (s.extract 0 w.length).data.toList = w := by
      rw [ByteArray.data_extract, Array.toList_extract, List.extract_eq_take_drop, hl]
      simp
    have hcr : Lib.countB (s.extract (w.length + 1) s.size) ⟨#[c]⟩ = k := by
      show Lib.count (s.extract (w.length + 1) s.size).data.toList [c] = k
      rw [hrest, Lib.count_one]
      rw [hl, List.count_append, List.count_eq_zero.2 (fun hm => hw c hm rfl), List.count_cons_self] at hc
      omega
    rw [Lib.splitB, if_neg (by rw [hi]; simp), hi, hl, splitC_app hw, List.map_cons]
    simp only [Int.toNat_natCast, Nat.add_zero]
    rw [hfst]
    have := splitB_listC c k _ hcr
    rw [hrest] at this
    rw [← this]
    rfl
theorem no_c {c : UInt8} {l : List UInt8} {f i : Nat} (h : ∀ j, f ≤ j → j < i → l[j]? ≠ some c) : ∀ b ∈ (l.drop f).take (i - f), b ≠ c := by
  intro b hb he
  subst he
  obtain ⟨j, hj⟩ := List.mem_iff_getElem?.1 hb
  rw [List.getElem?_take] at hj
  split at hj
  · rw [List.getElem?_drop] at hj
    exact h (f + j) (by omega) (by omega) hj
  · cases hj
theorem drop_splitC {c : UInt8} {l : List UInt8} {f i : Nat} (hfi : f ≤ i) (hi : l[i]? = some c) (h : ∀ j, f ≤ j → j < i → l[j]? ≠ some c) :
    splitC c (l.drop f) = ((l.drop f).take (i - f)) :: splitC c (l.drop (i + 1)) := by
  obtain ⟨hlt, hg⟩ := List.getElem?_eq_some_iff.1 hi
  have e1 : l.drop i = c :: l.drop (i + 1) := by rw [List.drop_eq_getElem_cons hlt, hg]
  have e2 : l.drop f = (l.drop f).take (i - f) ++ c :: l.drop (i + 1) := by
    rw [← e1, show l.drop i = (l.drop f).drop (i - f) by rw [List.drop_drop]; congr 1; omega, List.take_append_drop]
  rw [e2]
  have := splitC_app (r := l.drop (i + 1)) (no_c h)
  rw [this, ← e2]
theorem drop_lastC {c : UInt8} {l : List UInt8} {f : Nat} (h : ∀ j, f ≤ j → j < l.length → l[j]? ≠ some c) : splitC c (l.drop f) = [(l.drop f).take (l.length - f)] := by
  have e : (l.drop f).take (l.length - f) = l.drop f := List.take_of_length_le (by simp)
  rw [e]
  have := splitC_word (no_c h)
  rw [e] at this
  exact this
set_option maxRecDepth 100000 in
set_option maxHeartbeats 4000000 in
theorem spec_l01SplitC_c (c : UInt8) (s : ByteArray) (w : World) (hs : s.size ≤ 1048576) :
    Calls Tryd.prog 13 #[.string s, .int .u8 (c.toNat : Int)] w fun e w' => ∃ ws v F, e = .returned v ∧ ws.map (fun b : ByteArray => b.data.toList) = splitC c s.data.toList ∧ (strs 9).rep true w' ws [v] F ∧ Fresh w.heap.size F ∧ Below w.heap.size w w' := by
  go_enter Tryd.func13, Tryd.ntmps13
  go_wp2_with fail
  go_loopw [5, 6, 7] (fun ov fv iv wr => ∃ (f i : Nat) (ws : List ByteArray) (u : Value) (F : List Nat), f ≤ i ∧ i ≤ s.size ∧ fv = .int .i64 f ∧ iv = .int .i64 i ∧ u = ov ∧ Hid (splitC c s.data.toList = ws.map (fun b : ByteArray => b.data.toList) ++ splitC c (s.data.toList.drop f)) ∧ Hid (∀ j, f ≤ j → j < i → s.data.toList[j]? ≠ some c) ∧ Hid (ws.length ≤ i) ∧ (strs 9).rep true wr ws [u] F ∧ Fresh w.heap.size F ∧ Below w.heap.size w wr) (fun _ _ iv _ => s.size - (intOf iv).toNat)
  case atStart => exact ⟨0, 0, [], _, [w.heap.size], Nat.le_refl _, Nat.zero_le _, rfl, rfl, rfl, rfl, (by intro j h1 h2; omega), Nat.le_refl _, slice_of_row (xs := []) (Row.new w _ _) ⟨rfl, rfl⟩ (by simp [maxLen]), ⟨by simp, by simp⟩, (Below.refl _ _).alloc (Nat.le_refl _) _⟩
  case round =>
    obtain ⟨f, i, ws, u, F, hfi, hi, rfl, rfl, rfl, hsp, hno, hwl, hrep, hfr, hb⟩ := hrel
    have hbs := hb.size
    have HREP := Lib.hid hrep
    obtain ⟨U, uc, rfl⟩ := slice_len hrep
    clear hrep
    have i3 : (0 : Int) ≤ (i : Int) := by omega
    have i4 : (0 : Int) ≤ (f : Int) := by omega
    have i5 : (f : Int) ≤ (i : Int) := by omega
    have HW := hwl
    by_cases hlt : i < s.size
    · have i1 : (i : Int) < (s.size : Int) := by omega
      have i2 : IntKind.i64.wrap ((i : Int) + 1) = (i : Int) + 1 := IntWalk.i64_in _ (by omega)
      have hat := byte_at hlt
      by_cases hc : s[i] = c
      · have g1 : ((s[i].toNat : Int) == (c.toNat : Int)) = true := by rw [hc]; simp
        rw [hc] at hat
        have HS := Lib.hid (drop_splitC hfi hat hno.out)
        have hpz : (s.extract f i).size ≤ 1048576 := by rw [← ba_size, extract_list]; simp; have := ba_size s; omega
        clear hc hat
        go_wp2_with (at_builtin; go_loud (refine wpList_append_repX (T := str) (e := 9) (ys := [s.extract f i]) (ec := [.string (s.extract f i)]) rfl (.tmp 20) (.tmp 25) rfl Tryd.underlying36 infoSt rfl (by decide) rfl (HREP.out.alloc _) rfl (repL_strs _ (by intro p hp; simp at hp; subst hp; unfold maxLen; omega)) (cellsAt_new _ _ _) trivial (by rw [List.append_nil]; exact hfr.1) (by have := HW.out; simp only [List.length_singleton, maxLen]; omega) (by have := HW.out; simp only [List.length_singleton]; omega) ?_); intro v2 w4 F2 r2 o2 q2 x2)
        go_roundw
        case rel =>
          refine ⟨i + 1, i + 1, ws ++ [s.extract f i], v2, F2, Nat.le_refl _, by omega, by go_num, by go_num, rfl, ?_, (by intro j h1 h2; omega), (by show _ ≤ _; have := HW.out; simp; omega), r2, q2 _ (by rw [List.append_nil]; exact hfr) (by simp; omega), (hb.alloc hbs _).trans (o2.below (by simp; omega) hfr.2)⟩
          show _ = _
          rw [hsp.out, HS.out, List.map_append, List.append_assoc]
          simp only [List.map_cons, List.map_nil, extract_list, List.singleton_append]
        case measure => simp [intOf]; omega
      · have g1 : ((s[i].toNat : Int) == (c.toNat : Int)) = false := by
          rw [beq_eq_false_iff_ne]; intro h; apply hc; apply UInt8.toNat_inj.1; omega
        have HN : Hid (∀ j, f ≤ j → j < i + 1 → s.data.toList[j]? ≠ some c) := by
          intro j h1 h2
          by_cases hj : j = i
          · subst hj; rw [hat]; intro h; exact hc (Option.some.inj h)
          · exact hno.out j h1 (by omega)
        clear hc hat
        go_wp2_with fail
        go_roundw
        case rel => exact ⟨f, i + 1, ws, _, F, by omega, by omega, rfl, by go_num, rfl, hsp, HN, (by show _ ≤ _; have := HW.out; omega), HREP.out, hfr, hb⟩
        case measure => simp [intOf]; omega
    · obtain rfl : i = s.size := by omega
      have HS := Lib.hid (drop_lastC (l := s.data.toList) (f := f) (by rw [ba_size]; exact hno.out))
      have hpz : (s.extract f s.size).size ≤ 1048576 := by rw [← ba_size, extract_list]; simp; have := ba_size s; omega
      go_wp2_with (at_builtin; go_loud (refine wpList_append_repX (T := str) (e := 9) (ys := [s.extract f s.size]) (ec := [.string (s.extract f s.size)]) rfl (.tmp 29) (.tmp 33) rfl Tryd.underlying36 infoSt rfl (by decide) rfl (HREP.out.alloc _) rfl (repL_strs _ (by intro p hp; simp at hp; subst hp; unfold maxLen; omega)) (cellsAt_new _ _ _) trivial (by rw [List.append_nil]; exact hfr.1) (by have := HW.out; simp only [List.length_singleton, maxLen]; omega) (by have := HW.out; simp only [List.length_singleton]; omega) ?_); intro v2 w4 F2 r2 o2 q2 x2)
      go_ret
      refine ⟨ws ++ [s.extract f s.size], v2, F2, rfl, ?_, r2, q2 _ (by rw [List.append_nil]; exact hfr) (by simp; omega), (hb.alloc hbs _).trans (o2.below (by simp; omega) hfr.2)⟩
      rw [hsp.out, HS.out, List.map_append, ba_size]
      simp only [List.map_cons, List.map_nil, extract_list]

/-- The library's one variable that splitting reads holds some int. -/
structure MaxE (w : World) : Prop where
  max : ∃ m, w.cell? ⟨0, 0, none⟩ = some (.int .i64 m)
theorem MaxE.below {w w' : World} (h : MaxE w) (hb : Below w.heap.size w w') : MaxE w' := by
  obtain ⟨m, hm⟩ := h.max
  exact ⟨m, (hb.cell (World.block_lt_of_cell? w _ hm)).trans hm⟩
set_option maxHeartbeats 400000 in
theorem impl_wordsOf_m (s : ByteArray) (w : World) (hs : s.size ≤ 1048576) (hE : MaxE w) :
    Calls Tryd.prog 16 #[.string s] w fun e w' => ∃ ws v, e = .returned v ∧ ws.map (fun b : ByteArray => b.data.toList) = splitC 32 s.data.toList ∧ (strs 9).rep true w' ws [v] [w.heap.size] ∧ Below w.heap.size w w' := by
  obtain ⟨m, hm⟩ := hE.max
  have C := Lib.hid (strings_Split s ⟨#[32]⟩ m w (by omega) hm (by decide))
  have hl := Lib.splitB_all ⟨#[32]⟩ (by decide) 0 _ s rfl
  have hm := splitB_listC 32 _ s rfl
  have hz := (splitC_le (c := 32) s.data.toList).1
  have hz2 := (splitC_le (c := 32) s.data.toList).2
  rw [← hm, ba_size] at hz hz2
  rw [List.length_map] at hz2
  generalize Lib.splitB ⟨#[32]⟩ 0 (Lib.countB s ⟨#[32]⟩) s = ws at C hl hm hz hz2
  generalize Lib.countB s ⟨#[32]⟩ = k at C hl
  have hrep : (strs 9).rep true (w.alloc (.cells (ws.map Value.string).toArray 9)) ws [.slice (some ⟨w.heap.size, 0, none⟩) ws.length ws.length] [w.heap.size] :=
    slice_of_row (Row.new w _ _) (repL_strs ws (fun p hp => by have := hz p.data.toList (List.mem_map_of_mem hp); rw [ba_size] at this; unfold maxLen; omega)) (by unfold maxLen; omega)
  rw [hl] at hrep
  go_enter Tryd.func16, Tryd.ntmps16
  go_wp2_with fail
  refine C.out.mono ?_
  rintro e w1 ⟨rfl, rfl⟩
  go_wp2_with fail
  go_ret
  exact ⟨ws, _, rfl, hm, hrep, (Below.refl _ _).alloc (Nat.le_refl _) _⟩
set_option maxHeartbeats 1000000 in
theorem impl_linesOf_c (s : ByteArray) (w : World) (hs : s.size ≤ 1048576) (hE : MaxE w) :
    Calls Tryd.prog 15 #[.string s] w fun e w' => ∃ v F, e = .returned (.tuple #[v, .bool (endB s.data.toList)]) ∧ (strs 9).rep true w' (lns s) [v] F ∧ Fresh w.heap.size F ∧ Below w.heap.size w w' := by
  obtain ⟨m, hm⟩ := hE.max
  by_cases h0 : s = .empty
  · subst h0
    rw [show endB (ByteArray.empty).data.toList = true from rfl, lns_nil]
    go_enter Tryd.func15, Tryd.ntmps15
    go_wp2_with fail
    go_ret2
    exact ⟨_, [], rfl, slice_nil _ _ _ _, Fresh.nil _, Below.refl _ _⟩
  have g0 : s.toList.isEmpty = false := by
    have := str_eq s .empty
    rw [show ByteArray.empty.toList = [] from by simp] at this
    rw [← List.beq_nil_eq, this]; simp [h0]
  have CH := Lib.hid (strings_HasSuffix s ⟨#[10]⟩ w (by omega))
  rw [show (⟨#[10]⟩ : ByteArray).data.toList = [10] from rfl] at CH
  cases hx : Lib.hasSuffix s.data.toList [10]
  · rw [hx] at CH
    have hne := not_end (l := s.data.toList) (fun h => h0 (by rw [← baOf_of s, h]; rfl)) hx
    rw [show lns s = [] by rw [lns, hne]; rfl, hne]
    clear hx hne
    go_enter Tryd.func15, Tryd.ntmps15
    go_wp2_with fail
    refine CH.out.mono ?_
    rintro e w1 ⟨rfl, rfl⟩
    go_wp2_with fail
    go_ret2
    exact ⟨_, [], rfl, slice_nil _ _ _ _, Fresh.nil _, Below.refl _ _⟩
  · rw [hx] at CH
    obtain ⟨r, hr⟩ := end_suffix hx
    have CT := Lib.hid (strings_TrimSuffix s ⟨#[10]⟩ w (by omega))
    rw [show (⟨#[10]⟩ : ByteArray).data.toList = [10] from rfl] at CT
    have ht : Lib.trimSuffix s.data.toList [10] = r := by
      rw [Lib.trimSuffix, if_pos hx, hr]; simp
    rw [ht] at CT
    obtain ⟨t, htt⟩ : ∃ t : ByteArray, t = ⟨r.toArray⟩ := ⟨_, rfl⟩
    rw [← htt] at CT
    have htr : t.data.toList = r := by rw [htt]
    have hts : t.size ≤ 1048576 := by
      rw [htt]
      have h1 := toList_size s
      rw [hr] at h1
      simp only [List.length_append, List.length_cons, List.length_nil] at h1
      show r.length ≤ _
      omega
    have C := Lib.hid (fun w' (q : w'.cell? ⟨0, 0, none⟩ = some (.int .i64 m)) => strings_Split t ⟨#[10]⟩ m w' (by omega) q (by decide))
    have hl := Lib.splitB_all ⟨#[10]⟩ (by decide) 0 _ t rfl
    have hml := of_bytes (splitB_listC 10 _ t rfl)
    have hz := (splitC_le (c := 10) t.data.toList)
    have hn : (lns s) = (splitC 10 t.data.toList).map baOf := by rw [lns_app hr, htr]
    rw [hn, show endB s.data.toList = true by rw [hr]; exact endB_app r]
    rw [← toList_size] at hz
    rw [← hml]
    have hz1 : ∀ p ∈ Lib.splitB ⟨#[10]⟩ 0 (Lib.countB t ⟨#[10]⟩) t, p.size ≤ 1048576 := by
      intro p hp
      rw [hml] at hp
      obtain ⟨x, hx, rfl⟩ := List.mem_map.1 hp
      have := hz.1 x hx
      rw [baOf_size]; omega
    have hz2 : (Lib.splitB ⟨#[10]⟩ 0 (Lib.countB t ⟨#[10]⟩) t).length ≤ 1048577 := by rw [hml, List.length_map]; omega
    clear hml hn htr htt ht hr hz hx h0
    generalize Lib.splitB ⟨#[10]⟩ 0 (Lib.countB t ⟨#[10]⟩) t = ws at C hl hz1 hz2
    generalize Lib.countB t ⟨#[10]⟩ = k at C hl
    have hrep : (strs 9).rep true (w.alloc (.cells (ws.map Value.string).toArray 9)) ws [.slice (some ⟨w.heap.size, 0, none⟩) ws.length ws.length] [w.heap.size] :=
      slice_of_row (Row.new w _ _) (repL_strs ws (fun p hp => by have := hz1 p hp; unfold maxLen; omega)) (by unfold maxLen; omega)
    rw [hl] at hrep
    have HM := Lib.hid hm
    clear hm
    go_enter Tryd.func15, Tryd.ntmps15
    go_wp2_with fail
    refine CH.out.mono ?_
    rintro e w1 ⟨rfl, rfl⟩
    go_wp2_with fail
    refine CT.out.mono ?_
    rintro e w2 ⟨rfl, rfl⟩
    go_wp2_with fail
    refine (C.out _ HM.out).mono ?_
    rintro e w3 ⟨rfl, rfl⟩
    go_wp2_with fail
    go_ret2
    exact ⟨_, _, rfl, hrep, ⟨by simp, by simp⟩, (Below.refl _ _).alloc (Nat.le_refl _) _⟩
end Go.Proofs.YtahoopmiipmgpaaDoor
