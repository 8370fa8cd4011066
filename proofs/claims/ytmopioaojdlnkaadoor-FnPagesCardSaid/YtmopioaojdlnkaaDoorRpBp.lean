/- The lines of a text: what the program's linesOf and the reference's l01Split give at any byte. Conditions: the library's variables are laid. -/
import Derived.Test.YtmopioaojdlnkaaDoorRpAp
import Derived.Test.YtmopioaojdlnkaaDoorShelfStrp
namespace Go.Proofs.YtmopioaojdlnkaaDoor
open Go Go.RowKit
theorem ba_size (s : ByteArray) : s.data.toList.length = s.size := (Lib.size_eq s).symm
theorem index_appC {c : UInt8} {w r : List UInt8} (h : ∀ b ∈ w, b ≠ c) : Lib.index (w ++ c :: r) [c] = w.length := by
 rw [Lib.index_one]
 induction w with
 | nil => simp [Lib.indexByte]
 | cons b w ih =>
   have hb := h b (List.mem_cons_self ..)
   rw [List.cons_append, Lib.indexByte, ih (fun d hd => h d (List.mem_cons_of_mem _ hd))]
   simp only [beq_iff_eq, hb, if_false, List.length_cons]
   rw [if_neg (by omega)]; omega
theorem first_c {c : UInt8} : ∀ {l : List UInt8}, c ∈ l → ∃ w r, l = w ++ c :: r ∧ ∀ b ∈ w, b ≠ c
 | b :: l, h => by
   by_cases hb : b = c
   · subst hb; exact ⟨[], l, rfl, by simp⟩
   · obtain ⟨w, r, rfl, hw⟩ := first_c (l := l) (by rcases List.mem_cons.1 h with h | h; exact absurd h.symm hb; exact h)
     refine ⟨b :: w, r, rfl, ?_⟩
     intro d hd
     rcases List.mem_cons.1 hd with rfl | hd
     · exact hb
     · exact hw d hd
theorem splitB_listC (c : UInt8) : ∀ (k : Nat) (s : ByteArray), Lib.countB s ⟨#[c]⟩ = k → (Lib.splitB ⟨#[c]⟩ 0 k s).map (fun b => b.data.toList) = splitC c s.data.toList
 | 0, s, h => by
   have hc : s.data.toList.count c = 0 := by rw [← Lib.count_one]; exact h
   rw [Lib.splitB_zero, splitC_word (fun b hb hb2 => by subst hb2; exact List.count_eq_zero.1 hc hb)]
   rfl
 | k + 1, s, h => by
   have hc : s.data.toList.count c = k + 1 := by rw [← Lib.count_one]; exact h
   obtain ⟨w, r, hl, hw⟩ := first_c (List.count_pos_iff.1 (by omega : 0 < s.data.toList.count c))
   have hi : Lib.indexB s ⟨#[c]⟩ = w.length := by
    show Lib.index s.data.toList [c] = _
    rw [hl, index_appC hw]
   have hsz : s.size = w.length + (r.length + 1) := by rw [Lib.size_eq, hl]; simp
   have hrest : (s.extract (w.length + 1) s.size).data.toList = r := by
    rw [ByteArray.data_extract, Array.toList_extract, List.extract_eq_take_drop, hl, hsz]
    simp
    exact List.take_of_length_le (by omega)
   have hfst : (s.extract 0 w.length).data.toList = w := by
    rw [ByteArray.data_extract, Array.toList_extract, List.extract_eq_take_drop, hl]
    simp
   have hcr : Lib.countB (s.extract (w.length + 1) s.size) ⟨#[c]⟩ = k := by
    show Lib.count (s.extract (w.length + 1) s.size).data.toList [c] = k
    rw [hrest, Lib.count_one]
    rw [hl, List.count_append, List.count_eq_zero.2 (fun hm => hw c hm rfl), List.count_cons_self] at hc
    omega
   rw [Lib.splitB, if_neg (by rw [hi]; simp), hi, hl, splitC_app hw, List.map_cons]
   simp only [Int.toNat_natCast, Nat.add_zero]
   rw [hfst]
   have := splitB_listC c k _ hcr
   rw [hrest] at this
   rw [← this]
   rfl
structure MaxE (w : World) : Prop where
 max : ∃ m, w.cell? ⟨0, 0, none⟩ = some (.int .i64 m)
theorem MaxE.below {w w' : World} (h : MaxE w) (hb : Below w.heap.size w w') : MaxE w' := by
 obtain ⟨m, hm⟩ := h.max
 exact ⟨m, (hb.cell (World.block_lt_of_cell? w _ hm)).trans hm⟩
set_option maxHeartbeats 400000 in
theorem impl_wordsOf_m (s : ByteArray) (w : World) (hs : s.size ≤ 1048576) (hE : MaxE w) :
 Calls Tryd.prog 27 #[.string s] w fun e w' => ∃ ws v, e = .returned v ∧ ws.map (fun b : ByteArray => b.data.toList) = splitC 32 s.data.toList ∧ (strs 9).rep true w' ws [v] [w.heap.size] ∧ Below w.heap.size w w' := by
 obtain ⟨m, hm⟩ := hE.max
 have C := Lib.hid (strings_Split s ⟨#[32]⟩ m w (by omega) hm (by decide))
 have hl := Lib.splitB_all ⟨#[32]⟩ (by decide) 0 _ s rfl
 have hm := splitB_listC 32 _ s rfl
 have hz := (splitC_le (c := 32) s.data.toList).1
 have hz2 := (splitC_le (c := 32) s.data.toList).2
 rw [← hm, ba_size] at hz hz2
 rw [List.length_map] at hz2
 generalize Lib.splitB ⟨#[32]⟩ 0 (Lib.countB s ⟨#[32]⟩) s = ws at C hl hm hz hz2
 generalize Lib.countB s ⟨#[32]⟩ = k at C hl
 have hrep : (strs 9).rep true (w.alloc (.cells (ws.map Value.string).toArray 9)) ws [.slice (some ⟨w.heap.size, 0, none⟩) ws.length ws.length] [w.heap.size] :=
  slice_of_row (Row.new w _ _) (repL_strs ws (fun p hp => by have := hz p.data.toList (List.mem_map_of_mem hp); rw [ba_size] at this; unfold maxLen; omega)) (by unfold maxLen; omega)
 rw [hl] at hrep
 go_enter Tryd.func27, Tryd.ntmps27
 go_wp2_with fail
 refine C.out.mono ?_
 rintro e w1 ⟨rfl, rfl⟩
 go_wp2_with fail
 go_ret
 exact ⟨ws, _, rfl, hm, hrep, (Below.refl _ _).alloc (Nat.le_refl _) _⟩
set_option maxHeartbeats 1000000 in
theorem impl_linesOf_c (s : ByteArray) (w : World) (hs : s.size ≤ 1048576) (hE : MaxE w) :
 Calls Tryd.prog 26 #[.string s] w fun e w' => ∃ v F, e = .returned (.tuple #[v, .bool (endB s.data.toList)]) ∧ (strs 9).rep true w' (lns s) [v] F ∧ Fresh w.heap.size F ∧ Below w.heap.size w w' := by
 obtain ⟨m, hm⟩ := hE.max
 by_cases h0 : s = .empty
 · subst h0
   rw [show endB (ByteArray.empty).data.toList = true from rfl, lns_nil]
   go_enter Tryd.func26, Tryd.ntmps26
   go_wp2_with fail
   go_ret2
   exact ⟨_, [], rfl, slice_nil _ _ _ _, Fresh.nil _, Below.refl _ _⟩
 have g0 : s.toList.isEmpty = false := by
  have := str_eq s .empty
  rw [show ByteArray.empty.toList = [] from by simp] at this
  rw [← List.beq_nil_eq, this]; simp [h0]
 have CH := Lib.hid (strings_HasSuffix s ⟨#[10]⟩ w (by omega))
 rw [show (⟨#[10]⟩ : ByteArray).data.toList = [10] from rfl] at CH
 cases hx : Lib.hasSuffix s.data.toList [10]
 · rw [hx] at CH
   have hne := not_end (l := s.data.toList) (fun h => h0 (by rw [← baOf_of s, h]; rfl)) hx
   rw [show lns s = [] by rw [lns, hne]; rfl, hne]
   clear hx hne
   go_enter Tryd.func26, Tryd.ntmps26
   go_wp2_with fail
   refine CH.out.mono ?_
   rintro e w1 ⟨rfl, rfl⟩
   go_wp2_with fail
   go_ret2
   exact ⟨_, [], rfl, slice_nil _ _ _ _, Fresh.nil _, Below.refl _ _⟩
 · rw [hx] at CH
   obtain ⟨r, hr⟩ := end_suffix hx
   have CT := Lib.hid (strings_TrimSuffix s ⟨#[10]⟩ w (by omega))
   rw [show (⟨#[10]⟩ : ByteArray).data.toList = [10] from rfl] at CT
   have ht : Lib.trimSuffix s.data.toList [10] = r := by
    rw [Lib.trimSuffix, if_pos hx, hr]; simp
   rw [ht] at CT
   obtain ⟨t, htt⟩ : ∃ t : ByteArray, t = ⟨r.toArray⟩ := ⟨_, rfl⟩
   rw [← htt] at CT
   have htr : t.data.toList = r := by rw [htt]
   have hts : t.size ≤ 1048576 := by
    rw [htt]
    have h1 := toList_size s
    rw [hr] at h1
    simp only [List.length_append, List.length_cons, List.length_nil] at h1
    show r.length ≤ _
    omega
   have C := Lib.hid (fun w' (q : w'.cell? ⟨0, 0, none⟩ = some (.int .i64 m)) => strings_Split t ⟨#[10]⟩ m w' (by omega) q (by decide))
   have hl := Lib.splitB_all ⟨#[10]⟩ (by decide) 0 _ t rfl
   have hml := of_bytes (splitB_listC 10 _ t rfl)
   have hz := (splitC_le (c := 10) t.data.toList)
   have hn : (lns s) = (splitC 10 t.data.toList).map baOf := by rw [lns_app hr, htr]
   rw [hn, show endB s.data.toList = true by rw [hr]; exact endB_app r]
   rw [← toList_size] at hz
   rw [← hml]
   have hz1 : ∀ p ∈ Lib.splitB ⟨#[10]⟩ 0 (Lib.countB t ⟨#[10]⟩) t, p.size ≤ 1048576 := by
    intro p hp
    rw [hml] at hp
    obtain ⟨x, hx, rfl⟩ := List.mem_map.1 hp
    have := hz.1 x hx
    rw [baOf_size]; omega
   have hz2 : (Lib.splitB ⟨#[10]⟩ 0 (Lib.countB t ⟨#[10]⟩) t).length ≤ 1048577 := by rw [hml, List.length_map]; omega
   clear hml hn htr htt ht hr hz hx h0
   generalize Lib.splitB ⟨#[10]⟩ 0 (Lib.countB t ⟨#[10]⟩) t = ws at C hl hz1 hz2
   generalize Lib.countB t ⟨#[10]⟩ = k at C hl
   have hrep : (strs 9).rep true (w.alloc (.cells (ws.map Value.string).toArray 9)) ws [.slice (some ⟨w.heap.size, 0, none⟩) ws.length ws.length] [w.heap.size] :=
    slice_of_row (Row.new w _ _) (repL_strs ws (fun p hp => by have := hz1 p hp; unfold maxLen; omega)) (by unfold maxLen; omega)
   rw [hl] at hrep
   have HM := Lib.hid hm
   clear hm
   go_enter Tryd.func26, Tryd.ntmps26
   go_wp2_with fail
   refine CH.out.mono ?_
   rintro e w1 ⟨rfl, rfl⟩
   go_wp2_with fail
   refine CT.out.mono ?_
   rintro e w2 ⟨rfl, rfl⟩
   go_wp2_with fail
   refine (C.out _ HM.out).mono ?_
   rintro e w3 ⟨rfl, rfl⟩
   go_wp2_with fail
   go_ret2
   exact ⟨_, _, rfl, hrep, ⟨by simp, by simp⟩, (Below.refl _ _).alloc (Nat.le_refl _) _⟩
end Go.Proofs.YtmopioaojdlnkaaDoor
