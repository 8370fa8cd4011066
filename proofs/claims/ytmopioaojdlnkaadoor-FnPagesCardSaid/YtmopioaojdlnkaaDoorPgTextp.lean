/- Pages: the text of a page. Conditions: none. -/
import Derived.Test.YtmopioaojdlnkaaDoorPgMath3p
import Derived.Test.YtmopioaojdlnkaaDoorPgDo4p
namespace Go.Proofs.YtmopioaojdlnkaaDoor
open Go Go.RowKit
def joinB (xs : List ByteArray) : List UInt8 := Lib.join (xs.map (·.data.toList)) [32]
def lineT (l : PLine) : List UInt8 := joinB l ++ [10]
def textL (ls : List PLine) : List UInt8 := (ls.map lineT).flatten
def pageText (p : PPage) : ByteArray := if validB p then ⟨(textL p.lines).toArray⟩ else .empty
theorem joinB_succ {xs : List ByteArray} {k : Nat} (h : k < xs.length) : joinB (xs.take (k + 1)) = joinB (xs.take k) ++ ((if 0 < k then [32] else []) ++ xs[k].data.toList) := by
 cases xs with
 | nil => simp at h
 | cons x r =>
   cases k with
   | zero => simp [joinB, Lib.join, List.intercalate]
   | succ k =>
     simp only [List.length_cons] at h
     have e : (r.map (·.data.toList))[k]? = some ((x :: r)[k + 1].data.toList) := by simp; exact ⟨r[k]'(by omega), List.getElem?_eq_getElem (by omega), rfl⟩
     simp only [joinB, List.take_succ_cons, List.map_cons, Lib.join_cons, List.map_take, Nat.zero_lt_succ, if_true]
     rw [Lib.joinTail_take_succ _ _ k _ e]
     simp [List.append_assoc]
theorem joinB_len {xs : List ByteArray} {n : Nat} (hs : ∀ s ∈ xs, s.size ≤ n) : (joinB xs).length ≤ xs.length * (n + 1) := by
 have key : ∀ k, k ≤ xs.length → (joinB (xs.take k)).length ≤ k * (n + 1) := by
  intro k
  induction k with
  | zero => intro _; simp [joinB, Lib.join, List.intercalate]
  | succ k ih =>
    intro hk
    have h1 := ih (by omega)
    rw [joinB_succ (by omega)]
    have h2 := hs _ (List.getElem_mem (show k < xs.length by omega))
    have h3 : xs[k].data.toList.length = xs[k].size := Array.length_toList
    have h4 : (if 0 < k then ([32] : List UInt8) else []).length ≤ 1 := by split <;> simp
    simp only [List.length_append, h3]
    rw [Nat.succ_mul]
    omega
 have := key xs.length (Nat.le_refl _)
 rwa [List.take_length] at this
theorem bapp (a b : ByteArray) : (a ++ b).data.toList = a.data.toList ++ b.data.toList := by simp
theorem ret_str {a b : ByteArray} (h : a = b) : Ending.returned (.string a) = .returned (.string b) := by rw [h]
set_option maxRecDepth 100000 in
set_option maxHeartbeats 1000000 in
theorem spec_l27Join_c {o : Bool} {e : TypeId} {xs : List ByteArray} {v : Value} {F : List Nat} (w : World) (h : (strs e).rep o w xs [v] F) (hx : xs.length ≤ 1000) (hs : ∀ s ∈ xs, s.size ≤ 1000) :
 Calls Tryd.prog 54 #[v] w fun e w' => e = .returned (.string ⟨(joinB xs).toArray⟩) ∧ w' = w := by
 obtain ⟨A, c, rfl, hc1, hc2, hr⟩ := strs_open h
 clear h
 go_enter Tryd.func54, Tryd.ntmps54
 go_wp2_with fail
 go_loopw [3, 4] (fun t i wr => ∃ k : Nat, k ≤ xs.length ∧ i = .int .i64 k ∧ (∃ b : ByteArray, t = .string b ∧ Hid (b.data.toList = joinB (xs.take k))) ∧ wr = w) (fun _ i _ => xs.length - (intOf i).toNat)
 case atStart => exact ⟨0, Nat.zero_le _, rfl, ⟨_, rfl, by show _ = _; simp [joinB, Lib.join, List.intercalate]⟩, rfl⟩
 case round =>
  obtain ⟨k, hk, rfl, ⟨b, rfl, hb⟩, rfl⟩ := hrel
  by_cases hlt : k < xs.length
  · obtain ⟨b', off, rfl, hbb, _, h0, _⟩ := hr k hlt
    have hsz := hs _ (List.getElem_mem hlt)
    have hlen : b.size ≤ 2000000 := by
     have h1 := congrArg List.length hb.out
     have h2 := joinB_len (xs := xs.take k) (n := 1000) (fun s hs' => hs s (List.mem_of_mem_take hs'))
     have h3 : b.data.toList.length = b.size := Array.length_toList
     rw [List.length_take] at h2
     have h4 : min k xs.length * (1000 + 1) ≤ 1000 * 1001 := Nat.mul_le_mul_right _ (by omega)
     omega
    have hn := Lib.hid (joinB_succ hlt)
    clear hr
    by_cases h00 : k = 0
    · subst h00
      simp only [Nat.add_zero] at h0
      go_wp2_with fail
      go_roundw
      case rel => exact ⟨1, by omega, rfl, ⟨_, rfl, by show _ = _; rw [bapp, hb.out, hn.out]; simp⟩, trivial⟩
      case measure => simp [intOf]; omega
    · have hk0 : (0 : Int) < (k : Int) := by omega
      go_wp2_with fail
      go_roundw
      case rel => exact ⟨k + 1, by omega, by go_num, ⟨_, rfl, by show _ = _; rw [bapp, bapp, hb.out, hn.out]; simp [show 0 < k from by omega]⟩, trivial⟩
      case measure => simp [intOf]; omega
  · obtain rfl : k = xs.length := by omega
    have hb' := hb.out
    rw [List.take_length] at hb'
    go_wp2_with fail
    go_ret
    exact ⟨ret_str (by rw [← hb']), rfl⟩
theorem textL_succ {ls : List PLine} {k : Nat} (h : k < ls.length) : textL (ls.take (k + 1)) = textL (ls.take k) ++ (joinB ls[k] ++ [10]) := by
 rw [textL, textL, List.take_succ_eq_append_getElem h, List.map_append, List.flatten_append]
 simp only [List.map_cons, List.map_nil, List.flatten_cons, List.flatten_nil, List.append_nil, lineT]
theorem textL_len {ls : List PLine} (h : LinesOk ls) {k : Nat} (hk : k ≤ ls.length) : (textL (ls.take k)).length ≤ k * 200 := by
 induction k with
 | zero => simp [textL]
 | succ k ih =>
   have h1 := ih (by omega)
   have h2 := h.each _ (List.getElem_mem (show k < ls.length by omega))
   have h3 := joinB_len (xs := ls[k]'(by omega)) (n := 10) (fun s hs => (isWord_size (h.word _ (List.getElem_mem (show k < ls.length by omega)) s hs)).2)
   have h4 : (ls[k]'(by omega)).length * (10 + 1) ≤ 12 * 11 := Nat.mul_le_mul_right _ h2
   rw [textL_succ (by omega)]
   simp only [List.length_append, List.length_cons, List.length_nil]
   rw [Nat.succ_mul]
   omega
theorem toList_size (b : ByteArray) : b.size = b.data.toList.length := Array.length_toList.symm
set_option maxRecDepth 100000 in
set_option maxHeartbeats 1000000 in
theorem spec_l27Text_c {o : Bool} {e : TypeId} {ls : List PLine} {v : Value} {F : List Nat} (w : World) (h : (pLines e).rep o w ls [v] F) (hok : LinesOk ls) :
 Calls Tryd.prog 25 #[v] w fun e w' => e = .returned (.string ⟨(textL ls).toArray⟩) ∧ w' = w := by
 obtain ⟨A, c, rfl, hc1, hc2, hr⟩ := pLines_open h
 clear h
 have hx := hok.few
 go_enter Tryd.func25, Tryd.ntmps25
 go_wp2_with fail
 go_loopw [3, 4] (fun t i wr => ∃ k : Nat, k ≤ ls.length ∧ i = .int .i64 k ∧ (∃ b : ByteArray, t = .string b ∧ Hid (b.data.toList = textL (ls.take k))) ∧ wr = w) (fun _ i _ => ls.length - (intOf i).toNat)
 case atStart => exact ⟨0, Nat.zero_le _, rfl, ⟨_, rfl, by show _ = _; simp [textL]⟩, rfl⟩
 case round =>
  obtain ⟨k, hk, rfl, ⟨b, rfl, hb⟩, rfl⟩ := hrel
  by_cases hlt : k < ls.length
  · obtain ⟨b', off, u, Fk, rfl, hbb, _, hrk, _, h0⟩ := hr k hlt
    have hw := hok.each _ (List.getElem_mem hlt)
    have hs := hok.word _ (List.getElem_mem hlt)
    have C := Lib.hid (spec_l27Join_c wr hrk (by omega) (fun s hs' => by have := (isWord_size (hs s hs')).2; omega))
    have hlen : b.size ≤ 4000 := by
     have h2 := textL_len hok hk
     rw [toList_size, hb.out]
     omega
    have hj : (joinB ls[k]).length ≤ 200 := by
     have h3 := joinB_len (xs := ls[k]) (n := 10) (fun s hs' => (isWord_size (hs s hs')).2)
     have h4 : ls[k].length * (10 + 1) ≤ 12 * 11 := Nat.mul_le_mul_right _ hw
     omega
    have hsz : ByteArray.size ⟨(joinB ls[k]).toArray⟩ ≤ 200 := by rw [toList_size]; simpa using hj
    have hn := Lib.hid (textL_succ hlt)
    generalize hJ : (⟨(joinB ls[k]).toArray⟩ : ByteArray) = J at C hsz
    have HJ := Lib.hid (show J.data.toList = joinB ls[k] by rw [← hJ])
    obtain ⟨A2, c2, rfl⟩ := slice_len hrk
    clear hr hrk hs hJ
    go_wp2_with fail
    refine C.out.mono ?_
    rintro e w1 ⟨rfl, rfl⟩
    go_wp2_with fail
    go_roundw
    case rel => exact ⟨k + 1, by omega, by go_num, ⟨_, rfl, by show _ = _; rw [bapp, bapp, hb.out, hn.out, HJ.out]⟩, trivial⟩
    case measure => simp [intOf]; omega
  · obtain rfl : k = ls.length := by omega
    have hb' := hb.out
    rw [List.take_length] at hb'
    go_wp2_with fail
    go_ret
    exact ⟨ret_str (by rw [← hb']), rfl⟩
set_option maxHeartbeats 1000000 in
theorem spec_PageText_c {el es : TypeId} {o : Bool} {p : PPage} {v : Value} {F : List Nat} (w : World) (h : PageIs el es o w p v F) (hp : PLaw p) :
 Calls Tryd.prog 11 #[v] w fun e w' => e = .returned (.string (pageText p)) ∧ Below w.heap.size w w' := by
 obtain ⟨a, b, c, F1, F2, F3, rfl, rfl, h1, h2, h3⟩ := h
 have R := Row.at' w 27 [a, b, c] (n := w.heap.size) rfl
 have C := spec_l27Ok_c _ R (h1.alloc _) (h2.alloc _) (h3.alloc _) hp.s hp.b
 have H := Lib.hid C
 clear C
 obtain ⟨A1, k1, rfl⟩ := slice_len h1
 obtain ⟨A2, k2, rfl⟩ := slice_len h2
 obtain ⟨A3, k3, rfl⟩ := slice_len h3
 cases hv : validB p
 · have ht : pageText p = .empty := by simp [pageText, hv]
   rw [ht]
   clear ht
   go_enter Tryd.func11, Tryd.ntmps11
   go_wp2_with fail
   refine H.out.mono ?_
   rintro e w1 ⟨rfl, b1⟩
   go_wp2_with fail
   go_ret
   exact ⟨rfl, al1m b1⟩
 · obtain ⟨hok, -, -, -, -⟩ := validB_parts hv
   have ht : pageText p = ⟨(textL p.lines).toArray⟩ := by simp [pageText, hv]
   rw [ht]
   clear ht
   go_enter Tryd.func11, Tryd.ntmps11
   go_wp2_with fail
   refine H.out.mono ?_
   rintro e w1 ⟨rfl, b1⟩
   have R1 := R.later b1
   have q0 := R1.c0
   go_wp2_with fail
   refine (spec_l27Text_c _ ((h1.alloc _).below b1) hok).mono ?_
   rintro e w2 ⟨rfl, rfl⟩
   go_wp2_with fail
   go_ret
   exact ⟨rfl, al1m b1⟩
end Go.Proofs.YtmopioaojdlnkaaDoor
