/- slices.ContainsFunc over strings. Conditions: none. -/
import Derived.Test.YtmopioaojdlnkaaDoorStrSp
import Derived.Laws.IdiomStrings
import Derived.Test.YtmopioaojdlnkaaDoorSlInst2p
import Derived.Test.YtmopioaojdlnkaaDoorPgMath2p
namespace Go.Proofs.YtmopioaojdlnkaaDoor
open Go Go.RowKit
theorem ret_boolF {a b : Bool} (h : a = b) : Ending.returned (.bool a) = .returned (.bool b) := by rw [h]
def FoundAt (b : Bool) (w : World) (e : Ending) (w' : World) : Prop := ∃ r : Int, e = .returned (.int .i64 r) ∧ (decide (0 ≤ r)) = b ∧ Below w.heap.size w w'
set_option maxRecDepth 100000 in
set_option maxHeartbeats 400000 in
theorem IndexFunc_str {o : Bool} {e : TypeId} {xs : List ByteArray} {v : Value} {F : List Nat} (K : FuncId) (p : ByteArray → Bool) (w : World) (h : (strs e).rep o w xs [v] F) (hx : xs.length ≤ 1048576)
 (hK : ∀ args w, (callFunc K args).run Tryd.prog w = .ok (.enter K args) w) (hf : ∀ s ∈ xs, ∀ w : World, Calls Tryd.prog K #[.string s] w fun e w' => e = .returned (.bool (p s)) ∧ Below w.heap.size w w') :
 Calls Tryd.prog 82 #[v, .func (.func K) #[] #[]] w (FoundAt (xs.any p) w) := by
 obtain ⟨A, c, rfl, hc1, hc2, hr⟩ := strs_open h
 clear h
 have HF := Lib.hid hf
 clear hf
 go_enter Tryd.func82, Tryd.ntmps82
 go_wp2_with fail
 go_loopw [8] (fun i wr => ∃ k : Nat, k ≤ xs.length ∧ i = .int .i64 k ∧ Hid ((xs.take k).any p = false) ∧ Below w.heap.size w wr) (fun i _ => xs.length - (intOf i).toNat)
 case atStart => exact ⟨0, Nat.zero_le _, rfl, rfl, Below.refl _ _⟩
 case round =>
  obtain ⟨k, hk, rfl, hno, hb⟩ := hrel
  have hbs := hb.size
  by_cases hlt : k < xs.length
  · obtain ⟨b, off, rfl, hbb, _, h0, _⟩ := hr k hlt
    rw [← hb.cell (p := ⟨b, _, none⟩) hbb] at h0
    clear hr
    go_wp2_with fail
    refine (HF.out xs[k] (List.getElem_mem hlt) _).mono ?_
    rintro e w1 ⟨rfl, hb1⟩
    cases hp : p xs[k]
    · have HP := Lib.hid hp
      clear hp
      go_wp2_with fail
      go_roundw
      case rel => exact ⟨k + 1, by omega, by go_num, (by show _ = _; rw [List.take_succ_eq_append_getElem hlt, List.any_append, hno.out]; simp [HP.out]), hb.trans (hb1.mono hbs)⟩
      case measure => simp [intOf]; omega
    · have HP := Lib.hid hp
      clear hp
      go_wp2_with fail
      go_ret
      refine ⟨_, rfl, ?_, hb.trans (hb1.mono hbs)⟩
      have : xs.any p = true := List.any_eq_true.2 ⟨xs[k], List.getElem_mem hlt, HP.out⟩
      rw [this]; simp
  · obtain rfl : k = xs.length := by omega
    go_wp2_with fail
    go_ret
    refine ⟨_, rfl, ?_, hb⟩
    have := hno.out
    rw [List.take_length] at this
    rw [this]; rfl
set_option maxRecDepth 100000 in
set_option maxHeartbeats 400000 in
theorem ContainsFunc_str {o : Bool} {e : TypeId} {xs : List ByteArray} {v : Value} {F : List Nat} (K : FuncId) (p : ByteArray → Bool) (w : World) (h : (strs e).rep o w xs [v] F) (hx : xs.length ≤ 1048576)
 (hK : ∀ args w, (callFunc K args).run Tryd.prog w = .ok (.enter K args) w) (hf : ∀ s ∈ xs, ∀ w : World, Calls Tryd.prog K #[.string s] w fun e w' => e = .returned (.bool (p s)) ∧ Below w.heap.size w w') :
 Calls Tryd.prog 67 #[v, .func (.func K) #[] #[]] w fun e w' => e = .returned (.bool (xs.any p)) ∧ Below w.heap.size w w' := by
 have C := IndexFunc_str K p w h hx hK hf
 have HC := Lib.hid C
 clear C hf hK
 go_enter Tryd.func67, Tryd.ntmps67
 go_wp2_with fail
 refine HC.out.mono ?_
 rintro e w1 ⟨r, rfl, hr, hb⟩
 go_wp2_with fail
 all_goals go_ret
 all_goals first | exact ⟨ret_boolF hr, hb⟩ | exact ⟨rfl, hb⟩
theorem bytes_of_string {P : Program} {src dst e : TypeId} (s : ByteArray) (w : World) (hs : P.underlying src = some .string) (hd : P.underlying dst = some (.slice e)) (he : P.underlying e = some (.int .u8)) (hm : s.size ≤ 9223372036854775807) :
 ∃ c w1, (convert src dst (.string s)).run P w = .ok (.slice (some ⟨w.heap.size, 0, none⟩) s.size c) w1 ∧ Below w.heap.size w w1 ∧ s.size ≤ c ∧ c ≤ maxLen ∧
  ∀ k (hk : k < s.size), w1.cell? ⟨w.heap.size, k, none⟩ = some (.int .u8 (s[k].toNat : Int)) := by
 refine ⟨_, _, run_bytes_of_string w src dst e s hs hd he, (Below.refl _ _).drew.alloc (Nat.le_refl _) _, grownCap_ge _ _ _ _, grownCap_le_maxLen _ _ _ _ (by unfold maxLen; omega), fun k hk => ?_⟩
 have h : (w.drew.alloc (.cells (bytesRow s (grownCap w s.size 0 e)) e ((bytesRow s (grownCap w s.size 0 e)).size, (bytesRow s (grownCap w s.size 0 e)).size + 1))).heap[w.heap.size]? = some (.cells (bytesRow s (grownCap w s.size 0 e)) e ((bytesRow s (grownCap w s.size 0 e)).size, (bytesRow s (grownCap w s.size 0 e)).size + 1)) := by
  show (w.heap.push _)[w.heap.size]? = _
  simp
 simp only [World.cell?, h]
 have hk' : k < (s.data.map (fun b => Value.int .u8 b.toNat)).size := by simpa using hk
 simp only [bytesRow]
 rw [Array.getElem?_append_left hk', Array.getElem?_eq_getElem hk']
 simp
 rfl
theorem all_take {p : UInt8 → Bool} {s : ByteArray} {k : Nat} (hk : k < s.size) : (s.data.toList.take (k + 1)).all p = ((s.data.toList.take k).all p && p s[k]) := by
 rw [List.take_succ_eq_append_getElem (by simpa using hk), List.all_append]
 simp
 rfl
theorem all_stop {p : UInt8 → Bool} {s : ByteArray} {k : Nat} (hk : k < s.size) (h : p s[k] = false) : s.data.toList.all p = false := by
 rw [List.all_eq_false]
 exact ⟨s[k], by show s.data[k] ∈ _; simp, by simp [h]⟩
theorem all_whole {p : UInt8 → Bool} {s : ByteArray} (h : (s.data.toList.take s.size).all p = true) : s.data.toList.all p = true := by
 rwa [List.take_of_length_le (by simp)] at h
theorem letterB_iff (c : UInt8) : letterB c = true ↔ 97 ≤ (c.toNat : Int) ∧ (c.toNat : Int) ≤ 122 := by unfold letterB; simp; omega
theorem inR_iff (n a b : Int) : inRP n a b = true ↔ a ≤ n ∧ n ≤ b := by unfold inRP; simp
theorem impl_isLetter_c (c : UInt8) (w : World) : Calls Tryd.prog 69 #[.int .u8 (c.toNat : Int)] w fun e w' => e = .returned (.bool (letterB c)) ∧ w = w' := by
 go_enter Tryd.func69, Tryd.ntmps69
 go_wp2_with fail
 all_goals go_ret
 all_goals refine ⟨ret_boolF ?_, rfl⟩
 all_goals rw [Bool.eq_iff_iff, letterB_iff]; simp; try omega
theorem spec_l01Small_c (c : UInt8) (w : World) : Calls Tryd.prog 80 #[.int .u8 (c.toNat : Int)] w fun e w' => e = .returned (.bool (letterB c)) ∧ w = w' := by
 go_enter Tryd.func80, Tryd.ntmps80
 go_wp2_with fail
 all_goals go_ret
 all_goals refine ⟨ret_boolF ?_, rfl⟩
 all_goals rw [Bool.eq_iff_iff, letterB_iff]; simp; try omega
theorem impl_within_c (n a b : Int) (w : World) : Calls Tryd.prog 43 #[.int .i64 n, .int .i64 a, .int .i64 b] w fun e w' => e = .returned (.bool (inRP n a b)) ∧ w = w' := by
 go_enter Tryd.func43, Tryd.ntmps43
 go_wp2_with fail
 all_goals go_ret
 all_goals refine ⟨ret_boolF ?_, rfl⟩
 all_goals rw [Bool.eq_iff_iff, inR_iff]; simp; try omega
theorem spec_l00In_c (n a b : Int) (w : World) : Calls Tryd.prog 61 #[.int .i64 n, .int .i64 a, .int .i64 b] w fun e w' => e = .returned (.bool (inRP n a b)) ∧ w = w' := by
 go_enter Tryd.func61, Tryd.ntmps61
 go_wp2_with fail
 all_goals go_ret
 all_goals refine ⟨ret_boolF ?_, rfl⟩
 all_goals rw [Bool.eq_iff_iff, inR_iff]; simp; try omega
theorem isWordB_of {s : ByteArray} (h : s.data.toList.all letterB = true) : isWordB s = (decide (1 ≤ s.size) && decide (s.size ≤ 10)) := by simp [isWordB, h]
theorem isWordB_no {s : ByteArray} (h : s.data.toList.all letterB = false) : isWordB s = false := by simp [isWordB, h]
set_option maxRecDepth 100000 in
set_option maxHeartbeats 400000 in
theorem impl_IsWord_c (s : ByteArray) (hs : s.size ≤ 1048576) (w : World) : Calls Tryd.prog 44 #[.string s] w fun e w' => e = .returned (.bool (isWordB s)) ∧ Below w.heap.size w w' := by
 obtain ⟨c, w1, hcv, hb1, hc1, hc2, hcell⟩ := bytes_of_string (P := Tryd.prog) (src := 9) (dst := 22) (e := 5) s w Tryd.underlying9 Tryd.underlying22 Tryd.underlying5 (by omega)
 go_enter Tryd.func44, Tryd.ntmps44
 go_wp2_with fail
 go_loopw [8] (fun i wr => ∃ k : Nat, k ≤ s.size ∧ i = .int .i64 k ∧ Hid ((s.data.toList.take k).all letterB = true) ∧ wr = w1) (fun i _ => s.size - (intOf i).toNat)
 case atStart => exact ⟨0, Nat.zero_le _, rfl, rfl, rfl⟩
 case round =>
  obtain ⟨k, hk, rfl, hall, rfl⟩ := hrel
  by_cases hlt : k < s.size
  · have h0 := hcell k hlt
    have C := impl_isLetter_c s[k]
    have hst := all_take (p := letterB) hlt
    rw [hall.out, Bool.true_and] at hst
    clear hcell hcv
    cases hl : letterB s[k]
    · rw [hl] at C
      have HC := Lib.hid C
      have HN := Lib.hid (isWordB_no (all_stop hlt hl))
      clear C hl hst
      go_wp2_with (go_at_call 69; refine (HC.out _).mono ?_; rintro e w2 ⟨rfl, rfl⟩)
      go_ret
      exact ⟨ret_boolF HN.out.symm, hb1⟩
    · rw [hl] at C hst
      have HC := Lib.hid C
      have HS := Lib.hid hst
      clear C hl hst
      go_wp2_with (go_at_call 69; refine (HC.out _).mono ?_; rintro e w2 ⟨rfl, rfl⟩)
      go_roundw
      case rel => exact ⟨k + 1, by omega, by go_num, HS.out, by first | trivial | rfl⟩
      case measure => simp [intOf]; omega
  · obtain rfl : k = s.size := by omega
    have HW := Lib.hid (isWordB_of (all_whole hall.out))
    clear hcell hcv
    go_wp2_with fail
    all_goals go_ret
    all_goals refine ⟨ret_boolF ?_, hb1⟩
    all_goals rw [HW.out, Bool.eq_iff_iff]; simp; try omega
end Go.Proofs.YtmopioaojdlnkaaDoor
