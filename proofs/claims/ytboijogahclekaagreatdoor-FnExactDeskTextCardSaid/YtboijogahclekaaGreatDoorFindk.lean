/- slices.ContainsFunc over strings. Conditions: none. -/
import Derived.Test.YtboijogahclekaaGreatDoorStrSk
import Derived.Laws.IdiomStrings
import Derived.Test.YtboijogahclekaaGreatDoorSlInst2k
import Derived.Test.YtboijogahclekaaGreatDoorPgMathk
namespace Go.Proofs.YtboijogahclekaaGreatDoor
open Go Go.RowKit
theorem ret_boolF {a b : Bool} (h : a = b) : Ending.returned (.bool a) = .returned (.bool b) := by rw [h]
def FoundAt (b : Bool) (w : World) (e : Ending) (w' : World) : Prop := ∃ r : Int, e = .returned (.int .i64 r) ∧ (decide (0 ≤ r)) = b ∧ Below w.heap.size w w'
set_option maxRecDepth 100000 in
set_option maxHeartbeats 400000 in
theorem IndexFunc_str {o : Bool} {e : TypeId} {xs : List ByteArray} {v : Value} {F : List Nat} (K : FuncId) (p : ByteArray → Bool) (w : World) (h : (strs e).rep o w xs [v] F) (hx : xs.length ≤ 1048576)
 (hK : ∀ args w, (callFunc K args).run Tryz.prog w = .ok (.enter K args) w) (hf : ∀ s ∈ xs, ∀ w : World, Calls Tryz.prog K #[.string s] w fun e w' => e = .returned (.bool (p s)) ∧ Below w.heap.size w w') :
 Calls Tryz.prog 117 #[v, .func (.func K) #[] #[]] w (FoundAt (xs.any p) w) := by
 obtain ⟨A, c, rfl, hc1, hc2, hr⟩ := strs_open h
 clear h
 have HF := Lib.hid hf
 clear hf
 go_enter Tryz.func117, Tryz.ntmps117
 go_wp2_with fail
 go_loopw [8] (fun i wr => ∃ k : Nat, k ≤ xs.length ∧ i = .int .i64 k ∧ Hid ((xs.take k).any p = false) ∧ Below w.heap.size w wr) (fun i _ => xs.length - (intOf i).toNat)
 case atStart => exact ⟨0, Nat.zero_le _, rfl, rfl, Below.refl _ _⟩
 case round =>
  obtain ⟨k, hk, rfl, hno, hb⟩ := hrel
  have hbs := hb.size
  by_cases hlt : k < xs.length
  · obtain ⟨b, off, rfl, hbb, _, h0, _⟩ := hr k hlt
    rw [← hb.cell (p := ⟨b, _, none⟩) hbb] at h0
    clear hr
    go_wp2_with fail
    refine (HF.out xs[k] (List.getElem_mem hlt) _).mono ?_
    rintro e w1 ⟨rfl, hb1⟩
    cases hp : p xs[k]
    · have HP := Lib.hid hp
      clear hp
      go_wp2_with fail
      go_roundw
      case rel => exact ⟨k + 1, by omega, by go_num, (by show _ = _; rw [List.take_succ_eq_append_getElem hlt, List.any_append, hno.out]; simp [HP.out]), hb.trans (hb1.mono hbs)⟩
      case measure => simp [intOf]; omega
    · have HP := Lib.hid hp
      clear hp
      go_wp2_with fail
      go_ret
      refine ⟨_, rfl, ?_, hb.trans (hb1.mono hbs)⟩
      have : xs.any p = true := List.any_eq_true.2 ⟨xs[k], List.getElem_mem hlt, HP.out⟩
      rw [this]; simp
  · obtain rfl : k = xs.length := by omega
    go_wp2_with fail
    go_ret
    refine ⟨_, rfl, ?_, hb⟩
    have := hno.out
    rw [List.take_length] at this
    rw [this]; rfl
set_option maxRecDepth 100000 in
set_option maxHeartbeats 400000 in
theorem ContainsFunc_str {o : Bool} {e : TypeId} {xs : List ByteArray} {v : Value} {F : List Nat} (K : FuncId) (p : ByteArray → Bool) (w : World) (h : (strs e).rep o w xs [v] F) (hx : xs.length ≤ 1048576)
 (hK : ∀ args w, (callFunc K args).run Tryz.prog w = .ok (.enter K args) w) (hf : ∀ s ∈ xs, ∀ w : World, Calls Tryz.prog K #[.string s] w fun e w' => e = .returned (.bool (p s)) ∧ Below w.heap.size w w') :
 Calls Tryz.prog 77 #[v, .func (.func K) #[] #[]] w fun e w' => e = .returned (.bool (xs.any p)) ∧ Below w.heap.size w w' := by
 have C := IndexFunc_str K p w h hx hK hf
 have HC := Lib.hid C
 clear C hf hK
 go_enter Tryz.func77, Tryz.ntmps77
 go_wp2_with fail
 refine HC.out.mono ?_
 rintro e w1 ⟨r, rfl, hr, hb⟩
 go_wp2_with fail
 all_goals go_ret
 all_goals first | exact ⟨ret_boolF hr, hb⟩ | exact ⟨rfl, hb⟩
theorem bytes_of_string {P : Program} {src dst e : TypeId} (s : ByteArray) (w : World) (hs : P.underlying src = some .string) (hd : P.underlying dst = some (.slice e)) (he : P.underlying e = some (.int .u8)) (hm : s.size ≤ 9223372036854775807) :
 ∃ c w1, (convert src dst (.string s)).run P w = .ok (.slice (some ⟨w.heap.size, 0, none⟩) s.size c) w1 ∧ Below w.heap.size w w1 ∧ s.size ≤ c ∧ c ≤ maxLen ∧
  ∀ k (hk : k < s.size), w1.cell? ⟨w.heap.size, k, none⟩ = some (.int .u8 (s[k].toNat : Int)) := by
 refine ⟨_, _, run_bytes_of_string w src dst e s hs hd he, (Below.refl _ _).drew.alloc (Nat.le_refl _) _, grownCap_ge _ _ _ _, grownCap_le_maxLen _ _ _ _ (by unfold maxLen; omega), fun k hk => ?_⟩
 have h : (w.drew.alloc (.cells (bytesRow s (grownCap w s.size 0 e)) e ((bytesRow s (grownCap w s.size 0 e)).size, (bytesRow s (grownCap w s.size 0 e)).size + 1))).heap[w.heap.size]? = some (.cells (bytesRow s (grownCap w s.size 0 e)) e ((bytesRow s (grownCap w s.size 0 e)).size, (bytesRow s (grownCap w s.size 0 e)).size + 1)) := by
  show (w.heap.push _)[w.heap.size]? = _
  simp
 simp only [World.cell?, h]
 have hk' : k < (s.data.map (fun b => Value.int .u8 b.toNat)).size := by simpa using hk
 simp only [bytesRow]
 rw [Array.getElem?_append_left hk', Array.getElem?_eq_getElem hk']
 simp
 rfl
theorem all_take {p : UInt8 → Bool} {s : ByteArray} {k : Nat} (hk : k < s.size) : (s.data.toList.take (k + 1)).all p = ((s.data.toList.take k).all p && p s[k]) := by
 rw [List.take_succ_eq_append_getElem (by simpa using hk), List.all_append]
 simp
 rfl
theorem all_stop {p : UInt8 → Bool} {s : ByteArray} {k : Nat} (hk : k < s.size) (h : p s[k] = false) : s.data.toList.all p = false := by
 rw [List.all_eq_false]
 exact ⟨s[k], by show s.data[k] ∈ _; simp, by simp [h]⟩
theorem all_whole {p : UInt8 → Bool} {s : ByteArray} (h : (s.data.toList.take s.size).all p = true) : s.data.toList.all p = true := by
 rwa [List.take_of_length_le (by simp)] at h
theorem letterB_iff (c : UInt8) : letterB c = true ↔ 97 ≤ (c.toNat : Int) ∧ (c.toNat : Int) ≤ 122 := by unfold letterB; simp; omega
theorem inR_iff (n a b : Int) : inRP n a b = true ↔ a ≤ n ∧ n ≤ b := by unfold inRP; simp
theorem impl_isLetter_c (c : UInt8) (w : World) : Calls Tryz.prog 118 #[.int .u8 (c.toNat : Int)] w fun e w' => e = .returned (.bool (letterB c)) ∧ w = w' := by
 go_enter Tryz.func118, Tryz.ntmps118
 go_wp2_with fail
 all_goals go_ret
 all_goals refine ⟨ret_boolF ?_, rfl⟩
 all_goals rw [Bool.eq_iff_iff, letterB_iff]; simp; try omega
theorem spec_l01Small_c (c : UInt8) (w : World) : Calls Tryz.prog 138 #[.int .u8 (c.toNat : Int)] w fun e w' => e = .returned (.bool (letterB c)) ∧ w = w' := by
 go_enter Tryz.func138, Tryz.ntmps138
 go_wp2_with fail
 all_goals go_ret
 all_goals refine ⟨ret_boolF ?_, rfl⟩
 all_goals rw [Bool.eq_iff_iff, letterB_iff]; simp; try omega
theorem impl_within_c (n a b : Int) (w : World) : Calls Tryz.prog 72 #[.int .i64 n, .int .i64 a, .int .i64 b] w fun e w' => e = .returned (.bool (inRP n a b)) ∧ w = w' := by
 go_enter Tryz.func72, Tryz.ntmps72
 go_wp2_with fail
 all_goals go_ret
 all_goals refine ⟨ret_boolF ?_, rfl⟩
 all_goals rw [Bool.eq_iff_iff, inR_iff]; simp; try omega
theorem spec_l00In_c (n a b : Int) (w : World) : Calls Tryz.prog 55 #[.int .i64 n, .int .i64 a, .int .i64 b] w fun e w' => e = .returned (.bool (inRP n a b)) ∧ w = w' := by
 go_enter Tryz.func55, Tryz.ntmps55
 go_wp2_with fail
 all_goals go_ret
 all_goals refine ⟨ret_boolF ?_, rfl⟩
 all_goals rw [Bool.eq_iff_iff, inR_iff]; simp; try omega
theorem isWordB_of {s : ByteArray} (h : s.data.toList.all letterB = true) : isWordB s = (decide (1 ≤ s.size) && decide (s.size ≤ 10)) := by simp [isWordB, h]
theorem isWordB_no {s : ByteArray} (h : s.data.toList.all letterB = false) : isWordB s = false := by simp [isWordB, h]
set_option maxRecDepth 100000 in
set_option maxHeartbeats 400000 in
theorem impl_IsWord_c (s : ByteArray) (hs : s.size ≤ 1048576) (w : World) : Calls Tryz.prog 79 #[.string s] w fun e w' => e = .returned (.bool (isWordB s)) ∧ Below w.heap.size w w' := by
 obtain ⟨c, w1, hcv, hb1, hc1, hc2, hcell⟩ := bytes_of_string (P := Tryz.prog) (src := 9) (dst := 111) (e := 5) s w Tryz.underlying9 Tryz.underlying111 Tryz.underlying5 (by omega)
 go_enter Tryz.func79, Tryz.ntmps79
 go_wp2_with fail
 go_loopw [8] (fun i wr => ∃ k : Nat, k ≤ s.size ∧ i = .int .i64 k ∧ Hid ((s.data.toList.take k).all letterB = true) ∧ wr = w1) (fun i _ => s.size - (intOf i).toNat)
 case atStart => exact ⟨0, Nat.zero_le _, rfl, rfl, rfl⟩
 case round =>
  obtain ⟨k, hk, rfl, hall, rfl⟩ := hrel
  by_cases hlt : k < s.size
  · have h0 := hcell k hlt
    have C := impl_isLetter_c s[k]
    have hst := all_take (p := letterB) hlt
    rw [hall.out, Bool.true_and] at hst
    clear hcell hcv
    cases hl : letterB s[k]
    · rw [hl] at C
      have HC := Lib.hid C
      have HN := Lib.hid (isWordB_no (all_stop hlt hl))
      clear C hl hst
      go_wp2_with (go_at_call 118; refine (HC.out _).mono ?_; rintro e w2 ⟨rfl, rfl⟩)
      go_ret
      exact ⟨ret_boolF HN.out.symm, hb1⟩
    · rw [hl] at C hst
      have HC := Lib.hid C
      have HS := Lib.hid hst
      clear C hl hst
      go_wp2_with (go_at_call 118; refine (HC.out _).mono ?_; rintro e w2 ⟨rfl, rfl⟩)
      go_roundw
      case rel => exact ⟨k + 1, by omega, by go_num, HS.out, by first | trivial | rfl⟩
      case measure => simp [intOf]; omega
  · obtain rfl : k = s.size := by omega
    have HW := Lib.hid (isWordB_of (all_whole hall.out))
    clear hcell hcv
    go_wp2_with fail
    all_goals go_ret
    all_goals refine ⟨ret_boolF ?_, hb1⟩
    all_goals rw [HW.out, Bool.eq_iff_iff]; simp; try omega
set_option maxRecDepth 100000 in
set_option maxHeartbeats 400000 in
theorem spec_IsWord_c (s : ByteArray) (hs : s.size ≤ 1048576) (w : World) : Calls Tryz.prog 104 #[.string s] w fun e w' => e = .returned (.bool (isWordB s)) ∧ w = w' := by
 go_enter Tryz.func104, Tryz.ntmps104
 go_wp2_with fail
 go_loop [3] (fun i => ∃ k : Nat, k ≤ s.size ∧ i = .int .i64 k ∧ Hid ((s.data.toList.take k).all letterB = true)) (fun i => s.size - (intOf i).toNat)
 case atStart => exact ⟨0, Nat.zero_le _, rfl, rfl⟩
 case round =>
  obtain ⟨k, hk, rfl, hall⟩ := hrel
  by_cases hlt : k < s.size
  · have C := spec_l01Small_c s[k]
    have hst := all_take (p := letterB) hlt
    rw [hall.out, Bool.true_and] at hst
    cases hl : letterB s[k]
    · rw [hl] at C
      have HC := Lib.hid C
      have HN := Lib.hid (isWordB_no (all_stop hlt hl))
      clear C hl hst
      go_wp2_with (go_at_call 138; refine (HC.out _).mono ?_; rintro e w2 ⟨rfl, rfl⟩)
      go_ret
      exact ⟨ret_boolF HN.out.symm, rfl⟩
    · rw [hl] at C hst
      have HC := Lib.hid C
      have HS := Lib.hid hst
      clear C hl hst
      go_wp2_with (go_at_call 138; refine (HC.out _).mono ?_; rintro e w2 ⟨rfl, rfl⟩)
      go_round
      case rel => exact ⟨k + 1, by omega, by go_num, HS.out⟩
      case measure => simp [intOf]; omega
  · obtain rfl : k = s.size := by omega
    have HW := Lib.hid (isWordB_of (all_whole hall.out))
    go_wp2_with (go_at_call 55; refine (spec_l00In_c _ _ _ _).mono ?_; rintro e w2 ⟨rfl, rfl⟩)
    go_ret
    refine ⟨ret_boolF ?_, rfl⟩
    rw [HW.out, Bool.eq_iff_iff, inR_iff]; simp; omega
theorem take_all_step {α : Type} {p : α → Bool} {xs : List α} {k : Nat} (h : k < xs.length) : (xs.take (k + 1)).all p = ((xs.take k).all p && p xs[k]) := by
 rw [List.take_succ_eq_append_getElem h, List.all_append]; simp
theorem all_no {α : Type} {p : α → Bool} {xs : List α} {k : Nat} (h : k < xs.length) (hp : p xs[k] = false) : xs.all p = false := by
 rw [List.all_eq_false]; exact ⟨xs[k], List.getElem_mem h, by simp [hp]⟩
theorem all_yes {α : Type} {p : α → Bool} {xs : List α} (h : (xs.take xs.length).all p = true) : xs.all p = true := by rwa [List.take_length] at h
set_option maxRecDepth 100000 in
set_option maxHeartbeats 400000 in
theorem spec_l18Plain_c {o : Bool} {e : TypeId} {xs : List ByteArray} {v : Value} {F : List Nat} (w : World) (h : (strs e).rep o w xs [v] F) (hx : xs.length ≤ 1048576) (hs : ∀ s ∈ xs, s.size ≤ 1048576) :
 Calls Tryz.prog 59 #[v] w fun e w' => e = .returned (.bool (xs.all isWordB)) ∧ w = w' := by
 obtain ⟨A, c, rfl, hc1, hc2, hr⟩ := strs_open h
 clear h
 go_enter Tryz.func59, Tryz.ntmps59
 go_wp2_with fail
 go_loop [3] (fun i => ∃ k : Nat, k ≤ xs.length ∧ i = .int .i64 k ∧ Hid ((xs.take k).all isWordB = true)) (fun i => xs.length - (intOf i).toNat)
 case atStart => exact ⟨0, Nat.zero_le _, rfl, rfl⟩
 case round =>
  obtain ⟨k, hk, rfl, hall⟩ := hrel
  by_cases hlt : k < xs.length
  · obtain ⟨b, off, rfl, hbb, _, h0, _⟩ := hr k hlt
    have C := spec_IsWord_c xs[k] (hs _ (List.getElem_mem hlt))
    have hst := take_all_step (p := isWordB) hlt
    rw [hall.out, Bool.true_and] at hst
    clear hr
    cases hl : isWordB xs[k]
    · rw [hl] at C
      have HC := Lib.hid C
      have HN := Lib.hid (all_no hlt hl)
      clear C hl hst
      go_wp2_with (go_at_call 104; refine (HC.out _).mono ?_; rintro e w2 ⟨rfl, rfl⟩)
      go_ret
      exact ⟨ret_boolF HN.out.symm, rfl⟩
    · rw [hl] at C hst
      have HC := Lib.hid C
      have HS := Lib.hid hst
      clear C hl hst
      go_wp2_with (go_at_call 104; refine (HC.out _).mono ?_; rintro e w2 ⟨rfl, rfl⟩)
      go_round
      case rel => exact ⟨k + 1, by omega, by go_num, HS.out⟩
      case measure => simp [intOf]; omega
  · obtain rfl : k = xs.length := by omega
    have HW := Lib.hid (all_yes hall.out)
    clear hr
    go_wp2_with fail
    go_ret
    exact ⟨ret_boolF HW.out.symm, rfl⟩
def LineBytes (ls : List PLine) : Prop := ∀ l ∈ ls, ∀ s ∈ l, s.size ≤ 1048576
theorem linesOkB_of {ls : List PLine} (h : ls.all lineOkB = true) : linesOkB ls = (decide (1 ≤ ls.length) && decide (ls.length ≤ 20)) := by simp [linesOkB, h]
theorem linesOkB_no {ls : List PLine} (h : ls.all lineOkB = false) : linesOkB ls = false := by simp [linesOkB, h]
set_option maxRecDepth 100000 in
set_option maxHeartbeats 400000 in
theorem spec_l27Lines_c {o : Bool} {e : TypeId} {xs : List PLine} {v : Value} {F : List Nat} (w : World) (h : (pLines e).rep o w xs [v] F) (hx : xs.length ≤ 1048576) (hw : ∀ l ∈ xs, l.length ≤ 1048576) (hs : LineBytes xs) :
 Calls Tryz.prog 60 #[v] w fun e w' => e = .returned (.bool (linesOkB xs)) ∧ w = w' := by
 obtain ⟨A, c, rfl, hc1, hc2, hr⟩ := pLines_open h
 clear h
 go_enter Tryz.func60, Tryz.ntmps60
 go_wp2_with fail
 go_loop [3] (fun i => ∃ k : Nat, k ≤ xs.length ∧ i = .int .i64 k ∧ Hid ((xs.take k).all lineOkB = true)) (fun i => xs.length - (intOf i).toNat)
 case atStart => exact ⟨0, Nat.zero_le _, rfl, rfl⟩
 case round =>
  obtain ⟨k, hk, rfl, hall⟩ := hrel
  by_cases hlt : k < xs.length
  · obtain ⟨b, off, u, Fk, rfl, hbb, _, hrk, _, h0⟩ := hr k hlt
    obtain ⟨A', c', rfl, hl1, hl2, _⟩ := slice_open hrk
    have hwk := hw _ (List.getElem_mem hlt)
    have C := spec_l18Plain_c w hrk hwk (hs _ (List.getElem_mem hlt))
    have hst := take_all_step (p := lineOkB) hlt
    rw [hall.out, Bool.true_and] at hst
    have hlk : lineOkB xs[k] = (decide (xs[k].length ≤ 12) && xs[k].all isWordB) := rfl
    clear hr
    cases hl : xs[k].all isWordB
    · rw [hl] at C hlk
      have HC := Lib.hid C
      have HN := Lib.hid (all_no (p := lineOkB) hlt (by rw [hlk]; simp))
      clear C hl hst hlk
      go_wp2_with (go_at_call 59; refine HC.out.mono ?_; rintro e w2 ⟨rfl, rfl⟩)
      go_ret
      exact ⟨ret_boolF (linesOkB_no HN.out).symm, rfl⟩
    · rw [hl] at C hlk
      by_cases h12 : xs[k].length ≤ 12
      · have h12' : ¬ ((12 : Int) < (xs[k].length : Int)) := by omega
        have HC := Lib.hid C
        have HS := Lib.hid hst
        have HL := Lib.hid hlk
        clear C hl hst hlk
        go_wp2_with (go_at_call 59; refine HC.out.mono ?_; rintro e w2 ⟨rfl, rfl⟩)
        go_round
        case rel => exact ⟨k + 1, by omega, by go_num, by show _ = _; rw [HS.out, HL.out]; simp [h12]⟩
        case measure => simp [intOf]; omega
      · have h12' : (12 : Int) < (xs[k].length : Int) := by omega
        have HC := Lib.hid C
        have HN := Lib.hid (all_no (p := lineOkB) hlt (by rw [hlk]; simp [h12]))
        clear C hl hst hlk
        go_wp2_with (go_at_call 59; refine HC.out.mono ?_; rintro e w2 ⟨rfl, rfl⟩)
        go_ret
        exact ⟨ret_boolF (linesOkB_no HN.out).symm, rfl⟩
  · obtain rfl : k = xs.length := by omega
    have HW := Lib.hid (linesOkB_of (all_yes hall.out))
    clear hr
    go_wp2_with (go_at_call 55; refine (spec_l00In_c _ _ _ _).mono ?_; rintro e w2 ⟨rfl, rfl⟩)
    go_ret
    refine ⟨ret_boolF ?_, rfl⟩
    rw [HW.out, Bool.eq_iff_iff, inR_iff]; simp; omega
set_option maxHeartbeats 400000 in
theorem impl_validLines1_c (s : ByteArray) (hs : s.size ≤ 1048576) (w : World) : Calls Tryz.prog 119 #[.string s] w fun e w' => e = .returned (.bool (!isWordB s)) ∧ Below w.heap.size w w' := by
 have C := impl_IsWord_c s hs
 generalize isWordB s = b at C ⊢
 have HC := Lib.hid C
 clear C
 cases b
 all_goals
  go_enter Tryz.func119, Tryz.ntmps119
  go_wp2_with fail
  refine (HC.out _).mono ?_
  rintro e w1 ⟨rfl, hb⟩
  go_wp2_with fail
  go_ret
  exact ⟨rfl, hb⟩
set_option maxRecDepth 100000 in
set_option maxHeartbeats 1000000 in
theorem impl_validLines_c {o : Bool} {e : TypeId} {xs : List PLine} {v : Value} {F : List Nat} (w : World) (h : (pLines e).rep o w xs [v] F) (hx : xs.length ≤ 1048576) (hw : ∀ l ∈ xs, l.length ≤ 1048576) (hs : LineBytes xs) :
 Calls Tryz.prog 80 #[v] w fun e w' => e = .returned (.bool (linesOkB xs)) ∧ Below w.heap.size w w' := by
 obtain ⟨A, c, rfl, hc1, hc2, hr⟩ := pLines_open h
 clear h
 go_enter Tryz.func80, Tryz.ntmps80
 go_wp2_with fail
 go_loopw [7] (fun i wr => ∃ k : Nat, k ≤ xs.length ∧ i = .int .i64 k ∧ Hid ((xs.take k).all lineOkB = true) ∧ Below w.heap.size w wr) (fun i _ => xs.length - (intOf i).toNat)
 case atStart => exact ⟨0, Nat.zero_le _, rfl, rfl, Below.refl _ _⟩
 case round =>
  obtain ⟨k, hk, rfl, hall, hb⟩ := hrel
  have hbs := hb.size
  by_cases hlt : k < xs.length
  · obtain ⟨b, off, u, Fk, rfl, hbb, _, hrk, _, h0⟩ := hr k hlt
    rw [← hb.cell (p := ⟨b, _, none⟩) hbb] at h0
    obtain ⟨A', c', rfl, hl1, hl2, _⟩ := slice_open hrk
    have hwk := hw _ (List.getElem_mem hlt)
    have hsk := hs _ (List.getElem_mem hlt)
    have hst := take_all_step (p := lineOkB) hlt
    rw [hall.out, Bool.true_and] at hst
    have hlk : lineOkB xs[k] = (decide (xs[k].length ≤ 12) && xs[k].all isWordB) := rfl
    have hany : xs[k].any (fun s => !isWordB s) = !xs[k].all isWordB := by simp [List.any_eq_not_all_not]
    have C := fun w' (q : (strs 9).rep o w' xs[k] [.slice A' xs[k].length c'] Fk) => ContainsFunc_str 119 (fun s => !isWordB s) w' q hwk Tryz.call119 (fun s h w => impl_validLines1_c s (hsk s h) w)
    have RK := Lib.hid (hrk.below hb)
    simp only [hany] at C
    clear hr hany hrk
    by_cases h12 : xs[k].length ≤ 12
    · have h12' : ¬ ((12 : Int) < (xs[k].length : Int)) := by omega
      cases hl : xs[k].all isWordB
      · rw [hl] at hlk
        simp only [hl] at C
        have HC := Lib.hid C
        have HN := Lib.hid (all_no (p := lineOkB) hlt (by rw [hlk]; simp))
        clear C hl hst hlk
        go_wp2_with (go_at_call 77; refine (HC.out _ (RK.out.alloc _)).mono ?_; rintro e w2 ⟨rfl, hb2⟩)
        go_ret
        exact ⟨ret_boolF (linesOkB_no HN.out).symm, (hb.alloc hbs _).trans (hb2.mono (by simp; omega))⟩
      · rw [hl] at hlk
        simp only [hl] at C
        have HC := Lib.hid C
        have HS := Lib.hid hst
        have HL := Lib.hid hlk
        clear C hl hst hlk
        go_wp2_with (go_at_call 77; refine (HC.out _ (RK.out.alloc _)).mono ?_; rintro e w2 ⟨rfl, hb2⟩)
        go_roundw
        case rel => exact ⟨k + 1, by omega, by go_num, (by show _ = _; rw [HS.out, HL.out]; simp [h12]), (hb.alloc hbs _).trans (hb2.mono (by simp; omega))⟩
        case measure => simp [intOf]; omega
    · have h12' : (12 : Int) < (xs[k].length : Int) := by omega
      have HN := Lib.hid (all_no (p := lineOkB) hlt (by rw [hlk]; simp [h12]))
      clear C hst hlk
      go_wp2_with fail
      go_ret
      exact ⟨ret_boolF (linesOkB_no HN.out).symm, hb.alloc hbs _⟩
  · obtain rfl : k = xs.length := by omega
    have HW := Lib.hid (linesOkB_of (all_yes hall.out))
    clear hr
    go_wp2_with fail
    all_goals go_ret
    all_goals refine ⟨ret_boolF ?_, hb⟩
    all_goals rw [HW.out, Bool.eq_iff_iff]; simp; try omega
end Go.Proofs.YtboijogahclekaaGreatDoor
