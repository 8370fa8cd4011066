/- Pages as plain data: a step that is done can be undone and done again; the text of a valid page is read as the page's lines. No program is named here. Conditions: none. -/
import Derived.Test.YtmopioaojdlnkaaDoorPgMath3p
import Derived.Test.YtmopioaojdlnkaaDoorRpAp
namespace Go.Proofs.YtmopioaojdlnkaaDoor
open Go Go.RowKit
section
variable {ls : List PLine} {s : PStep}
theorem set_same {α : Type} (xs : List α) (a : Nat) (h : a < xs.length) : xs.set a xs[a] = xs := by simp
theorem opp_back (h : LinesOk ls) (hc : Can ls s) : Can (stepL ls s) (oppS s) ∧ stepL (stepL ls s) (oppS s) = ls := by
 obtain ⟨k, l, p, w, o⟩ := s
 cases hc with
 | ins n a hn h1 h2 hk ha hl hw ho =>
   simp only at hk h1 h2 hw ho; subst hk; subst h1; subst h2; subst ho
   have e : stepL ls ⟨1, (n : Int), (a : Int), w, .empty⟩ = ls.set n (ls[n].take a ++ w :: ls[n].drop a) := by simp [stepL, lineAt_nat hn]
   have hn' : n < (ls.set n (ls[n].take a ++ w :: ls[n].drop a)).length := by simpa using hn
   have ge : (ls.set n (ls[n].take a ++ w :: ls[n].drop a))[n] = ls[n].take a ++ w :: ls[n].drop a := by simp
   have lt : (ls[n].take a).length = a := by rw [List.length_take]; omega
   rw [e]
   refine ⟨.del n a hn' rfl rfl rfl (by rw [ge]; simp; omega) (by simp only [ge]; rw [List.getElem_append_right (by omega)]; simp [lt, oppS]) rfl, ?_⟩
   have e2 : oppS ⟨1, (n : Int), (a : Int), w, .empty⟩ = ⟨2, (n : Int), (a : Int), w, .empty⟩ := rfl
   rw [e2, stepL]
   simp only [lineAt_nat hn', ge, Int.toNat_natCast]
   rw [if_neg (by decide), if_pos trivial, List.set_set]
   rw [List.take_append_of_le_length (by omega), List.take_take, Nat.min_self, List.drop_append]
   rw [List.drop_eq_nil_of_le (by omega), lt, show a + 1 - a = 1 from by omega, List.nil_append, List.drop_succ_cons, List.drop_zero, List.take_append_drop]
   exact set_same ls n hn
 | del n a hn h1 h2 hk ha hw ho =>
   simp only at hk h1 h2 hw ho; subst hk; subst h1; subst h2; subst ho; subst hw
   have e : stepL ls ⟨2, (n : Int), (a : Int), ls[n][a], .empty⟩ = ls.set n (ls[n].take a ++ ls[n].drop (a + 1)) := by simp [stepL, lineAt_nat hn]
   have hn' : n < (ls.set n (ls[n].take a ++ ls[n].drop (a + 1))).length := by simpa using hn
   have ge : (ls.set n (ls[n].take a ++ ls[n].drop (a + 1)))[n] = ls[n].take a ++ ls[n].drop (a + 1) := by simp
   have lt : (ls[n].take a).length = a := by rw [List.length_take]; omega
   have h12 := h.each _ (List.getElem_mem hn)
   rw [e]
   refine ⟨.ins n a hn' rfl rfl rfl (by rw [ge]; simp; omega) (by rw [ge]; simp; omega) (h.word _ (List.getElem_mem hn) _ (List.getElem_mem ha)) rfl, ?_⟩
   have e2 : oppS ⟨2, (n : Int), (a : Int), ls[n][a], .empty⟩ = ⟨1, (n : Int), (a : Int), ls[n][a], .empty⟩ := rfl
   rw [e2, stepL]
   simp only [lineAt_nat hn', ge, Int.toNat_natCast]
   rw [if_pos trivial, List.set_set]
   rw [List.take_append_of_le_length (by omega), List.take_take, Nat.min_self, List.drop_append, List.drop_eq_nil_of_le (by omega), lt, Nat.sub_self, List.drop_zero, List.nil_append]
   rw [← List.drop_eq_getElem_cons ha, List.take_append_drop]
   exact set_same ls n hn
 | rep n a hn h1 h2 hk ha hw ho =>
   simp only at hk h1 h2 hw ho; subst hk; subst h1; subst h2; subst hw
   have e : stepL ls ⟨3, (n : Int), (a : Int), w, ls[n][a]⟩ = ls.set n (ls[n].set a w) := by simp [stepL, lineAt_nat hn]
   have hn' : n < (ls.set n (ls[n].set a w)).length := by simpa using hn
   have ge : (ls.set n (ls[n].set a w))[n] = ls[n].set a w := by simp
   rw [e]
   refine ⟨.rep n a hn' rfl rfl rfl (by rw [ge]; simpa using ha) (by simp only [ge]; simp [oppS]) (h.word _ (List.getElem_mem hn) _ (List.getElem_mem ha)), ?_⟩
   have e2 : oppS ⟨3, (n : Int), (a : Int), w, ls[n][a]⟩ = ⟨3, (n : Int), (a : Int), ls[n][a], w⟩ := rfl
   rw [e2, stepL]
   simp only [lineAt_nat hn', ge, Int.toNat_natCast]
   rw [if_neg (by decide), if_neg (by decide), if_pos trivial, List.set_set, List.set_set]
   rw [set_same _ a ha]
   exact set_same ls n hn
 | brk n a hn h1 h2 hk ha hl hw ho =>
   simp only at hk h1 h2 hw ho; subst hk; subst h1; subst h2; subst hw; subst ho
   have e : stepL ls ⟨4, (n : Int), (a : Int), .empty, .empty⟩ = ls.take n ++ ls[n].take a :: ls[n].drop a :: ls.drop (n + 1) := by simp [stepL, lineAt_nat hn]
   have lt : (ls.take n).length = n := by rw [List.length_take]; omega
   have hlen : (ls.take n ++ ls[n].take a :: ls[n].drop a :: ls.drop (n + 1)).length = ls.length + 1 := by simp; omega
   have hn' : n + 1 < (ls.take n ++ ls[n].take a :: ls[n].drop a :: ls.drop (n + 1)).length := by omega
   have g0 : (ls.take n ++ ls[n].take a :: ls[n].drop a :: ls.drop (n + 1))[n]'(by omega) = ls[n].take a := by rw [List.getElem_append_right (by omega)]; simp [lt]
   have g1 : (ls.take n ++ ls[n].take a :: ls[n].drop a :: ls.drop (n + 1))[n + 1] = ls[n].drop a := by rw [List.getElem_append_right (by omega)]; simp [lt]
   have h12 := h.each _ (List.getElem_mem hn)
   rw [e]
   refine ⟨.join n a hn' rfl rfl rfl (by rw [g0]; simp; omega) (by rw [g0, g1]; simp; omega) rfl rfl, ?_⟩
   have e2 : oppS ⟨4, (n : Int), (a : Int), .empty, .empty⟩ = ⟨5, (n : Int), (a : Int), .empty, .empty⟩ := rfl
   have q1 := lineAt_nat (show n < (ls.take n ++ ls[n].take a :: ls[n].drop a :: ls.drop (n + 1)).length by omega)
   have q2 : lineAt (ls.take n ++ ls[n].take a :: ls[n].drop a :: ls.drop (n + 1)) ((n : Int) + 1) = _ := lineAt_nat hn'
   rw [e2, stepL]
   simp only [q1, q2, g0, g1, Int.toNat_natCast]
   rw [if_neg (by decide), if_neg (by decide), if_neg (by decide), if_neg (by decide), if_pos trivial]
   rw [List.take_append_drop, List.take_append_of_le_length (by omega), List.take_take, Nat.min_self, List.drop_append, List.drop_eq_nil_of_le (by omega), lt, show n + 2 - n = 2 from by omega, List.nil_append, List.drop_succ_cons, List.drop_succ_cons, List.drop_zero]
   rw [← List.drop_eq_getElem_cons hn, List.take_append_drop]
 | join n a hn h1 h2 hk ha hl hw ho =>
   simp only at hk h1 h2 hw ho; subst hk; subst h1; subst h2; subst hw; subst ho
   have hn0 : n < ls.length := by omega
   have q1 := lineAt_nat hn0
   have q2 : lineAt ls ((n : Int) + 1) = ls[n + 1] := lineAt_nat hn
   have e : stepL ls ⟨5, (n : Int), (a : Int), .empty, .empty⟩ = ls.take n ++ (ls[n] ++ ls[n + 1]) :: ls.drop (n + 2) := by
    simp only [stepL, q1, q2]; rfl
   have lt : (ls.take n).length = n := by rw [List.length_take]; omega
   have hlen : (ls.take n ++ (ls[n] ++ ls[n + 1]) :: ls.drop (n + 2)).length = ls.length - 1 := by simp; omega
   have hn' : n < (ls.take n ++ (ls[n] ++ ls[n + 1]) :: ls.drop (n + 2)).length := by omega
   have g0 : (ls.take n ++ (ls[n] ++ ls[n + 1]) :: ls.drop (n + 2))[n] = ls[n] ++ ls[n + 1] := by rw [List.getElem_append_right (by omega)]; simp [lt]
   have hf := h.few
   rw [e]
   refine ⟨.brk n a hn' rfl rfl rfl (by rw [g0]; simp; omega) (by omega) rfl rfl, ?_⟩
   have e2 : oppS ⟨5, (n : Int), (a : Int), .empty, .empty⟩ = ⟨4, (n : Int), (a : Int), .empty, .empty⟩ := rfl
   have q3 := lineAt_nat hn'
   rw [e2, stepL]
   simp only [q3, g0, Int.toNat_natCast]
   rw [if_neg (by decide), if_neg (by decide), if_neg (by decide), if_pos trivial]
   have t1 : List.take a (ls[n] ++ ls[n + 1]) = ls[n] := by rw [ha, List.take_left' rfl]
   have t2 : List.drop a (ls[n] ++ ls[n + 1]) = ls[n + 1] := by rw [ha, List.drop_left' rfl]
   rw [t1, t2, List.take_append_of_le_length (by omega), List.take_take, Nat.min_self, List.drop_append, List.drop_eq_nil_of_le (by omega), lt, show n + 1 - n = 1 from by omega, List.nil_append, List.drop_succ_cons, List.drop_zero]
   rw [← List.drop_eq_getElem_cons hn, ← List.drop_eq_getElem_cons hn0, List.take_append_drop]
end
theorem follow_dropLast (b : Bool) : ∀ (l : List PStep) (ls : List PLine), followB b ls l = true → followB b ls l.dropLast = true
 | [], _, _ => rfl
 | [_], _, _ => rfl
 | s :: t :: r, ls, h => by
   rw [followB, Bool.and_eq_true] at h
   rw [List.dropLast_cons_cons, followB, h.1, follow_dropLast b (t :: r) _ h.2]; rfl
theorem follow_tail {b : Bool} {l : List PStep} {ls : List PLine} (h : followB b ls l.reverse = true) : followB b ls (l.drop 1).reverse = true := by
 rw [List.drop_one, ← List.dropLast_reverse]
 exact follow_dropLast b _ _ h
theorem pushS_last (l : List PStep) (s : PStep) : (pushS l s).getLast? = some s := by
 rw [pushS]
 split
 · cases l with
   | nil => rename_i h; simp at h
   | cons a r => simp
 · simp
theorem pushS_30 {l : List PStep} (h : l.length ≤ 30) (s : PStep) : (pushS l s).length ≤ 30 := by
 rw [pushS]
 split
 · simp; omega
 · simp; omega
theorem pushS_prev {b : Bool} {ls : List PLine} {l : List PStep} (h : followB b ls l.reverse = true) (s : PStep) : followB b ls ((pushS l s).dropLast).reverse = true := by
 rw [pushS]
 split
 · have e : ((l ++ [s]).drop 1).dropLast = l.drop 1 := by
    cases l with
    | nil => rfl
    | cons a r => simp
   rw [e]; exact follow_tail h
 · rw [List.dropLast_concat]; exact h
theorem push_follow {b : Bool} {ls ls' : List PLine} {l : List PStep} {s : PStep} (hc : canB ls' (flipS b s) = true) (hl : stepL ls' (flipS b s) = ls) (h : followB b ls l.reverse = true) : followB b ls' (pushS l s).reverse = true := by
 have e : followB b ls' (l ++ [s]).reverse = true := by
  rw [List.reverse_append, List.reverse_cons, List.reverse_nil, List.nil_append, List.singleton_append, followB, hc, hl, h]; rfl
 rw [pushS]
 split
 · exact follow_tail e
 · exact e
theorem validB_of {p : PPage} (h1 : LinesOk p.lines) (h2 : p.done.length ≤ 30) (h3 : p.undone.length ≤ 30) (h4 : followB true p.lines p.done.reverse = true) (h5 : followB false p.lines p.undone.reverse = true) : validB p = true := by
 rw [validB, (linesOk_iff _).2 h1, h4, h5]; simp [h2, h3]
theorem doP_valid {p : PPage} {s : PStep} (hv : validB p = true) (hc : canB p.lines s = true) : validB (doP p s) = true := by
 obtain ⟨hok, hd, hu, hf, hg⟩ := validB_parts hv
 have c := (can_iff _ _).1 hc
 have ob := opp_back hok c
 exact validB_of (stepL_ok hok c) (pushS_30 hd s) (by simp [doP]) (push_follow (b := true) ((can_iff _ _).2 ob.1) ob.2 hf) rfl
theorem undo_valid {p : PPage} (hv : validB p = true) (h : (undoR p).2 = 0) : validB (undoR p).1 = true := by
 obtain ⟨hok, hd, hu, hf, hg⟩ := validB_parts hv
 rw [undoR, hv] at h ⊢
 simp only [Bool.not_true, Bool.false_eq_true, if_false] at h ⊢
 cases hl : p.done.getLast? with
 | none => rw [hl] at h; simp at h
 | some s =>
   have hc := follow_last hf hl
   have c := (can_iff _ _).1 hc
   have ob := opp_back hok c
   obtain ⟨r, hr⟩ : ∃ r, p.done = r ++ [s] := by
    rcases List.eq_nil_or_concat p.done with h0 | ⟨r, b, h0⟩
    · rw [h0] at hl; cases hl
    · rw [List.concat_eq_append] at h0; rw [h0] at hl; simp at hl; subst hl; exact ⟨r, h0⟩
   have hf2 : followB true (stepL p.lines (oppS s)) r.reverse = true := by
    rw [hr, List.reverse_append, List.reverse_cons, List.reverse_nil, List.nil_append, List.singleton_append, followB, Bool.and_eq_true] at hf
    exact hf.2
   have oo : oppS (flipS true s) = s := by
    have hk : s.kind = 1 ∨ s.kind = 2 ∨ s.kind = 3 ∨ s.kind = 4 ∨ s.kind = 5 := by
     obtain ⟨k, l, q, w, o⟩ := s
     by_cases h1 : k = 1; · exact .inl h1
     by_cases h2 : k = 2; · exact .inr (.inl h2)
     by_cases h3 : k = 3; · exact .inr (.inr (.inl h3))
     by_cases h4 : k = 4; · exact .inr (.inr (.inr (.inl h4)))
     by_cases h5 : k = 5; · exact .inr (.inr (.inr (.inr h5)))
     exfalso
     rw [flipS, if_pos rfl, oppS, if_neg h1, if_neg h2, if_neg h3, if_neg h4, if_neg h5] at c
     cases c <;> simp_all
    obtain ⟨k, l, q, w, o⟩ := s
    simp only at hk
    rcases hk with rfl | rfl | rfl | rfl | rfl <;> rfl
   rw [oo] at ob
   refine validB_of (stepL_ok hok c) ?_ (pushS_30 hu s) ?_ (push_follow (b := false) ((can_iff _ _).2 ob.1) ob.2 hg)
   · rw [List.length_dropLast]; omega
   · show followB true (stepL p.lines (oppS s)) p.done.dropLast.reverse = true
     rw [hr, List.dropLast_concat]; exact hf2
theorem redo_valid {p : PPage} (hv : validB p = true) (h : (redoR p).2 = 0) : validB (redoR p).1 = true := by
 obtain ⟨hok, hd, hu, hf, hg⟩ := validB_parts hv
 rw [redoR, hv] at h ⊢
 simp only [Bool.not_true, Bool.false_eq_true, if_false] at h ⊢
 cases hl : p.undone.getLast? with
 | none => rw [hl] at h; simp at h
 | some s =>
   have hc := follow_last hg hl
   have c := (can_iff _ _).1 hc
   have ob := opp_back hok c
   obtain ⟨r, hr⟩ : ∃ r, p.undone = r ++ [s] := by
    rcases List.eq_nil_or_concat p.undone with h0 | ⟨r, b, h0⟩
    · rw [h0] at hl; cases hl
    · rw [List.concat_eq_append] at h0; rw [h0] at hl; simp at hl; subst hl; exact ⟨r, h0⟩
   have hg2 : followB false (stepL p.lines s) r.reverse = true := by
    rw [hr, List.reverse_append, List.reverse_cons, List.reverse_nil, List.nil_append, List.singleton_append, followB, Bool.and_eq_true] at hg
    exact hg.2
   refine validB_of (stepL_ok hok c) (pushS_30 hd s) ?_ (push_follow (b := true) ((can_iff _ _).2 ob.1) ob.2 hf) ?_
   · show p.undone.dropLast.length ≤ 30
     rw [List.length_dropLast]; omega
   · show followB false (stepL p.lines s) p.undone.dropLast.reverse = true
     rw [hr, List.dropLast_concat]; exact hg2
theorem do_undo_redo {p : PPage} {s : PStep} (hv : validB p = true) (hc : canB p.lines s = true) :
 validB (doP p s) = true ∧ undoR (doP p s) = (⟨p.lines, (pushS p.done s).dropLast, [s]⟩, 0) ∧ validB ⟨p.lines, (pushS p.done s).dropLast, [s]⟩ = true ∧
  ∃ d, redoR ⟨p.lines, (pushS p.done s).dropLast, [s]⟩ = (⟨stepL p.lines s, d, []⟩, 0) ∧ validB ⟨stepL p.lines s, d, []⟩ = true := by
 obtain ⟨hok, hd, hu, hf, hg⟩ := validB_parts hv
 have c := (can_iff _ _).1 hc
 have ob := opp_back hok c
 have hx := doP_valid hv hc
 have hy : validB ⟨p.lines, (pushS p.done s).dropLast, [s]⟩ = true := by
  refine validB_of hok ?_ (by simp) (pushS_prev hf s) ?_
  · have := pushS_30 hd s
    show (pushS p.done s).dropLast.length ≤ 30
    rw [List.length_dropLast]; omega
  · show followB false p.lines [s] = true
    rw [followB, followB, show flipS false s = s from rfl, hc]; rfl
 have hz := redo_valid hy (by rw [redoR, hy]; rfl)
 refine ⟨hx, ?_, hy, pushS (pushS p.done s).dropLast s, ?_, ?_⟩
 · rw [undoR, hx]
   simp only [Bool.not_true, Bool.false_eq_true, if_false]
   rw [show (doP p s).done = pushS p.done s from rfl, pushS_last]
   show ((⟨stepL (stepL p.lines s) (oppS s), (pushS p.done s).dropLast, [s]⟩ : PPage), (0 : Int)) = _
   rw [ob.2]
 · rw [redoR, hy]; rfl
 · rw [redoR, hy] at hz; exact hz
theorem split_join : ∀ {ws : List (List UInt8)}, ws ≠ [] → (∀ w ∈ ws, ∀ b ∈ w, b ≠ 32) → splitC 32 (joinL ws) = ws
 | [], h, _ => absurd rfl h
 | [w], _, hw => splitC_word (hw w (List.mem_cons_self ..))
 | w :: v :: r, _, hw => by
   rw [joinL, splitC_app (hw w (List.mem_cons_self ..)), split_join (by simp) (fun x hx => hw x (List.mem_cons_of_mem _ hx))]
theorem word_bytes {w : ByteArray} (h : isWordB w = true) : ∀ b ∈ w.data.toList, b ≠ 32 ∧ b ≠ 10 := by
 simp only [isWordB, Bool.and_eq_true, List.all_eq_true, letterB, decide_eq_true_eq] at h
 intro b hb
 have := h.1 b hb
 constructor
 · rintro rfl; revert this; decide
 · rintro rfl; revert this; decide
theorem lineOf_join {l : PLine} (h : ∀ w ∈ l, isWordB w = true) : lineOf (baOf (joinB l)) = l := by
 rw [joinB, libjoin_joinL]
 cases l with
 | nil => rfl
 | cons w r =>
   have hne : joinL ((w :: r).map fun b : ByteArray => b.data.toList) ≠ [] := by
    have h1 := (isWord_size (h w (List.mem_cons_self ..))).1
    rw [toList_size] at h1
    cases r with
    | nil => simp only [List.map_cons, List.map_nil, joinL]; intro h0; rw [h0] at h1; simp at h1
    | cons v r => simp only [List.map_cons, joinL]; simp
   have hne2 : baOf (joinL ((w :: r).map fun b : ByteArray => b.data.toList)) ≠ .empty := by
    intro h0
    apply hne
    rw [← baOf_list (joinL _), h0]; rfl
   rw [lineOf, if_neg hne2, baOf_list, split_join (by simp) ?_]
   · rw [List.map_map]
     conv => rhs; rw [← List.map_id (w :: r)]
     exact List.map_congr_left fun b _ => rfl
   · intro x hx b hb
     obtain ⟨y, hy, rfl⟩ := List.mem_map.1 hx
     exact (word_bytes (h y hy) b hb).1
theorem joinL_bytes {c : UInt8} (hc : (32 : UInt8) ≠ c) : ∀ {ws : List (List UInt8)}, (∀ w ∈ ws, ∀ b ∈ w, b ≠ c) → ∀ b ∈ joinL ws, b ≠ c
 | [], _, b, hb => by simp [joinL] at hb
 | [w], hw, b, hb => hw w (List.mem_cons_self ..) b hb
 | w :: v :: r, hw, b, hb => by
   rw [joinL] at hb
   rcases List.mem_append.1 hb with hb | hb
   · exact hw w (List.mem_cons_self ..) b hb
   · rcases List.mem_cons.1 hb with rfl | hb
     · exact hc
     · exact joinL_bytes hc (fun x hx => hw x (List.mem_cons_of_mem _ hx)) b hb
theorem split_lines : ∀ {xs : List (List UInt8)}, (∀ x ∈ xs, ∀ b ∈ x, b ≠ 10) → splitC 10 ((xs.map fun x => x ++ [10]).flatten) = xs ++ [[]]
 | [], _ => rfl
 | x :: r, h => by
   rw [List.map_cons, List.flatten_cons, List.append_assoc, List.singleton_append, splitC_app (h x (List.mem_cons_self ..)), split_lines (fun y hy => h y (List.mem_cons_of_mem _ hy))]; rfl
theorem read_lines {ls : List PLine} (h : ∀ l ∈ ls, ∀ w ∈ l, isWordB w = true) : endB (textL ls) = true ∧ (lns (baOf (textL ls))).map lineOf = ls := by
 have e : textL ls = ((ls.map joinB).map fun x => x ++ [10]).flatten := by rw [textL, List.map_map]; rfl
 have hs : splitC 10 (textL ls) = ls.map joinB ++ [[]] := by
  rw [e]
  refine split_lines fun x hx b hb => ?_
  obtain ⟨l, hl, rfl⟩ := List.mem_map.1 hx
  rw [joinB, libjoin_joinL] at hb
  refine joinL_bytes (by decide) (fun w hw c hc => ?_) b hb
  obtain ⟨y, hy, rfl⟩ := List.mem_map.1 hw
  exact (word_bytes (h l hl y hy) c hc).2
 have he : endB (textL ls) = true := by rw [endB, hs]; simp
 refine ⟨he, ?_⟩
 rw [lns, baOf_list, if_pos he, hs, List.dropLast_concat, List.map_map, List.map_map]
 conv => rhs; rw [← List.map_id ls]
 exact List.map_congr_left fun l hl => lineOf_join (h l hl)
theorem LinesOk.word' {ls : List PLine} (h : LinesOk ls) : ∀ l ∈ ls, ∀ w ∈ l, isWordB w = true := h.word
theorem read_text {p : PPage} (hv : validB p = true) : readOkP (pageText p) = true ∧ readP (pageText p) = ⟨p.lines, [], []⟩ ∧ pageText ⟨p.lines, [], []⟩ = pageText p := by
 obtain ⟨hok, _⟩ := validB_parts hv
 have hr := read_lines hok.word'
 have ep : pageText p = baOf (textL p.lines) := by rw [pageText, if_pos hv]; rfl
 have hl := (linesOk_iff _).2 hok
 have ok : readOkP (pageText p) = true := by rw [readOkP, ep, baOf_list, hr.1, hr.2, hl]; rfl
 refine ⟨ok, ?_, ?_⟩
 · rw [readP, if_pos ok, ep, hr.2]
 · rw [ep, pageText, valid_read, if_pos hl]; rfl
theorem pageText_lines {p q : PPage} (hp : validB p = true) (hq : validB q = true) (h : p.lines = q.lines) : pageText p = pageText q := by
 rw [pageText, pageText, if_pos hp, if_pos hq, h]
end Go.Proofs.YtmopioaojdlnkaaDoor
