/- The reference's trees: what it tells of them. Conditions: none. -/
import Derived.Test.YtkickllohilciaaRd6
import Derived.Test.YtkickllohilciaaTreeP
namespace Go.Proofs.Ytkickllohilciaa
open Go Go.RowKit

theorem boxNode_in {xs : List PSymbol} (hs : ∀ s ∈ xs, boxIn (boxOf s)) {bs : List PBox} (hb : ∀ b ∈ bs, boxIn b) (n : PNode) : boxIn (boxNode xs bs n) := by
  unfold boxNode
  split
  · exact symIn hs _
  · exact boxIn_join (boxIn_join (partA_in hb n) (partB_in hb n)) (signB_in hs hb n)
theorem boxesF_in {xs : List PSymbol} (hs : ∀ s ∈ xs, boxIn (boxOf s)) (ns : List PNode) : ∀ k, ∀ b ∈ boxesF xs ns k, boxIn b
  | 0, b, hb => by simp [boxesF] at hb
  | k + 1, b, hb => by
    rw [boxesF_succ, List.mem_append, List.mem_singleton] at hb
    rcases hb with hb | rfl
    · exact boxesF_in hs ns k b hb
    · exact boxNode_in hs (boxesF_in hs ns k) _
theorem boxIn_ok64 {b : PBox} (h : boxIn b) : pBoxOk b := by unfold boxIn at h; unfold pBoxOk I64; omega
theorem spec_l21Read_c {e et : TypeId} {o ot : Bool} {xs : List PSymbol} {ns : List PNode} {vl vn : Value} {Fl Fn : List Nat} {g : Nat} (w : World) (h : (pSymbols e).rep o w xs [vl] Fl) (ht : (pNodes et).rep ot w ns [vn] Fn) (hg : Row w g 33 [vn]) (hok : symsOkB xs = true) :
    Calls Try.prog 38 #[vl, .pointer (some ⟨g, 0, none⟩)] w (ReadPost e et o ot xs ns vl vn Fl Fn w) := by
  by_cases hn : 1 ≤ ns.length ∧ ns.length ≤ 15
  · exact spec_l21Read_good w h ht hg hok hn.1 hn.2
  · exact spec_l21Read_bad w h ht hg hn
/-- What l21Ask leaves. -/
def AskPost (e et : TypeId) (o ot : Bool) (xs : List PSymbol) (ns : List PNode) (vl vn : Value) (Fl Fn : List Nat) (w : World) (en : Ending) (w' : World) : Prop :=
  Below w.heap.size w w' ∧ ∃ p, en = .returned (.tuple #[p, .int .i64 (askF xs ns)]) ∧ (askF xs ns = 0 → ∃ gp gu gb gd st, p = .pointer (some ⟨gp, 0, none⟩) ∧ (w.heap.size ≤ gp ∧ w.heap.size ≤ gu ∧ w.heap.size ≤ gb ∧ w.heap.size ≤ gd) ∧ Rd e et o ot xs ns vl vn Fl Fn gp gu gb gd st w' ∧ st.boxes = boxesF xs ns ns.length ∧ st.depth = depthsF ns ns.length ∧ st.cost = costF xs ns ns.length)
set_option maxRecDepth 100000 in
set_option maxHeartbeats 1000000 in
theorem spec_l21Ask_c {e et : TypeId} {o ot : Bool} {xs : List PSymbol} {ns : List PNode} {vl vn : Value} {Fl Fn : List Nat} {g : Nat} (w : World) (h : (pSymbols e).rep o w xs [vl] Fl) (ht : (pNodes et).rep ot w ns [vn] Fn) (hg : Row w g 33 [vn]) (hx : xs.length ≤ 1048576) (hsz : ∀ c ∈ xs, c.label.size ≤ 1048576) :
    Calls Try.prog 45 #[vl, .pointer (some ⟨g, 0, none⟩)] w (AskPost e et o ot xs ns vl vn Fl Fn w) := by
  have CV := Lib.hid (spec_l20Ok_c w h hx hsz)
  cases hb : symsOkB xs with
  | false =>
    rw [hb] at CV
    have HA := Lib.hid (ask_bad (ns := ns) hb)
    clear hb h ht hg
    go_enter Try.func45, Try.ntmps45
    go_wp2_with fail
    refine CV.out.mono ?_
    rintro en w1 ⟨rfl, b1⟩
    have b2 := Lib.hid b1
    go_wp2_with fail
    refine bodyPost_ret (v := .tuple #[.pointer (some ⟨w1.heap.size, 0, none⟩), .int .i64 1]) (by simp [results, Try.results45, go_sem]) rfl ⟨b2.out.alloc b2.out.size _, _, by rw [HA.out], fun h => by rw [HA.out] at h; cases h⟩
  | true =>
    rw [hb] at CV
    have CR := Lib.hid (fun (w' : World) (b : Below w.heap.size w w') => spec_l21Read_c w' (h.below b) (ht.below b) (hg.later b) hb)
    have HB := Lib.hid hb
    clear hb h ht hg
    go_enter Try.func45, Try.ntmps45
    go_wp2_with fail
    refine CV.out.mono ?_
    rintro en w1 ⟨rfl, b1⟩
    have b2 := Lib.hid b1
    go_wp2_with fail
    refine (CR.out w1 b2.out).mono ?_
    rintro en w2 ⟨b3, gp, rfl, p7, hp⟩
    have b4 := Lib.hid (b2.out.trans (b3.mono b2.out.size))
    have bs := b2.out.size
    clear b3
    cases ht : treeB xs ns with
    | false =>
      rw [ht] at p7
      have HA := Lib.hid (ask_no HB.out ht)
      clear hp ht
      go_wp2_with fail
      refine bodyPost_ret (v := .tuple #[.pointer (some ⟨gp, 0, none⟩), .int .i64 8]) (by simp [results, Try.results45, go_sem]) rfl ⟨b4.out, _, by rw [HA.out], fun h => by rw [HA.out] at h; cases h⟩
    | true =>
      rw [ht] at p7
      have HA := Lib.hid (ask_yes HB.out ht)
      obtain ⟨gu, gb, gd, st, hs, hr, h1, h2, h3⟩ := hp ht
      have HF : Hid (∃ gq gu gb gd st, Value.pointer (some ⟨gp, 0, none⟩) = .pointer (some ⟨gq, 0, none⟩) ∧ (w.heap.size ≤ gq ∧ w.heap.size ≤ gu ∧ w.heap.size ≤ gb ∧ w.heap.size ≤ gd) ∧ Rd e et o ot xs ns vl vn Fl Fn gq gu gb gd st w2 ∧ st.boxes = boxesF xs ns ns.length ∧ st.depth = depthsF ns ns.length ∧ st.cost = costF xs ns ns.length) := ⟨gp, gu, gb, gd, st, rfl, ⟨by omega, by omega, by omega, by omega⟩, hr, h1, h2, h3⟩
      clear hp ht hs hr h1 h2 h3
      go_wp2_with fail
      refine bodyPost_ret (v := .tuple #[.pointer (some ⟨gp, 0, none⟩), .int .i64 0]) (by simp [results, Try.results45, go_sem]) rfl ⟨b4.out, _, by rw [HA.out], fun _ => HF.out⟩
set_option maxRecDepth 100000 in
set_option maxHeartbeats 1000000 in
theorem spec_IsTreeOf_c {e et : TypeId} {o ot : Bool} {xs : List PSymbol} {ns : List PNode} {vl vt : Value} {Fl Ft : List Nat} (w : World) (h : (pSymbols e).rep o w xs [vl] Fl) (ht : (pNodes et).rep ot w ns [vt] Ft) (hx : xs.length ≤ 1048576) (hsz : ∀ c ∈ xs, c.label.size ≤ 1048576) :
    Calls Try.prog 11 #[vl, .agg #[vt]] w fun en w' => en = .returned (.bool (isTreeR xs ns)) ∧ Below w.heap.size w w' := by
  have R := Row.new w 33 #[vt]
  have CV := Lib.hid (spec_l20Ok_c (w.alloc (.cells #[vt] 33)) (h.alloc _) hx hsz)
  have bA : Below w.heap.size w (w.alloc (.cells #[vt] 33)) := (Below.refl _ _).alloc (Nat.le_refl _) _
  cases hb : symsOkB xs with
  | false =>
    rw [hb] at CV
    have HA : Hid (isTreeR xs ns = false) := by show _ = _; simp [isTreeR, hb]
    have BA := Lib.hid bA
    clear hb h ht R bA
    go_enter Try.func11, Try.ntmps11
    go_wp2_with fail
    refine CV.out.mono ?_
    rintro en w1 ⟨rfl, b1⟩
    have b2 := Lib.hid (BA.out.trans (b1.mono (by simp)))
    clear b1
    go_wp2_with fail
    go_ret
    exact ⟨by rw [HA.out]; rfl, b2.out⟩
  | true =>
    rw [hb] at CV
    have HA : Hid (isTreeR xs ns = treeB xs ns) := by show _ = _; simp [isTreeR, hb]
    have CR := Lib.hid (fun (w' : World) (b : Below (w.alloc (.cells #[vt] 33)).heap.size (w.alloc (.cells #[vt] 33)) w') => spec_l21Read_c w' (h.below (bA.trans (b.mono (by simp)))) (ht.below (bA.trans (b.mono (by simp)))) (R.later b) hb)
    have BA := Lib.hid bA
    clear hb h ht R bA
    go_enter Try.func11, Try.ntmps11
    go_wp2_with fail
    refine CV.out.mono ?_
    rintro en w1 ⟨rfl, b1⟩
    have b2 := Lib.hid (BA.out.trans (b1.mono (by simp)))
    have b3 := Lib.hid b1
    clear b1
    go_wp2_with fail
    refine (CR.out w1 b3.out).mono ?_
    rintro en w2 ⟨b5, gp, rfl, p7, -⟩
    have b4 := Lib.hid (b2.out.trans (b5.mono b2.out.size))
    clear b5
    go_wp2_with fail
    go_ret
    exact ⟨by rw [HA.out]; rfl, b4.out⟩
set_option maxRecDepth 100000 in
set_option maxHeartbeats 1000000 in
theorem spec_TreeCost_c {e et : TypeId} {o ot : Bool} {xs : List PSymbol} {ns : List PNode} {vl vt : Value} {Fl Ft : List Nat} (w : World) (h : (pSymbols e).rep o w xs [vl] Fl) (ht : (pNodes et).rep ot w ns [vt] Ft) (hx : xs.length ≤ 1048576) (hsz : ∀ c ∈ xs, c.label.size ≤ 1048576) :
    Calls Try.prog 17 #[vl, .agg #[vt]] w fun en w' => en = .returned (.tuple #[.int .i64 (costR xs ns), .int .i64 (askF xs ns)]) ∧ Below w.heap.size w w' := by
  have R := Row.new w 33 #[vt]
  have bA : Below w.heap.size w (w.alloc (.cells #[vt] 33)) := (Below.refl _ _).alloc (Nat.le_refl _) _
  have CR := Lib.hid (spec_l21Ask_c (w.alloc (.cells #[vt] 33)) (h.alloc _) (ht.alloc _) R hx hsz)
  have BA := Lib.hid bA
  clear h ht R bA
  go_enter Try.func17, Try.ntmps17
  go_wp2_with fail
  refine CR.out.mono ?_
  rintro en w1 ⟨b1, p, rfl, hp⟩
  have b0 := Lib.hid (BA.out.trans (b1.mono (by simp)))
  clear b1
  by_cases h0 : askF xs ns = 0
  · obtain ⟨gp, gu, gb, gd, st, rfl, -, hch, -, -, h3⟩ := hp h0
    have HC : Hid (costR xs ns = costF xs ns ns.length) := by show _ = _; rw [costR, if_pos h0]
    have HA := Lib.hid h0
    rw [h0]
    have c4 := hch.row.cell' (i := 4) rfl
    rw [h3] at c4
    clear hp h0 hch h3
    go_wp2_with fail
    refine bodyPost_ret (v := .tuple #[.int .i64 (costF xs ns ns.length), .int .i64 0]) (by simp [results, Try.results17, go_sem]) rfl ⟨by rw [HC.out, HA.out], b0.out⟩
  · have HC : Hid (costR xs ns = 0) := by show _ = _; rw [costR, if_neg h0]
    have g : (askF xs ns != 0) = true := by simp [h0]
    clear hp h0
    go_wp2_with fail
    refine bodyPost_ret (v := .tuple #[.int .i64 0, .int .i64 (askF xs ns)]) (by simp [results, Try.results17, go_sem]) rfl ⟨by rw [HC.out], b0.out⟩
set_option maxRecDepth 100000 in
set_option maxHeartbeats 1000000 in
theorem spec_NodeBoxes_c {e et : TypeId} {o ot : Bool} {xs : List PSymbol} {ns : List PNode} {vl vt : Value} {Fl Ft : List Nat} (w : World) (h : (pSymbols e).rep o w xs [vl] Fl) (ht : (pNodes et).rep ot w ns [vt] Ft) (hx : xs.length ≤ 1048576) (hsz : ∀ c ∈ xs, c.label.size ≤ 1048576) :
    Calls Try.prog 30 #[vl, .agg #[vt]] w (GivesL (pBoxs 67) (boxesR xs ns) (askF xs ns) w) := by
  have R := Row.new w 33 #[vt]
  have bA : Below w.heap.size w (w.alloc (.cells #[vt] 33)) := (Below.refl _ _).alloc (Nat.le_refl _) _
  have CR := Lib.hid (spec_l21Ask_c (w.alloc (.cells #[vt] 33)) (h.alloc _) (ht.alloc _) R hx hsz)
  have BA := Lib.hid bA
  clear h ht R bA
  go_enter Try.func30, Try.ntmps30
  go_wp2_with fail
  refine CR.out.mono ?_
  rintro en w1 ⟨b1, p, rfl, hp⟩
  have b0 := Lib.hid (BA.out.trans (b1.mono (by simp)))
  clear b1
  by_cases h0 : askF xs ns = 0
  · obtain ⟨gp, gu, gb, gd, st, rfl, ⟨_, _, hgb, _⟩, hch, h1, -, -⟩ := hp h0
    have HC : Hid (boxesR xs ns = boxesF xs ns ns.length) := by show _ = _; rw [boxesR, if_pos h0]
    have HA := Lib.hid h0
    have hlen := tree_few (ask_zero h0).2
    have hbi := fun b hb => boxIn_ok64 (boxesF_in (symsOk_box (ask_zero h0).1) ns ns.length b hb)
    rw [h0]
    have c3 := hch.row.cell' (i := 3) rfl
    have hB := hch.bs
    rw [h1] at hB
    have HB : Hid ((pBoxs 67).rep true w1 (boxesF xs ns ns.length) [.slice (some ⟨gb, 0, none⟩) ns.length ns.length] [gb]) := by
      have := slice_of_row (T := pBox) (xs := boxesF xs ns ns.length) hB (repL_pBox _ hbi) (by rw [boxesF_len]; unfold maxLen; omega)
      rw [boxesF_len] at this
      exact this
    have HND : Hid (Fresh w.heap.size [gb]) := ⟨by simp, fun b hb => by simp at hb hgb; omega⟩
    clear hp h0 hch h1 hB hlen hgb hbi
    go_wp2_with fail
    refine bodyPost_ret (v := .tuple #[_, .int .i64 0]) (by simp [results, Try.results30, go_sem]; rfl) rfl ⟨_, [gb], by rw [HA.out], by rw [HC.out]; exact HB.out, HND.out, b0.out⟩
  · have HC : Hid (boxesR xs ns = []) := by show _ = _; rw [boxesR, if_neg h0]
    have g : (askF xs ns != 0) = true := by simp [h0]
    clear hp h0
    go_wp2_with fail
    refine bodyPost_ret (v := .tuple #[.slice none 0 0, .int .i64 (askF xs ns)]) (by simp [results, Try.results30, go_sem]) rfl ⟨_, [], rfl, by rw [HC.out]; exact slice_nil _ _ _ _, Fresh.nil _, b0.out⟩
end Go.Proofs.Ytkickllohilciaa
