/- The type TreeNode: its data, how it lies in memory, and the law's own helpers over it. Conditions: none. -/
import Derived.Test.YtkickllohilciaaRows
import Derived.Test.YtkickllohilciaaTyBox
namespace Go.Proofs.Ytkickllohilciaa
open Go Go.RowKit

structure PNode where
  kind : Int
  a : Int
  b : Int
  sign : Int
  deriving DecidableEq

def pNode : Ty PNode := (int64.prod (int64.prod (int64.prod int64))).via fun s => (s.kind, s.a, s.b, s.sign)
theorem pNode_rep {o : Bool} {w : World} {s : PNode} {cs : List Value} {F : List Nat} : pNode.rep o w s cs F ↔ cs = [.int .i64 s.kind, .int .i64 s.a, .int .i64 s.b, .int .i64 s.sign] ∧ F = [] ∧ I64 s.kind ∧ I64 s.a ∧ I64 s.b ∧ I64 s.sign := by
  constructor
  · rintro ⟨_, _, _, _, rfl, rfl, ⟨rfl, rfl, h0⟩, ⟨_, _, _, _, rfl, rfl, ⟨rfl, rfl, h1⟩, ⟨_, _, _, _, rfl, rfl, ⟨rfl, rfl, h2⟩, ⟨rfl, rfl, h3⟩⟩⟩⟩
    exact ⟨rfl, rfl, h0, h1, h2, h3⟩
  · rintro ⟨rfl, rfl, h0, h1, h2, h3⟩
    exact ⟨_, _, [], [], rfl, rfl, ⟨rfl, rfl, h0⟩, ⟨_, _, [], [], rfl, rfl, ⟨rfl, rfl, h1⟩, ⟨_, _, [], [], rfl, rfl, ⟨rfl, rfl, h2⟩, ⟨rfl, rfl, h3⟩⟩⟩⟩
def pNodes (e : TypeId) : Ty (List PNode) := pNode.slice e
theorem pNodes_open {o : Bool} {w : World} {e : TypeId} {xs : List PNode} {v : Value} {F : List Nat} (h : (pNodes e).rep o w xs [v] F) :
    ∃ A c, v = .slice A xs.length c ∧ xs.length ≤ c ∧ c ≤ maxLen ∧ ∀ k (hk : k < xs.length), ∃ b off, A = some ⟨b, off, none⟩ ∧ b < w.heap.size ∧ b ∈ F ∧
      w.cell? ⟨b, off + k * 4, none⟩ = some (.int .i64 xs[k].kind) ∧ w.cell? ⟨b, off + k * 4 + 1, none⟩ = some (.int .i64 xs[k].a) ∧ w.cell? ⟨b, off + k * 4 + 2, none⟩ = some (.int .i64 xs[k].b) ∧ w.cell? ⟨b, off + k * 4 + 3, none⟩ = some (.int .i64 xs[k].sign) ∧ I64 xs[k].kind ∧ I64 xs[k].a ∧ I64 xs[k].b ∧ I64 xs[k].sign := by
  obtain ⟨A, c, hv, h1, h2, h3⟩ := slice_open h
  refine ⟨A, c, hv, h1, h2, fun k hk => ?_⟩
  obtain ⟨b, off, ck, Fk, hA, hb, hin, hr, _, hc⟩ := h3 k hk
  obtain ⟨rfl, rfl, i0, i1, i2, i3⟩ := pNode_rep.1 hr
  exact ⟨b, off, hA, hb, hin, hc 0 _ rfl, by rw [Nat.add_assoc]; exact hc 1 _ rfl, by rw [Nat.add_assoc]; exact hc 2 _ rfl, by rw [Nat.add_assoc]; exact hc 3 _ rfl, i0, i1, i2, i3⟩
def pNodeCells (s : PNode) : List Value := [.int .i64 s.kind, .int .i64 s.a, .int .i64 s.b, .int .i64 s.sign]
def pNodeOk (s : PNode) : Prop := I64 s.kind ∧ I64 s.a ∧ I64 s.b ∧ I64 s.sign
theorem pNodeCells_len (xs : List PNode) : (xs.flatMap pNodeCells).length = xs.length * 4 := by
  induction xs with
  | nil => rfl
  | cons a r ih => simp only [List.flatMap_cons, List.length_append, ih, List.length_cons]; simp [pNodeCells]; omega
theorem repL_pNode {o : Bool} {w : World} : ∀ (xs : List PNode), (∀ s ∈ xs, pNodeOk s) → repL pNode o w xs (xs.flatMap pNodeCells) []
  | [], _ => ⟨rfl, rfl⟩
  | s :: r, h => ⟨_, _, [], [], rfl, rfl, pNode_rep.2 ⟨rfl, rfl, h s (by simp)⟩, repL_pNode r (fun t ht => h t (by simp [ht]))⟩
theorem repL_pNode_inv {o : Bool} {w : World} : ∀ {xs : List PNode} {cs : List Value} {F : List Nat}, repL pNode o w xs cs F → cs = xs.flatMap pNodeCells ∧ F = []
  | [], _, _, ⟨rfl, rfl⟩ => ⟨rfl, rfl⟩
  | s :: r, _, _, ⟨c1, c2, F1, F2, rfl, rfl, h1, h2⟩ => by
    obtain ⟨rfl, rfl, _⟩ := pNode_rep.1 h1
    obtain ⟨rfl, rfl⟩ := repL_pNode_inv h2
    exact ⟨rfl, rfl⟩
theorem pNodes_ok {o : Bool} {w : World} {e : TypeId} {xs : List PNode} {v : Value} {F : List Nat} (h : (pNodes e).rep o w xs [v] F) : ∀ s ∈ xs, pNodeOk s := by
  obtain ⟨_, _, _, _, _, hr⟩ := pNodes_open h
  intro s hs
  obtain ⟨k, hk, rfl⟩ := List.getElem_of_mem hs
  obtain ⟨_, _, _, _, _, _, _, _, _, h⟩ := hr k hk
  exact h

set_option maxHeartbeats 400000 in
theorem toTreeNode_c (s : PNode) (w : World) :
    Calls Try.prog 58 #[.agg #[.int .i64 s.kind, .int .i64 s.a, .int .i64 s.b, .int .i64 s.sign]] w fun e w' => e = .returned (.agg #[.int .i64 s.kind, .int .i64 s.a, .int .i64 s.b, .int .i64 s.sign]) ∧ Below w.heap.size w w' := by
  go_enter Try.func58, Try.ntmps58
  go_wp2_with fail
  refine bodyPost_ret (v := .agg #[.int .i64 s.kind, .int .i64 s.a, .int .i64 s.b, .int .i64 s.sign]) (by simp [results, Try.results58, go_sem]) rfl ⟨rfl, ?_⟩
  exact (((Below.refl _ _).alloc (Nat.le_refl _) _).alloc (by simp) _).alloc (by simp; omega) _
set_option maxHeartbeats 1000000 in
theorem toTreeNodeS_c {o : Bool} {e : TypeId} {xs : List PNode} {v : Value} {F : List Nat} (w : World) (h : (pNodes e).rep o w xs [v] F) (hx : xs.length ≤ 1048576) :
    Calls Try.prog 40 #[v] w fun e w' => ∃ u G, e = .returned u ∧ (pNodes 84).rep true w' xs [u] G ∧ Fresh w.heap.size G ∧ Below w.heap.size w w' := by
  have hok := pNodes_ok h
  obtain ⟨A, c, rfl, hc1, hc2, hr⟩ := pNodes_open h
  have hmk := make_run (P := Try.prog) (t := 31) (e := 84) (z := .agg #[.int .i64 0, .int .i64 0, .int .i64 0, .int .i64 0]) (size := 4) (bytes := 32) Try.underlying31 (by kernel_rfl) xs.length xs.length rfl (by omega) (by unfold maxLen; omega)
  go_enter Try.func40, Try.ntmps40
  go_wp2_with fail
  go_loopw [4] (fun i wr => ∃ k : Nat, k ≤ xs.length ∧ i = .int .i64 k ∧ ∃ rest, Row wr w.heap.size 84 ((xs.take k).flatMap pNodeCells ++ rest) ∧ rest.length = (xs.length - k) * 4 ∧ Below w.heap.size w wr) (fun i _ => xs.length - (intOf i).toNat)
  case atStart =>
    exact ⟨0, Nat.zero_le _, rfl, _, Row.new w _ _, by simp [madeCells], (Below.refl _ _).alloc (Nat.le_refl _) _⟩
  case round =>
    obtain ⟨k, hk, rfl, rest, hrow, hrl, hb⟩ := hrel
    by_cases hlt : k < xs.length
    · obtain ⟨b, off, rfl, hbb, _, h0, h1, h2, h3, _⟩ := hr k hlt
      rw [← hb.cell (p := ⟨b, _, none⟩) hbb] at h0 h1 h2 h3
      have hbs := hb.size
      have hrl2 := hrow.lt
      have hpl : ((xs.take k).flatMap pNodeCells).length = k * 4 := by rw [pNodeCells_len, List.length_take]; omega
      obtain ⟨r0, r1, r2, r3, rest', rfl⟩ : ∃ r0 r1 r2 r3 rest', rest = r0 :: r1 :: r2 :: r3 :: rest' := by
        match rest, hrl with
        | r0 :: r1 :: r2 :: r3 :: rest', _ => exact ⟨_, _, _, _, _, rfl⟩
        | [], h => simp at h; omega
        | [_], h => simp at h; omega
        | [_, _], h => simp at h; omega
        | [_, _, _], h => simp at h; omega
      clear hr h hmk
      go_wp2_with (go_at_call 58; refine (toTreeNode_c xs[k] _).mono ?_; rintro e w1 ⟨rfl, hb1⟩; have hrow1 := hrow.later hb1; obtain ⟨⟨v0, hv0⟩, hf0⟩ := hrow1.can (i := k * 4) (by simp [hpl]); obtain ⟨⟨v1, hv1⟩, hf1⟩ := hrow1.can (i := k * 4 + 1) (by simp [hpl]); obtain ⟨⟨v2, hv2⟩, hf2⟩ := hrow1.can (i := k * 4 + 2) (by simp [hpl]); obtain ⟨⟨v3, hv3⟩, hf3⟩ := hrow1.can (i := k * 4 + 3) (by simp [hpl]))
      go_roundw
      case rel =>
        refine ⟨k + 1, by omega, by go_num, rest', ?_, by simp at hrl; omega, (((((hb.trans (hb1.mono hbs)).setCell (Nat.le_refl _) _).setCell (Nat.le_refl _) _).setCell (Nat.le_refl _) _).setCell (Nat.le_refl _) _)⟩
        have R := ((((hrow1.put (j := 0) (i := k * 4) (by rw [hpl]; rfl) (.int .i64 xs[k].kind)).put (j := 1) (i := k * 4 + 1) (by rw [hpl]) (.int .i64 xs[k].a)).put (j := 2) (i := k * 4 + 2) (by rw [hpl]) (.int .i64 xs[k].b)).put (j := 3) (i := k * 4 + 3) (by rw [hpl]) (.int .i64 xs[k].sign))
        rw [List.take_succ_eq_append_getElem hlt, List.flatMap_append, List.append_assoc]
        exact R
      case measure => simp [intOf]; omega
    · obtain rfl : k = xs.length := by omega
      go_wp2_with fail
      go_ret
      have h0 : rest = [] := List.eq_nil_of_length_eq_zero (by simpa using hrl)
      subst h0
      rw [List.append_nil, List.take_length] at hrow
      exact ⟨_, [w.heap.size], rfl, slice_of_row hrow (repL_pNode xs hok) (by unfold maxLen; omega), ⟨by simp, by simp⟩, hb⟩
set_option maxHeartbeats 400000 in
theorem eqTreeNode_c (s t : PNode) (w : World) :
    Calls Try.prog 65 #[.agg #[.int .i64 s.kind, .int .i64 s.a, .int .i64 s.b, .int .i64 s.sign], .agg #[.int .i64 t.kind, .int .i64 t.a, .int .i64 t.b, .int .i64 t.sign]] w fun e w' => e = .returned (.bool (decide (s = t))) ∧ Below w.heap.size w w' := by
  have e : decide (s = t) = decide (s.kind = t.kind ∧ s.a = t.a ∧ s.b = t.b ∧ s.sign = t.sign) := by apply decide_eq_decide.2; cases s; cases t; simp
  rw [e]
  clear e
  go_enter Try.func65, Try.ntmps65
  go_wp2_with fail
  all_goals go_ret
  all_goals refine ⟨?_, ((Below.refl _ _).alloc (Nat.le_refl _) _).alloc (by simp) _⟩
  all_goals simp_all [str_eq]
set_option maxRecDepth 100000 in
set_option maxHeartbeats 1000000 in
theorem eqTreeNodeS_c {oa ob : Bool} {ea eb : TypeId} {xs ys : List PNode} {v u : Value} {F G : List Nat} (w : World) (h : (pNodes ea).rep oa w xs [v] F) (h' : (pNodes eb).rep ob w ys [u] G) (hx : xs.length ≤ 1048576) (hy : ys.length ≤ 1048576) :
    Calls Try.prog 44 #[v, u] w fun e w' => e = .returned (.bool (decide (xs = ys))) ∧ Below w.heap.size w w' := by
  obtain ⟨A, c, rfl, hc1, hc2, hr⟩ := pNodes_open h
  obtain ⟨B, d, rfl, hd1, hd2, hs⟩ := pNodes_open h'
  clear h h'
  by_cases hl : xs.length = ys.length
  · have hne : ((xs.length : Int) != (ys.length : Int)) = false := by simp [hl]
    have HL := Lib.hid hl
    clear hl
    go_enter Try.func44, Try.ntmps44
    go_wp2_with fail
    go_loopw [5] (fun i wr => ∃ k : Nat, k ≤ xs.length ∧ i = .int .i64 k ∧ (∀ j (hj : j < xs.length) (hj' : j < ys.length), j < k → xs[j] = ys[j]) ∧ Below w.heap.size w wr) (fun i _ => xs.length - (intOf i).toNat)
    case atStart => exact ⟨0, Nat.zero_le _, rfl, fun _ _ _ h => by omega, Below.refl _ _⟩
    case round =>
      obtain ⟨k, hk, rfl, hall, hb⟩ := hrel
      have hbs := hb.size
      by_cases hlt : k < xs.length
      · have hlt' : k < ys.length := by have := HL.out; omega
        obtain ⟨b, off, rfl, hbb, _, h0, h1, h2, h3, _⟩ := hr k hlt
        obtain ⟨b', off', rfl, hbb', _, g0, g1, g2, g3, _⟩ := hs k hlt'
        rw [← hb.cell (p := ⟨b, _, none⟩) hbb] at h0 h1 h2 h3
        rw [← hb.cell (p := ⟨b', _, none⟩) hbb'] at g0 g1 g2 g3
        have HA := Lib.hid hall
        clear hr hs hall
        have C := eqTreeNode_c xs[k] ys[k]
        by_cases hkk : xs[k] = ys[k]
        · rw [decide_eq_true hkk] at C
          have HC := Lib.hid C
          have HK := Lib.hid hkk
          clear C hkk
          go_wp2_with fail
          go_still_tail 8, (by kernel_rfl)
          go_wp2_with (go_at_call 65; refine (HC.out _).mono ?_; rintro e w1 ⟨rfl, hb1⟩)
          go_roundw
          case rel =>
            refine ⟨k + 1, by omega, by go_num, fun j hj hj' hjk => ?_, hb.drew.trans (hb1.mono hbs)⟩
            by_cases e : j = k
            · subst e; exact HK.out
            · exact HA.out j hj hj' (by omega)
          case measure => simp [intOf]; omega
        · rw [decide_eq_false hkk] at C
          have HC := Lib.hid C
          have HK := Lib.hid hkk
          clear C hkk
          go_wp2_with fail
          go_still_tail 8, (by kernel_rfl)
          go_wp2_with (go_at_call 65; refine (HC.out _).mono ?_; rintro e w1 ⟨rfl, hb1⟩)
          go_ret
          have hne : ¬ xs = ys := fun e => by subst e; exact HK.out rfl
          exact ⟨by simp [hne], hb.drew.trans (hb1.mono hbs)⟩
      · obtain rfl : k = xs.length := by omega
        have heq : xs = ys := List.ext_getElem HL.out (fun j h1 h2 => hall j h1 h2 h1)
        clear hall
        go_wp2_with fail
        go_ret
        exact ⟨by simp [heq], hb⟩
  · have hne : ((xs.length : Int) != (ys.length : Int)) = true := by rw [bne_iff_ne]; omega
    have hxy : ¬ xs = ys := fun e => hl (by rw [e])
    have HL := Lib.hid hxy
    clear hl hxy
    go_enter Try.func44, Try.ntmps44
    go_wp2_with fail
    go_ret
    exact ⟨by simp [HL.out], Below.refl _ _⟩
set_option maxHeartbeats 400000 in
theorem szTreeNodeS_c {o : Bool} {e : TypeId} {xs : List PNode} {v : Value} {F : List Nat} (w : World) (h : (pNodes e).rep o w xs [v] F) (left : Int) (hl : 0 ≤ left ∧ left ≤ 1048576) :
    Calls Try.prog 36 #[v, .int .i64 left] w fun e w' => (∃ r : Int, e = .returned (.int .i64 r) ∧ -1 ≤ r ∧ r ≤ left ∧ (0 ≤ r → r + xs.length ≤ left)) ∧ Below w.heap.size w w' := by
  obtain ⟨A, c, rfl, hc1, hc2, hr⟩ := pNodes_open h
  clear hr h
  unfold maxLen at hc2
  go_enter Try.func36, Try.ntmps36
  go_wp2_with fail
  all_goals go_ret
  all_goals exact ⟨⟨_, rfl, by omega⟩, Below.refl _ _⟩
/-- The marks from number s on. -/
def markPNode (n s : Nat) : List PNode := (List.range n).map fun i : Nat => ⟨(s : Int) + (i : Int) * 4, (s : Int) + (i : Int) * 4 + 1, (s : Int) + (i : Int) * 4 + 1 + 1, (s : Int) + (i : Int) * 4 + 1 + 1 + 1⟩
theorem markPNode_len (n s : Nat) : (markPNode n s).length = n := by simp [markPNode]
theorem markPNode_succ (n s : Nat) : markPNode (n + 1) s = markPNode n s ++ [⟨(s : Int) + (n : Int) * 4, (s : Int) + (n : Int) * 4 + 1, (s : Int) + (n : Int) * 4 + 1 + 1, (s : Int) + (n : Int) * 4 + 1 + 1 + 1⟩] := by simp [markPNode, List.range_succ]
theorem markPNode_ok (n s : Nat) (hn : n ≤ 1048576) (hs : s ≤ 10000000) : ∀ x ∈ markPNode n s, pNodeOk x := by
  intro x hx
  obtain ⟨i, hi, rfl⟩ := List.mem_map.1 hx
  have hi' : i < n := by simpa using hi
  refine ⟨⟨by dsimp only; omega, by dsimp only; omega⟩, ⟨by dsimp only; omega, by dsimp only; omega⟩, ⟨by dsimp only; omega, by dsimp only; omega⟩, ⟨by dsimp only; omega, by dsimp only; omega⟩⟩
set_option maxRecDepth 100000 in
set_option maxHeartbeats 1000000 in
theorem markTreeNodeS_c {e : TypeId} {xs : List PNode} {v : Value} {F : List Nat} (w : World) (h : (pNodes e).rep true w xs [v] F) (hx : xs.length ≤ 1048576) (s : Nat) (hs0 : 0 < s) (hs : s ≤ 10000000) :
    Calls Try.prog 51 #[v, .int .i64 s] w fun e' w' => e' = .returned (.int .i64 ((s : Int) + (xs.length : Int) * 4)) ∧ (pNodes e).rep true w' (markPNode xs.length s) [v] F ∧ Only F w w' := by
  by_cases hn : xs.length = 0
  · obtain ⟨A, c, hv, hc1, hc2, hr⟩ := slice_open h
    have hxs : xs = [] := List.eq_nil_of_length_eq_zero hn
    have h' : (pNodes e).rep true w (markPNode xs.length s) [v] F := by rw [hn]; rw [hxs] at h; exact h
    rw [hn] at hv
    subst hv
    rw [hn] at h' ⊢
    clear hn hr h hx hc1
    go_enter Try.func51, Try.ntmps51
    go_wp2_with fail
    refine wp_loop_rounds 1 ?_; rw [rounds_succ]
    go_wp2_with fail
    go_ret
    exact ⟨ret_int (by omega), h', Only.refl _ _⟩
  · obtain ⟨g, c, cs, rest, G, rfl, hl, hc, hrow, hrp, hlen, rfl⟩ := row_of_slice h (by omega)
    obtain ⟨rfl, rfl⟩ := repL_pNode_inv hrp
    have hgl := hrow.lt
    clear hrp h
    go_enter Try.func51, Try.ntmps51
    go_wp2_with fail
    go_loopw [1, 5] (fun m i wr => ∃ k : Nat, k ≤ xs.length ∧ i = .int .i64 k ∧ m = .int .i64 ((s : Int) + (k : Int) * 4) ∧ Row wr g e ((markPNode k s).flatMap pNodeCells ++ ((xs.drop k).flatMap pNodeCells ++ rest)) ∧ Only [g] w wr) (fun _ i _ => xs.length - (intOf i).toNat)
    case atStart => exact ⟨0, Nat.zero_le _, rfl, by simp, by simpa [markPNode] using hrow, Only.refl _ _⟩
    case round =>
      obtain ⟨k, hk, rfl, rfl, hrk, hb⟩ := hrel
      have hbs := hb.size
      by_cases hlt : k < xs.length
      · have hpl : ((markPNode k s).flatMap pNodeCells).length = k * 4 := by rw [pNodeCells_len, markPNode_len]
        have hgw : g < wr.heap.size := hrk.lt
        rw [List.drop_eq_getElem_cons hlt, List.flatMap_cons] at hrk
        have HP := Lib.hid hpl
        have HN := Lib.hid hn
        have HE := Lib.hid hlen
        have HR := Lib.hid hrk
        clear hpl hn hlen hrow hrk
        have R0 := HR.out
        obtain ⟨⟨v0, hv0⟩, hf0⟩ := Row.canJ R0 (i := k * 4) (j := 0) (by rw [HP.out]; rfl) (by simp [pNodeCells])
        have R1 := Row.put R0 (i := k * 4) (j := 0) (by rw [HP.out]; rfl) (.int .i64 ((s : Int) + (k : Int) * 4))
        obtain ⟨⟨v1, hv1⟩, hf1⟩ := Row.canJ R1 (i := k * 4 + 1) (j := 1) (by rw [HP.out]) (by simp [pNodeCells])
        have R2 := Row.put R1 (i := k * 4 + 1) (j := 1) (by rw [HP.out]) (.int .i64 ((s : Int) + (k : Int) * 4 + 1))
        obtain ⟨⟨v2, hv2⟩, hf2⟩ := Row.canJ R2 (i := k * 4 + 2) (j := 2) (by rw [HP.out]) (by simp [pNodeCells])
        have R3 := Row.put R2 (i := k * 4 + 2) (j := 2) (by rw [HP.out]) (.int .i64 ((s : Int) + (k : Int) * 4 + 1 + 1))
        obtain ⟨⟨v3, hv3⟩, hf3⟩ := Row.canJ R3 (i := k * 4 + 3) (j := 3) (by rw [HP.out]) (by simp [pNodeCells])
        have R4 := Row.put R3 (i := k * 4 + 3) (j := 3) (by rw [HP.out]) (.int .i64 ((s : Int) + (k : Int) * 4 + 1 + 1 + 1))
        have HZ := Lib.hid R4
        clear R0 R1 R2 R3 R4
        go_wp2_with fail
        go_roundw
        case rel =>
          refine ⟨k + 1, by omega, by go_num, by go_num, ?_, ((((hb.set (by simp) _).set (by simp) _).set (by simp) _).set (by simp) _)⟩
          have R := HZ.out
          rw [markPNode_succ, List.flatMap_append, List.append_assoc]
          exact R
        case measure => simp [intOf]; omega
      · obtain rfl : k = xs.length := by omega
        have HN := Lib.hid hn
        clear hn
        go_wp2_with fail
        go_ret
        rw [List.drop_length, List.flatMap_nil, List.nil_append] at hrk
        exact ⟨rfl, slice_of_room hrk (repL_pNode _ (markPNode_ok _ _ hx hs)) (by simp [markPNode]) hl hc (by rw [← hlen, List.length_append, List.length_append, pNodeCells_len, pNodeCells_len, markPNode_len]), hb⟩
end Go.Proofs.Ytkickllohilciaa
