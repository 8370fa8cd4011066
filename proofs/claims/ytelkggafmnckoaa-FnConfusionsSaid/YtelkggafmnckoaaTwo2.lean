/- What FnDistances draws: two texts, and steps. Conditions: none. -/
import Derived.Test.YtelkggafmnckoaaTwo
import Derived.Test.YtelkggafmnckoaaSrc3
import Derived.Test.YtelkggafmnckoaaLAlignment
namespace Go.Proofs.Ytelkggafmnckoaa
open Go Go.RowKit

theorem astep_set0 : ∀ (xs : List AStep) (k : Nat) (hk : k < xs.length) (n : Int), (xs.flatMap astepCells).set (k * 3) (.int .i64 n) = (xs.set k { xs[k] with op := n }).flatMap astepCells
  | s :: r, 0, _, n => by simp [astepCells]
  | s :: r, k + 1, h, n => by
    have ih := astep_set0 r k (by simpa using h) n
    rw [show (k + 1) * 3 = k * 3 + 3 by omega]
    simp only [List.flatMap_cons, List.set_cons_succ, List.getElem_cons_succ, ← ih]
    simp [astepCells]
theorem astep_set1 : ∀ (xs : List AStep) (k : Nat) (hk : k < xs.length) (n : Int), (xs.flatMap astepCells).set (k * 3 + 1) (.int .i64 n) = (xs.set k { xs[k] with i := n }).flatMap astepCells
  | s :: r, 0, _, n => by simp [astepCells]
  | s :: r, k + 1, h, n => by
    have ih := astep_set1 r k (by simpa using h) n
    rw [show (k + 1) * 3 + 1 = k * 3 + 1 + 3 by omega]
    simp only [List.flatMap_cons, List.set_cons_succ, List.getElem_cons_succ, ← ih]
    simp [astepCells]
theorem astep_set2 : ∀ (xs : List AStep) (k : Nat) (hk : k < xs.length) (n : Int), (xs.flatMap astepCells).set (k * 3 + 2) (.int .i64 n) = (xs.set k { xs[k] with j := n }).flatMap astepCells
  | s :: r, 0, _, n => by simp [astepCells]
  | s :: r, k + 1, h, n => by
    have ih := astep_set2 r k (by simpa using h) n
    rw [show (k + 1) * 3 + 2 = k * 3 + 2 + 3 by omega]
    simp only [List.flatMap_cons, List.set_cons_succ, List.getElem_cons_succ, ← ih]
    simp [astepCells]
/-- Steps of one's own: the cells of one, and what stores and a cut leave. -/
theorem asteps_own {w : World} {e : TypeId} {xs : List AStep} {v : Value} {F : List Nat} (h : (asteps e).rep true w xs [v] F) {k : Nat} (hk : k < xs.length) :
    ∃ g c, v = .slice (some ⟨g, 0, none⟩) xs.length c ∧ F = [g] ∧ g < w.heap.size ∧ xs.length ≤ c ∧ c ≤ maxLen ∧ w.cell? ⟨g, k * 3, none⟩ = some (.int .i64 xs[k].op) ∧ w.cell? ⟨g, k * 3 + 1, none⟩ = some (.int .i64 xs[k].i) ∧ w.cell? ⟨g, k * 3 + 2, none⟩ = some (.int .i64 xs[k].j) ∧ (∀ i, w.frozen? ⟨g, i, none⟩ = false) ∧
      (∀ n, I64 n → (asteps e).rep true (w.setCell ⟨g, k * 3, none⟩ (.int .i64 n)) (xs.set k { xs[k] with op := n }) [v] F) ∧ (∀ n, I64 n → (asteps e).rep true (w.setCell ⟨g, k * 3 + 1, none⟩ (.int .i64 n)) (xs.set k { xs[k] with i := n }) [v] F) ∧ (∀ n, I64 n → (asteps e).rep true (w.setCell ⟨g, k * 3 + 2, none⟩ (.int .i64 n)) (xs.set k { xs[k] with j := n }) [v] F) ∧
      (asteps e).rep true w (xs.take k) [.slice (some ⟨g, 0, none⟩) k c] F := by
  obtain ⟨A, c0, hv0, hc1, hc2, hr⟩ := asteps_open h
  obtain ⟨g, c, cs, rest, G, rfl, hlc, hcm, hrow, hrep, hlen, rfl⟩ := row_of_slice h (by omega)
  have hok := asteps_ok h
  obtain ⟨rfl, rfl⟩ := repL_astep_inv hrep
  have hkk : astepOk xs[k] := hok _ (List.getElem_mem hk)
  obtain ⟨b, off, hA, hbb, _, q0, q1, q2, _⟩ := hr k hk
  injection hv0 with e1 _ _
  rw [hA] at e1
  injection e1 with e1
  injection e1 with e1 e2 _
  subst e1; subst e2
  rw [Nat.zero_add] at q0 q1 q2
  have hl := astepCells_len xs
  have setc : ∀ (i : Nat) (n : Int) (s : AStep), i < 3 → astepOk s → (xs.flatMap astepCells).set (k * 3 + i) (.int .i64 n) = (xs.set k s).flatMap astepCells → (asteps e).rep true (w.setCell ⟨g, k * 3 + i, none⟩ (.int .i64 n)) (xs.set k s) [.slice (some ⟨g, 0, none⟩) xs.length c] [g] := by
    intro i n s hi hs he
    have hr2 := hrow.set (k * 3 + i) (.int .i64 n)
    rw [List.set_append_left _ _ (by omega), he] at hr2
    have hok2 : ∀ t ∈ xs.set k s, astepOk t := fun t ht => by
      rcases List.mem_or_eq_of_mem_set ht with h | rfl
      · exact hok t h
      · exact hs
    exact slice_of_room hr2 (repL_astep _ hok2) (by simp) hlc hcm (by rw [← hlen]; simp only [List.length_append, astepCells_len, List.length_set])
  refine ⟨g, c, rfl, rfl, hbb, hlc, hcm, q0, q1, q2, hrow.frozen, ?_, ?_, ?_, ?_⟩
  · intro n hn
    exact setc 0 n _ (by omega) ⟨hn, hkk.2⟩ (astep_set0 xs k hk n)
  · intro n hn
    exact setc 1 n _ (by omega) ⟨hkk.1, hn, hkk.2.2⟩ (astep_set1 xs k hk n)
  · intro n hn
    exact setc 2 n _ (by omega) ⟨hkk.1, hkk.2.1, hn⟩ (astep_set2 xs k hk n)
  · have e : xs.flatMap astepCells = (xs.take k).flatMap astepCells ++ (xs.drop k).flatMap astepCells := by rw [← List.flatMap_append, List.take_append_drop]
    rw [e, List.append_assoc] at hrow hlen
    exact slice_of_room hrow (repL_astep _ (fun s hs => hok s (List.mem_of_mem_take hs))) (by simp; omega) (by omega) hcm hlen
theorem i64_w (n : Int) : I64 (wrap64 n) := by unfold wrap64 I64; omega
set_option maxRecDepth 100000 in
set_option maxHeartbeats 1000000 in
theorem spec_DrawEditDistance_c {e : TypeId} {code : List UInt8} {v : Value} {F : List Nat} (w : World) (h : (byte.slice e).rep false w code [v] F) (hc : code.length ≤ 4096) :
    Calls Try.prog 7 #[v] w fun e' w' => (∃ a b : ByteArray, a.size ≤ 64 ∧ b.size ≤ 64 ∧ e' = .returned (.tuple #[.string a, .string b])) ∧ Below w.heap.size w w' := by
  have H0 := Lib.hid (l00From_c w h hc)
  obtain ⟨A, c, rfl⟩ := slice_len h
  clear h
  go_enter Try.func7, Try.ntmps7
  go_wp2_with fail
  refine H0.out.mono ?_
  rintro e w1 ⟨rfl, S1, b1⟩
  have hl := S1.lt
  have H1 := Lib.hid (spec_l25Two_c w1 S1 (by omega) (by omega))
  go_wp2_with fail
  refine H1.out.mono ?_
  rintro e w2 ⟨⟨a, b, ha, hb, rfl⟩, S2, O2⟩
  go_wp2_with fail
  go_ret2
  exact ⟨⟨a, b, ha, hb, rfl⟩, b1.trans (O2.below b1.size (by simp))⟩
/-- What DrawIsAlignment leaves. -/
def StepsPost (w : World) (en : Ending) (w' : World) : Prop :=
  ∃ (a b : ByteArray) (xs : List AStep) (u : Value) (G : List Nat), a.size ≤ 64 ∧ b.size ≤ 64 ∧ xs.length ≤ 128 ∧ en = .returned (.tuple #[.string a, .string b, u]) ∧ (asteps 67).rep true w' xs [u] G ∧ Below w.heap.size w w'
set_option maxRecDepth 100000 in
set_option maxHeartbeats 4000000 in
theorem spec_DrawIsAlignment_c {e : TypeId} {code : List UInt8} {v : Value} {F : List Nat} (w : World) (h : (byte.slice e).rep false w code [v] F) (hc : code.length ≤ 4096) :
    Calls Try.prog 12 #[v] w (StepsPost w) := by
  have H0 := Lib.hid (l00From_c w h hc)
  obtain ⟨A, c, rfl⟩ := slice_len h
  clear h
  go_enter Try.func12, Try.ntmps12
  go_wp2_with fail
  refine H0.out.mono ?_
  rintro e w1 ⟨rfl, S1, b1⟩
  have hl := S1.lt
  have H1 := Lib.hid (spec_l25Two_c w1 S1 (by omega) (by omega))
  go_wp2_with fail
  refine H1.out.mono ?_
  rintro e w2 ⟨⟨a, b, ha, hb, rfl⟩, S2, O2⟩
  have H2 := Lib.hid (spec_l25Steps_c a b w2 (by omega) (by omega))
  have s2 := O2.size
  have b2 := b1.trans (O2.below b1.size (by simp))
  go_wp2_with fail
  refine H2.out.mono ?_
  rintro e w3 ⟨u, G, rfl, rep, fr, b3⟩
  have hlen := alignFrom_len a b (a.size + b.size) 0 0
  have S3 := S2.below b3
  have s3 := b3.size
  have bb := b2.trans (b3.mono b2.size)
  have gG : w.heap.size ∉ G := fun hin => by have := fr.2 _ hin; omega
  have grp : ∀ x ∈ G, w.heap.size + 1 ≤ x := fun x hx => by have := fr.2 _ hx; omega
  have hxl : (align a b).length ≤ 128 := by unfold align; omega
  generalize align a b = xs at rep hlen hxl
  have REP := Lib.hid rep
  have GG := Lib.hid gG
  have GR := Lib.hid grp
  have HLEN := Lib.hid hxl
  obtain ⟨U, uc, rfl⟩ := slice_len rep
  clear rep fr hlen H0 H1 H2 S1 S2 O2 b1 b2 b3 hl gG grp
  by_cases hn : 0 < xs.length
  · have g1 : (0 : Int) < (xs.length : Int) := by omega
    have H3 := Lib.hid (src_one_c w3 S3 (by omega) 2 (by omega))
    go_wp2_with fail
    refine H3.out.mono ?_
    rintro e w4 ⟨⟨q, rfl⟩, S4, O4⟩
    have R4 := REP.out.only O4 (fun b hb hin => by simp at hin; subst hin; exact GG.out hb)
    have b4 := bb.trans (O4.below bb.size (by simp))
    cases q with
    | false =>
      have R4' := Lib.hid R4
      clear R4
      go_wp2_with fail
      refine bodyPost_ret (v := .tuple #[.string a, .string b, .slice U xs.length uc]) (by simp [results, Try.results12, go_sem]) rfl ?_
      exact ⟨a, b, xs, _, G, ha, hb, HLEN.out, rfl, R4'.out, b4⟩
    | true =>
      have R4' := Lib.hid R4
      clear R4
      have H5 := Lib.hid (src_pick_c w4 S4 (by omega) (xs.length : Int) (by have := HLEN.out; omega))
      go_wp2_with fail
      refine H5.out.mono ?_
      rintro e w5 ⟨⟨r, r0, r1, rfl⟩, S5, O5⟩
      obtain ⟨k, rfl⟩ := Int.eq_ofNat_of_zero_le r0
      have hk : k < xs.length := by omega
      have R5 := R4'.out.only O5 (fun b hb hin => by simp at hin; subst hin; exact GG.out hb)
      have b5 := b4.trans (O5.below b4.size (by simp))
      obtain ⟨g, c, hv, rfl, hg, hc1, hc2, q0, q1, q2, hfz, t0, t1, t2, tk⟩ := asteps_own R5 hk
      injection hv with e1 _ e2
      subst e1; subst e2
      have i1 : (0 : Int) ≤ (k : Int) := by omega
      have i2 : (k : Int) < (xs.length : Int) := by omega
      have R5' := Lib.hid R5
      have hgw : w.heap.size + 1 ≤ g := GR.out g (by simp)
      have H6 := Lib.hid (src_pick_c w5 S5 (by omega) 4 (by omega))
      clear R5 t0 t1 t2 tk q0 q1 q2 hfz r0 r1 H3 H5
      go_wp2_with fail
      refine H6.out.mono ?_
      rintro e w6 ⟨⟨r, r0, r1, rfl⟩, S6, O6⟩
      have R6 := R5'.out.only O6 (fun b hb hin => by simp at hin; subst hin; exact GG.out hb)
      have b6 := b5.trans (O6.below b5.size (by simp))
      have hr4 : r = 0 ∨ r = 1 ∨ r = 2 ∨ r = 3 := by omega
      have H7 := Lib.hid (src_pick_c w6 S6 (by omega) 6 (by omega))
      clear r0 r1 H6 R5' S5 S4 O4 O5 b4 b5
      rcases hr4 with rfl | rfl | rfl | rfl
      · have R6' := Lib.hid R6
        clear R6
        go_wp2_with fail
        refine H7.out.mono ?_
        rintro e w7 ⟨⟨r, r0, r1, rfl⟩, S7, O7⟩
        have R7 := R6'.out.only O7 (fun b hb hin => by simp at hin; subst hin; exact GG.out hb)
        have b7 := b6.trans (O7.below b6.size (by simp))
        obtain ⟨g2, c2, hv, -, hg, hc1, hc2, q0, q1, q2, hfz, t0, t1, t2, tk⟩ := asteps_own R7 hk
        cases hv
        have T0 := Lib.hid t0
        have kw : IntKind.i64.wrap (r - 1) = r - 1 := IntWalk.i64_in _ (by omega)
        have ki : I64 (r - 1) := by unfold I64; omega
        clear R7 t0 t1 t2 tk q1 q2
        go_wp2_with fail
        refine bodyPost_ret (v := .tuple #[.string a, .string b, .slice (some ⟨g, 0, none⟩) xs.length uc]) (by simp [results, Try.results12, go_sem]) rfl ?_
        exact ⟨a, b, _, _, _, ha, hb, by simpa using HLEN.out, rfl, T0.out _ ki, b7.setCell (by show w.heap.size ≤ g; omega) _⟩
      · obtain ⟨g2, c2, hv, -, hg, hc1, hc2, q0, q1, q2, hfz, t0, t1, t2, tk⟩ := asteps_own R6 hk
        cases hv
        have T1 := Lib.hid t1
        clear R6 t0 t1 t2 tk q0 q2
        go_wp2_with fail
        refine bodyPost_ret (v := .tuple #[.string a, .string b, .slice (some ⟨g, 0, none⟩) xs.length uc]) (by simp [results, Try.results12, go_sem]) rfl ?_
        refine ⟨a, b, _, _, _, ha, hb, ?_, rfl, T1.out _ ?_, b6.setCell (by show w.heap.size ≤ g; omega) _⟩
        · simpa using HLEN.out
        · first | exact i64_w _ | (rw [IntKind.wrap_i64]; exact i64_w _)
      · obtain ⟨g2, c2, hv, -, hg, hc1, hc2, q0, q1, q2, hfz, t0, t1, t2, tk⟩ := asteps_own R6 hk
        cases hv
        have T2 := Lib.hid t2
        clear R6 t0 t1 t2 tk q0 q1
        go_wp2_with fail
        refine bodyPost_ret (v := .tuple #[.string a, .string b, .slice (some ⟨g, 0, none⟩) xs.length uc]) (by simp [results, Try.results12, go_sem]) rfl ?_
        refine ⟨a, b, _, _, _, ha, hb, ?_, rfl, T2.out _ ?_, b6.setCell (by show w.heap.size ≤ g; omega) _⟩
        · simpa using HLEN.out
        · first | exact i64_w _ | (rw [IntKind.wrap_i64]; exact i64_w _)
      · obtain ⟨g2, c2, hv, -, hg, hc1, hc2, q0, q1, q2, hfz, t0, t1, t2, tk⟩ := asteps_own R6 hk
        cases hv
        have TK := Lib.hid tk
        have hkc : k ≤ uc := by omega
        clear R6 t0 t1 t2 tk q0 q1 q2
        go_wp2_with fail
        refine bodyPost_ret (v := .tuple #[.string a, .string b, .slice (some ⟨g, 0, none⟩) k uc]) (by simp [results, Try.results12, go_sem]) rfl ?_
        exact ⟨a, b, _, _, _, ha, hb, by have := HLEN.out; simp; omega, rfl, TK.out, b6⟩
  · have g1 : ¬ ((0 : Int) < (xs.length : Int)) := by omega
    go_wp2_with fail
    refine bodyPost_ret (v := .tuple #[.string a, .string b, .slice U xs.length uc]) (by simp [results, Try.results12, go_sem]) rfl ?_
    exact ⟨a, b, xs, _, G, ha, hb, HLEN.out, rfl, REP.out, bb⟩
end Go.Proofs.Ytelkggafmnckoaa
