/- The reference's reader of trees: reading a node of no kind. Conditions: none. -/
import Derived.Test.YtkickllohilciaaRd3
namespace Go.Proofs.Ytkickllohilciaa
open Go Go.RowKit

set_option maxRecDepth 100000 in
set_option maxHeartbeats 8000000 in
theorem spec_readx_c {e et : TypeId} {o ot : Bool} {xs : List PSymbol} {ns : List PNode} {vl vn : Value} {Fl Fn : List Nat} {gp gu gb gd f : Nat} {st : RdSt} {c : Int} (IH : ReadC e et o ot xs ns vl vn Fl Fn gp gu gb gd f) (hsy : ∀ s ∈ xs, boxIn (boxOf s)) (hx : xs.length ≤ 8) (hn : ns.length ≤ 15) (k : Nat) (w : World) (kd a b sg : Int) (hnd : nodeAt ns k = ⟨kd, a, b, sg⟩) (h0 : kd ≠ 0) (hkd : ¬ (1 ≤ kd ∧ kd ≤ 5)) (hkf : k < f + 1) (hk : k < ns.length) (h : Rd e et o ot xs ns vl vn Fl Fn gp gu gb gd st w) (hg : st.good = true) (hi : RdInv st c) (hc : c + 40000 * ((k : Int) + 1) ≤ 640000) :
    Calls Try.prog 56 #[.pointer (some ⟨gp, 0, none⟩), .int .i64 (k : Int)] w (RPost e et o ot xs ns vl vn Fl Fn gp gu gb gd (readS xs ns (f + 1) k st) w) := by
  have hgp := h.row.lt
  have hgu := h.us.lt
  have hgb := h.bs.lt
  have hgd := h.ds.lt
  have hFl : ∀ b ∈ Fl, b < w.heap.size := fun b hb => (pSymbols e).lt h.syms b hb
  have hFn : ∀ b ∈ Fn, b < w.heap.size := fun b hb => (pNodes et).lt h.nods b hb
  have hfr : w.heap.size ∉ [gp, gu, gb, gd] := by simp; omega
  have hfr2 : w.heap.size ∉ [gp, gu] := by simp; omega
  obtain ⟨B, d, rfl, _, _, hr⟩ := pNodes_open h.nods
  obtain ⟨gn, og, rfl, hgn, hgnF, q0, q1, q2, q3, _⟩ := hr k hk
  rw [← nodeAt_get hk, hnd] at q0 q1 q2 q3
  dsimp only at q0 q1 q2 q3
  clear hr
  have p1 := h.row.cell' (i := 1) rfl
  have k0 : (0 : Int) ≤ (k : Int) := by omega
  have k1 : (k : Int) < (ns.length : Int) := by omega
  have ek : IntKind.i64.wrap ((k : Int) - 1) = (k : Int) - 1 := IntWalk.i64_in _ (by omega)
  have RD := h.alloc (.cells #[.int .i64 kd, .int .i64 a, .int .i64 b, .int .i64 sg] 84)
  have R5 := Row.new w 84 #[.int .i64 kd, .int .i64 a, .int .i64 b, .int .i64 sg]
  have on : Only [gp, gu, gb, gd] w (w.alloc (.cells #[.int .i64 kd, .int .i64 a, .int .i64 b, .int .i64 sg] 84)) := (Only.refl _ _).alloc _
  have E : readS xs ns (f + 1) k st = (-1, { st with good := false }) := by
    rw [readS, hnd]
    rw [if_neg h0, if_neg hkd]
  rw [E]
  have hb : inR kd 1 5 = false := by
    unfold inR
    cases e1 : decide (1 ≤ kd) <;> cases e2 : decide (kd ≤ 5) <;> simp at * <;> omega
  have CI := Lib.hid (spec_inR_c kd 1 5)
  rw [hb] at CI
  have g0 : (kd == 0) = false := by simp [h0]
  clear h hi hc hg E hnd IH hb h0 hkd hsy
  go_enter Try.func56, Try.ntmps56
  go_upto_region 2 with fail
  generalize w.alloc (.cells #[.int .i64 kd, .int .i64 a, .int .i64 b, .int .i64 sg] 84) = w0 at RD R5 on ⊢
  clear q0 q1 q2 q3 p1
  have t0 := R5.cell' (i := 0) rfl
  have t1 := R5.cell' (i := 1) rfl
  have t2 := R5.cell' (i := 2) rfl
  have t3 := R5.cell' (i := 3) rfl
  have p7 := RD.row.cell' (i := 7) rfl
  have Fp := RD.row.frozen
  have HRD := Lib.hid (RD.setGood false)
  have HON := Lib.hid (on.set (p := ⟨gp, 7, none⟩) (by simp) (.bool false))
  clear RD R5 on
  go_wp2_with fail
  refine (CI.out _).mono ?_
  rintro en w1 ⟨rfl, rfl⟩
  go_wp2_with fail
  go_ret
  exact ⟨rfl, HON.out, HRD.out⟩
end Go.Proofs.Ytkickllohilciaa
