/- The program's checker of trees: what its block holds; use and pop. Conditions: none. -/
import Derived.Test.YtkickllohilciaaCost2
import Derived.Test.YtkickllohilciaaSyms
import Derived.Test.YtkickllohilciaaBools
namespace Go.Proofs.Ytkickllohilciaa
open Go Go.RowKit

/-- The checker's block, and what hangs on it. -/
structure Chk (e : TypeId) (o : Bool) (xs : List PSymbol) (vl : Value) (Fl : List Nat) (gp : Nat) (st : ChSt) (vu vo vb : Value) (Fu Fo Fb : List Nat) (w : World) : Prop where
  row : Row w gp 82 [vl, vu, vo, vb, .int .i64 st.cost]
  syms : (pSymbols e).rep o w xs [vl] Fl
  us : (bools 4).rep true w st.used [vu] Fu
  op : (nums 2).rep true w st.opn [vo] Fo
  bs : (pBoxs 67).rep true w st.boxes [vb] Fb
  nd : (gp :: (Fu ++ (Fo ++ Fb))).Nodup
  dis : ∀ b ∈ Fl, b ∉ gp :: (Fu ++ (Fo ++ Fb))
section
variable {e : TypeId} {o : Bool} {xs : List PSymbol} {vl vu vo vb : Value} {Fl Fu Fo Fb G : List Nat} {gp : Nat} {st : ChSt} {w w' : World}
theorem Row.onlyC {g : Nat} {cs : List Value} (h : Row w g e cs) (ho : Only G w w') (hg : g ∉ G) : Row w' g e cs := (ho.block g h.lt hg).trans h
theorem Chk.only (h : Chk e o xs vl Fl gp st vu vo vb Fu Fo Fb w) (ho : Only G w w') (hd : ∀ b ∈ gp :: (Fu ++ (Fo ++ Fb)), b ∉ G) (hl : ∀ b ∈ Fl, b ∉ G) : Chk e o xs vl Fl gp st vu vo vb Fu Fo Fb w' :=
  ⟨h.row.onlyC ho (hd _ (by simp)), h.syms.only ho hl, h.us.only ho (fun b hb => hd b (by simp [hb])), h.op.only ho (fun b hb => hd b (by simp [hb])), h.bs.only ho (fun b hb => hd b (by simp [hb])), h.nd, h.dis⟩
theorem Chk.below (h : Chk e o xs vl Fl gp st vu vo vb Fu Fo Fb w) (hb : Below w.heap.size w w') : Chk e o xs vl Fl gp st vu vo vb Fu Fo Fb w' :=
  h.only (G := []) (Only.of_below hb) (fun _ _ => by simp) (fun _ _ => by simp)
theorem Chk.alloc (h : Chk e o xs vl Fl gp st vu vo vb Fu Fo Fb w) (x : Obj) : Chk e o xs vl Fl gp st vu vo vb Fu Fo Fb (w.alloc x) := h.below ((Below.refl _ _).alloc (Nat.le_refl _) _)
theorem Chk.drew (h : Chk e o xs vl Fl gp st vu vo vb Fu Fo Fb w) : Chk e o xs vl Fl gp st vu vo vb Fu Fo Fb w.drew := h.below (Below.refl _ _).drew
theorem Chk.shape (h : Chk e o xs vl Fl gp st vu vo vb Fu Fo Fb w) : ∃ Al cl Au cu Ao co Ab cb, vl = .slice Al xs.length cl ∧ vu = .slice Au st.used.length cu ∧ vo = .slice Ao st.opn.length co ∧ vb = .slice Ab st.boxes.length cb := by
  obtain ⟨Al, cl, rfl⟩ := slice_len h.syms
  obtain ⟨Au, cu, rfl⟩ := slice_len h.us
  obtain ⟨Ao, co, rfl⟩ := slice_len h.op
  obtain ⟨Ab, cb, rfl⟩ := slice_len h.bs
  exact ⟨_, _, _, _, _, _, _, _, rfl, rfl, rfl, rfl⟩
end
set_option maxRecDepth 100000 in
set_option maxHeartbeats 1000000 in
theorem impl_use_c {e : TypeId} {o : Bool} {xs : List PSymbol} {vl vu vo vb : Value} {Fl Fu Fo Fb : List Nat} {gp : Nat} {st : ChSt} (k : Int) (w : World) (h : Chk e o xs vl Fl gp st vu vo vb Fu Fo Fb w) (hx : xs.length ≤ 1048576) (hl : st.used.length = xs.length) :
    Calls Try.prog 74 #[.pointer (some ⟨gp, 0, none⟩), .int .i64 k] w fun en w' => en = .returned (.bool (useK st.used k).isSome) ∧ Only Fu w w' ∧ Chk e o xs vl Fl gp { st with used := (useK st.used k).getD st.used } vu vo vb Fu Fo Fb w' := by
  obtain ⟨Al, cl, Au, cu, Ao, co, Ab, cb, rfl, rfl, rfl, rfl⟩ := h.shape
  have p0 := h.row.cell' (i := 0) rfl
  have p1 := h.row.cell' (i := 1) rfl
  have C := impl_inR_c k 0 ((xs.length : Int) - 1)
  have e1 : IntKind.i64.wrap ((xs.length : Int) - 1) = (xs.length : Int) - 1 := IntWalk.i64_in _ (by omega)
  by_cases hin : 0 ≤ k ∧ k < (xs.length : Int)
  · obtain ⟨n, rfl⟩ : ∃ n : Nat, k = (n : Int) := ⟨k.toNat, by omega⟩
    have hn : n < st.used.length := by omega
    have hb : inR (n : Int) 0 ((xs.length : Int) - 1) = true := by simp [inR]; omega
    rw [hb] at C
    have HC := Lib.hid C
    obtain ⟨g, c, hg, hF, hgl, hcell, hfr, hset⟩ := bools_set h.us hn
    injection hg with hg1 _ hg3
    subst hg1; subst hg3; subst hF
    have hu : useK st.used (n : Int) = if st.used[n] = false then some (st.used.set n true) else none := by
      unfold useK
      simp only [Int.toNat_natCast]
      rw [List.getD_eq_getElem?_getD, List.getElem?_eq_getElem hn]
      by_cases hf : st.used[n] = false
      · rw [if_pos hf, if_pos ⟨by omega, by omega, by simpa using hf⟩]
      · rw [if_neg hf, if_neg (fun h => hf (by simpa using h.2.2))]
    rw [hu]
    have n0 : (0 : Int) ≤ (n : Int) := by omega
    have n1 : (n : Int) < (st.used.length : Int) := by omega
    have HL := Lib.hid hl
    have ng : gp ≠ g := fun e => by have := h.nd; simp at this; exact this.1.1 e
    have nG : ∀ b ∈ Fo ++ Fb, b ≠ g := fun b hb e => by
      have := h.nd
      rw [List.nodup_cons] at this
      have := this.2
      rw [List.singleton_append, List.nodup_cons] at this
      exact this.1 (e ▸ hb)
    have H := Lib.hid h
    clear hb C hin hu hl
    cases hv : st.used[n]
    · rw [hv] at hcell
      have HS := Lib.hid (hset true)
      clear hset hv
      go_enter Try.func74, Try.ntmps74
      go_wp2_with fail
      refine (HC.out _).mono ?_
      rintro en w1 ⟨rfl, rfl⟩
      go_wp2_with fail
      go_ret
      have h := H.out
      refine ⟨rfl, (Only.refl _ _).set (by simp) _, ?_⟩
      exact ⟨h.row.far ng _, h.syms.setCell (fun hb => h.dis _ hb (by simp)) _, HS.out, h.op.setCell (fun hb => nG _ (by simp [hb]) rfl) _, h.bs.setCell (fun hb => nG _ (by simp [hb]) rfl) _, h.nd, h.dis⟩
    · rw [hv] at hcell
      clear hset hv
      go_enter Try.func74, Try.ntmps74
      go_wp2_with fail
      refine (HC.out _).mono ?_
      rintro en w1 ⟨rfl, rfl⟩
      go_wp2_with fail
      go_ret
      exact ⟨rfl, Only.refl _ _, H.out⟩
  · have hb : inR k 0 ((xs.length : Int) - 1) = false := by
      cases hb : inR k 0 ((xs.length : Int) - 1) with
      | false => rfl
      | true => simp [inR] at hb; omega
    rw [hb] at C
    have HC := Lib.hid C
    have hu : useK st.used k = none := by
      unfold useK
      rw [if_neg (fun hh => hin ⟨hh.1, by omega⟩)]
    rw [hu]
    have H := Lib.hid h
    clear hu hin hb C h hl
    go_enter Try.func74, Try.ntmps74
    go_wp2_with fail
    refine (HC.out _).mono ?_
    rintro en w1 ⟨rfl, rfl⟩
    go_wp2_with fail
    go_ret
    exact ⟨rfl, Only.refl _ _, H.out⟩
set_option maxRecDepth 100000 in
set_option maxHeartbeats 1000000 in
theorem impl_pop_c {e : TypeId} {o : Bool} {xs : List PSymbol} {vl vu vo vb : Value} {Fl Fu Fo Fb : List Nat} {gp : Nat} {st : ChSt} (r : Int) (w : World) (h : Chk e o xs vl Fl gp st vu vo vb Fu Fo Fb w) (hx : st.opn.length ≤ 1048576) :
    Calls Try.prog 83 #[.pointer (some ⟨gp, 0, none⟩), .int .i64 r] w fun en w' => en = .returned (.bool (popK st.opn r).isSome) ∧ Only [gp] w w' ∧ ∃ vo', Chk e o xs vl Fl gp { st with opn := (popK st.opn r).getD st.opn } vu vo' vb Fu Fo Fb w' := by
  obtain ⟨Al, cl, Au, cu, Ao, co, Ab, cb, rfl, rfl, rfl, rfl⟩ := h.shape
  have p2 := h.row.cell' (i := 2) rfl
  have e1 : IntKind.i64.wrap ((st.opn.length : Int) - 1) = (st.opn.length : Int) - 1 := IntWalk.i64_in _ (by omega)
  by_cases h0 : st.opn.length = 0
  · have hu : popK st.opn r = none := by
      have : st.opn = [] := List.eq_nil_of_length_eq_zero h0
      simp [popK, this]
    rw [hu]
    have g : ((st.opn.length : Int) - 1 < 0) := by omega
    have H := Lib.hid h
    clear hu h
    go_enter Try.func83, Try.ntmps83
    go_wp2_with fail
    go_ret
    exact ⟨rfl, Only.refl _ _, _, H.out⟩
  · obtain ⟨n, hn⟩ : ∃ n, st.opn.length = n + 1 := ⟨st.opn.length - 1, by omega⟩
    have hnl : n < st.opn.length := by omega
    have hlast : st.opn.getLast? = some st.opn[n] := by
      rw [List.getLast?_eq_getElem?, show st.opn.length - 1 = n by omega, List.getElem?_eq_getElem hnl]
    have hu : popK st.opn r = if st.opn[n] = r then some (st.opn.take n) else none := by
      unfold popK
      rw [hlast, List.dropLast_eq_take, show st.opn.length - 1 = n by omega]
    rw [hu]
    have e2 : IntKind.i64.wrap ((st.opn.length : Int) - 1) = (n : Int) := e1.trans (by omega)
    have g0 : ¬ ((n : Int) < 0) := by omega
    have n0 : (0 : Int) ≤ (n : Int) := by omega
    have n1 : (n : Int) < (st.opn.length : Int) := by omega
    obtain ⟨g, c, hg, hF, hlc, hfront⟩ := nums_front h.op hnl
    injection hg with hg1 _ hg3
    subst hg1; subst hg3; subst hF
    obtain ⟨_, _, hvv, _, _, hrr⟩ := nums_open h.op
    obtain ⟨g', off', hA, _, _, hcell, _⟩ := hrr n hnl
    injection hvv with hA' _ hcc
    clear hcc
    rw [hA] at hA'
    injection hA' with hA'
    injection hA' with hA1 hA2 _
    subst hA1; subst hA2
    have HF := Lib.hid hfront
    have n2 : (n : Int) ≤ (co : Int) := by omega
    rw [Nat.zero_add] at hcell
    have hfrz := h.row.frozen 2
    have H := Lib.hid h
    clear hlast hu hrr hA hfront e1 h0
    have HN := Lib.hid hn
    clear hn
    by_cases hq : st.opn[n] = r
    · have gq : (st.opn[n] != r) = false := by simp [hq]
      rw [if_pos hq]
      clear hq
      go_enter Try.func83, Try.ntmps83
      go_wp2_with fail
      go_ret
      have h := H.out
      have hnd := h.nd
      rw [List.nodup_cons] at hnd
      have ng : ∀ b, b ∈ Fu ++ ([g] ++ Fb) → gp ≠ b := fun b hb e => hnd.1 (e ▸ hb)
      refine ⟨rfl, (Only.refl _ _).set (by simp) _, .slice (some ⟨g, 0, none⟩) n co, ?_⟩
      have hr := h.row.set 2 (.slice (some ⟨g, 0, none⟩) n co)
      exact ⟨hr, h.syms.setCell (fun hb => h.dis _ hb (by simp)) _, h.us.setCell (fun hb => ng _ (by simp [hb]) rfl) _, HF.out.setCell (fun hb => ng _ (by simpa using Or.inr (Or.inl (by simpa using hb))) rfl) _, h.bs.setCell (fun hb => ng _ (by simp [hb]) rfl) _, h.nd, h.dis⟩
    · have gq : (st.opn[n] != r) = true := by simp [hq]
      rw [if_neg hq]
      clear hq
      go_enter Try.func83, Try.ntmps83
      go_wp2_with fail
      go_ret
      exact ⟨rfl, Only.refl _ _, _, H.out⟩
end Go.Proofs.Ytkickllohilciaa
