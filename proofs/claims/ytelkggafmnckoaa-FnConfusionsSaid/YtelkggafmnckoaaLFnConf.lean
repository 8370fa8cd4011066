/- The walk of the law FnConfusions. Conditions: none. -/
import Derived.Test.YtelkggafmnckoaaConfU
import Derived.Test.YtelkggafmnckoaaConfJ
import Derived.Test.YtelkggafmnckoaaTwo3
import Derived.Test.YtelkggafmnckoaaLConfusions
import Derived.Test.YtelkggafmnckoaaLFnDist
import Derived.Laws.StructEq
namespace Go.Proofs.Ytelkggafmnckoaa
open Go Go.RowKit

theorem conf_same (s : PConf) (w : World) : (binOp .neq 55 (.agg #[.string s.want, .string s.got, .int .i64 s.count]) (.agg #[.string s.want, .string s.got, .int .i64 s.count])).run Try.prog w = .ok (.bool false) w := by
  have hS : Try.prog.underlying 55 = some (.struct (Try.prog.fieldsOf 55)) := by kernel_rfl
  have hp : Try.prog.stoodInHeld 55 = false := by kernel_rfl
  rw [run_neq_struct, show (10000 : Nat) = 9999 + 1 from rfl, run_equalIn_agg w 9999 55 _ _ hS hp]
  simp only [Program.fieldsOf, Try.underlying55]
  go_simp
  try simp
set_option maxRecDepth 100000 in
set_option maxHeartbeats 1000000 in
theorem spec_DrawConfusions_c {e : TypeId} {code : List UInt8} {v : Value} {F : List Nat} (w : World) (h : (byte.slice e).rep false w code [v] F) (hc : code.length ≤ 4096) :
    Calls Try.prog 29 #[v] w fun e' w' => (∃ xs u G, e' = .returned u ∧ (aCases 51).rep true w' xs [u] G ∧ xs.length ≤ 60 ∧ ∀ c ∈ xs, CaseSmall c) ∧ Below w.heap.size w w' := by
  have H0 := Lib.hid (l00From_c w h hc)
  obtain ⟨A, c, rfl⟩ := slice_len h
  clear h
  go_enter Try.func29, Try.ntmps29
  go_wp2_with fail
  refine H0.out.mono ?_
  rintro e w1 ⟨rfl, S1, b1⟩
  have hl := S1.lt
  have H1 := Lib.hid (spec_l25List_c w1 S1 (by omega) (by omega))
  go_wp2_with fail
  refine H1.out.mono ?_
  rintro e w2 ⟨xs, u, G, rfl, r, hx, hs, O2⟩
  have R := Lib.hid r
  have HS := Lib.hid hs
  clear r hs
  go_wp2_with fail
  go_ret
  exact ⟨⟨xs, u, G, rfl, R.out, hx, HS.out⟩, b1.trans (O2.below b1.size (by simp))⟩
set_option maxRecDepth 100000 in
set_option maxHeartbeats 1000000 in
theorem spec_DrawErrorRate_c {e : TypeId} {code : List UInt8} {v : Value} {F : List Nat} (w : World) (h : (byte.slice e).rep false w code [v] F) (hc : code.length ≤ 4096) :
    Calls Try.prog 34 #[v] w fun e' w' => (∃ a b : ByteArray, a.size ≤ 64 ∧ b.size ≤ 64 ∧ e' = .returned (.agg #[.string a, .string b])) ∧ Below w.heap.size w w' := by
  obtain ⟨A, c, rfl⟩ := slice_len h
  have H0 := Lib.hid (l00From_c (w.alloc (.cells #[.string .empty, .string .empty] 51)) (h.alloc _) hc)
  have ba : Below w.heap.size w (w.alloc (.cells #[.string .empty, .string .empty] 51)) := (Below.refl _ _).alloc (Nat.le_refl _) _
  clear h
  go_enter Try.func34, Try.ntmps34
  go_wp2_with fail
  refine H0.out.mono ?_
  rintro e w1 ⟨rfl, S1, b1⟩
  have hl := S1.lt
  have b1s := b1.size
  simp only [World.size_alloc] at hl b1s
  have R1 := (Row.new w 51 #[.string .empty, .string .empty]).later b1
  have H1 := Lib.hid (spec_l25Two_c w1 S1 (by omega) (by simp; omega))
  simp only [World.size_alloc] at H1
  go_wp2_with fail
  refine H1.out.mono ?_
  rintro e w2 ⟨⟨a, b, ha, hb, rfl⟩, S2, O2⟩
  have R2 : Row w2 w.heap.size 51 [.string .empty, .string .empty] := (O2.block _ (by omega) (by simp)).trans R1
  have O2s := O2.size
  have b2 : Below w.heap.size w w2 := (ba.trans (b1.mono (by simp))).trans (O2.below (by omega) (by simp))
  have c0 := R2.cell' (i := 0) rfl
  have c1 := R2.cell' (i := 1) rfl
  have cf := R2.frozen
  have R3 := (R2.set 0 (.string a)).set 1 (.string b)
  have d0 := R3.cell' (i := 0) rfl
  have d1 := R3.cell' (i := 1) rfl
  have b3 : Below w.heap.size w ((w2.setCell ⟨w.heap.size, 0, none⟩ (.string a)).setCell ⟨w.heap.size, 1, none⟩ (.string b)) := (b2.setCell (Nat.le_refl _) _).setCell (Nat.le_refl _) _
  have B3 := Lib.hid b3
  clear b3 H0 H1 S1 S2
  go_wp2_with fail
  refine bodyPost_ret (v := .agg #[.string a, .string b]) (by simp [results, Try.results34, go_sem, d0, d1]) rfl ?_
  exact ⟨⟨a, b, ha, hb, rfl⟩, B3.out⟩
/-- What the law's texts are. -/
theorem small_sizes {xs : List ACase} (h : ∀ c ∈ xs, CaseSmall c) : ∀ c ∈ xs, c.want.size ≤ 1048576 ∧ c.got.size ≤ 1048576 := fun c hc => by have := h c hc; unfold CaseSmall at this; omega
set_option maxRecDepth 100000 in
set_option maxHeartbeats 4000000 in
theorem law_FnConfusions {e : TypeId} {code : List UInt8} {v : Value} {F : List Nat} (w : World) (h : (byte.slice e).rep false w code [v] F) :
    Calls Try.prog 5 #[v] w fun e' w' => e' = .returned (.bool true) ∧ Below w.heap.size w w' := by
  have hv := h
  obtain ⟨A, c, rfl⟩ := slice_len h
  have cb := f6big_c (w := w) h
  by_cases hbig : 4096 < code.length
  · rw [decide_eq_true hbig] at cb
    have CB := Lib.hid cb
    clear cb
    go_enter Try.func5, Try.ntmps5
    go_wp2_with fail
    refine CB.out.mono ?_
    rintro e w1 ⟨rfl, rfl⟩
    go_wp2_with fail
    go_ret
    exact ⟨rfl, Below.refl _ _⟩
  · rw [decide_eq_false hbig] at cb
    have CB := Lib.hid cb
    have CD := Lib.hid (spec_DrawConfusions_c w h (by omega))
    have CS := Lib.hid (fun w' (b : Below w.heap.size w w') => spec_DrawErrorRate_c w' (h.below b) (by omega))
    clear cb h hv hbig
    go_enter Try.func5, Try.ntmps5
    go_wp2_with fail
    refine CB.out.mono ?_
    rintro e w1 ⟨rfl, rfl⟩
    go_wp2_with fail
    refine CD.out.mono ?_
    rintro e w1 ⟨⟨xs, u, G, rfl, r, hx, hs⟩, b1⟩
    have hz := small_sizes hs
    have HZ := Lib.hid hz
    have C1 := Lib.hid (impl_Confusions_c w1 r (by omega) hz)
    obtain ⟨U, uc, rfl⟩ := slice_len r
    clear hs hz CD CB
    go_wp2_with fail
    refine C1.out.mono ?_
    rintro e w2 ⟨u2, G2, rfl, x2, -, b2⟩
    replace r := r.below b2
    replace b2 := bt b1 b2
    have C2 := Lib.hid (spec_Confusions_c w2 r (by omega))
    obtain ⟨U2, uc2, rfl⟩ := slice_len x2
    go_wp2_with fail
    refine C2.out.mono ?_
    rintro e w3 ⟨u3, G3, rfl, y3, -, b3⟩
    replace r := r.below b3
    replace x2 := x2.below b3
    replace b3 := bt b2 b3
    have C3 := Lib.hid (impl_TotalRate_c w3 r (by omega) HZ.out)
    obtain ⟨U3, uc3, rfl⟩ := slice_len y3
    go_wp2_with fail
    refine C3.out.mono ?_
    rintro e w4 ⟨rfl, b4⟩
    replace r := r.below b4
    replace x2 := x2.below b4
    replace y3 := y3.below b4
    replace b4 := bt b3 b4
    have C4 := Lib.hid (spec_TotalRate_c w4 r (by omega) HZ.out)
    go_wp2_with fail
    refine C4.out.mono ?_
    rintro e w5 ⟨rfl, b5⟩
    replace r := r.below b5
    replace x2 := x2.below b5
    replace y3 := y3.below b5
    replace b5 := bt b4 b5
    have C5 := Lib.hid (impl_WordsRight_c w5 r (by omega) HZ.out)
    go_wp2_with fail
    refine C5.out.mono ?_
    rintro e w6 ⟨rfl, b6⟩
    replace r := r.below b6
    replace x2 := x2.below b6
    replace y3 := y3.below b6
    replace b6 := bt b5 b6
    have C6 := Lib.hid (spec_WordsRight_c w6 r (by omega) HZ.out)
    go_wp2_with fail
    refine C6.out.mono ?_
    rintro e w7 ⟨rfl, b7⟩
    replace r := r.below b7
    replace x2 := x2.below b7
    replace y3 := y3.below b7
    replace b7 := bt b6 b7
    have C7 := Lib.hid (CS.out w7 b7)
    clear b1 b2 b3 b4 b5 b6 C1 C2 C3 C4 C5 C6 CS
    go_wp2_with fail
    refine C7.out.mono ?_
    rintro e w8 ⟨⟨ca, cb, hca, hcb, rfl⟩, b8⟩
    replace r := r.below b8
    replace x2 := x2.below b8
    replace y3 := y3.below b8
    replace b8 := bt b7 b8
    have hcok : aCaseOk ⟨ca, cb⟩ := ⟨by show ca.size ≤ maxLen; unfold maxLen; omega, by show cb.size ≤ maxLen; unfold maxLen; omega⟩
    have RC := Row.new w8 51 #[.string ca, .string cb]
    have CE1 := Lib.hid (fun w => impl_ErrorRate_c ⟨ca, cb⟩ w hcok ⟨by show ca.size ≤ _; omega, by show cb.size ≤ _; omega⟩)
    have CE2 := Lib.hid (fun w => spec_ErrorRate_c ⟨ca, cb⟩ w ⟨by show ca.size ≤ _; omega, by show cb.size ≤ _; omega⟩)
    generalize rateOf [⟨ca, cb⟩] = q1 at CE1 CE2
    generalize rateCode [⟨ca, cb⟩] = q2 at CE1 CE2
    replace r := r.alloc (.cells #[.string ca, .string cb] 51)
    replace x2 := x2.alloc (.cells #[.string ca, .string cb] 51)
    replace y3 := y3.alloc (.cells #[.string ca, .string cb] 51)
    have b8' : Below w.heap.size w (w8.alloc (.cells #[.string ca, .string cb] 51)) := b8.alloc b8.size _
    have R9 := Lib.hid r
    have X9 := Lib.hid x2
    have Y9 := Lib.hid y3
    have e0 := RC.cell' (i := 0) rfl
    have e1 := RC.cell' (i := 1) rfl
    clear r x2 y3 hcok C7 b7 b8
    go_wp2_with fail
    refine (CE1.out _).mono ?_
    rintro e w10 ⟨rfl, b10⟩
    have RC10 := RC.later b10
    clear e0 e1
    have e0 := RC10.cell' (i := 0) rfl
    have e1 := RC10.cell' (i := 1) rfl
    go_wp2_with fail
    refine (CE2.out _).mono ?_
    rintro e w11 ⟨rfl, b11⟩
    have bb := bt b10 b11
    have r := R9.out.below bb
    have x2 := X9.out.below bb
    have y3 := Y9.out.below bb
    have b12 := b8'.trans (bb.mono b8'.size)
    clear R9 X9 Y9 CE1 CE2 b10 b11 bb b8' RC RC10 e0 e1
    have z1 : (casesCode xs != casesCode xs) = false := by simp
    have z2 : (((confsR xs).length : Int) != ((confsR xs).length : Int)) = false := by simp
    have z3 : (rateCode xs != rateCode xs) = false := by simp
    have z4 : (rateOf xs != rateOf xs) = false := by simp
    have z5 : (rightCode xs != rightCode xs) = false := by simp
    have z6 : (rightRate xs != rightRate xs) = false := by simp
    have z7 : (q2 != q2) = false := by simp
    have z8 : (q1 != q1) = false := by simp
    have hfl := confsR_len xs
    have hne := confsR_ne xs
    have hct := confsR_count xs
    have HSUM := Lib.hid (fun h : casesOk xs = true => confsR_sum h)
    have HSB := Lib.hid (fun k => sumC_bounds (l := (confsR xs).take k) (fun c hc => hct c (List.mem_of_mem_take hc)) (by omega))
    have HRATE := Lib.hid (fun (h : casesOk xs = true) (hn : 0 < xs.length) => rate_all h hn)
    have HRC := Lib.hid (fun (h : casesOk xs = true) => rightCode_zero h)
    have HRL := Lib.hid (fun (h : casesOk xs = true) (h0 : rightCode xs = 0) => rightCode_len h h0)
    have HCT := Lib.hid hct
    have HNE := Lib.hid hne
    have R := Lib.hid r
    obtain ⟨X, xc, hvx, hx1, hx2, hxr⟩ := pConfs_open x2
    obtain ⟨Y, yc, hvy, hy1, hy2, hyr⟩ := pConfs_open y3
    rw [Value.slice.injEq] at hvx hvy
    obtain ⟨rfl, -, rfl⟩ := hvx
    obtain ⟨rfl, -, rfl⟩ := hvy
    clear hct hne r x2 y3
    generalize confsR xs = fs at *
    generalize rateCode xs = t1 at *
    generalize rateOf xs = t2 at *
    generalize hrc : rightCode xs = t3 at *
    generalize hrr : rightRate xs = t4 at *
    have HCC := Lib.hid (show casesCode xs = if casesOk xs then 0 else 5 from rfl)
    generalize casesCode xs = cc at *
    clear hrc hrr
    have b12s := b12.size
    go_wp2_with fail
    go_loopw [21, 22] (fun sv i wr => ∃ k : Nat, k ≤ fs.length ∧ i = .int .i64 k ∧ sv = .int .i64 (sumC (fs.take k)) ∧ Below w11.heap.size w11 wr) (fun _ i _ => fs.length - (intOf i).toNat)
    case atStart => exact ⟨0, Nat.zero_le _, rfl, rfl, Below.refl _ _⟩
    case round =>
      obtain ⟨k, hk, rfl, rfl, hb⟩ := hrel
      have hbs := hb.size
      by_cases hlt : k < fs.length
      · obtain ⟨b1', o1', rfl, hbb1, _, p0, p1, p2, _⟩ := hxr k hlt
        obtain ⟨b2', o2', rfl, hbb2, _, r0, r1, r2, _⟩ := hyr k hlt
        rw [← hb.cell (p := ⟨b1', _, none⟩) hbb1] at p0 p1 p2
        rw [← hb.cell (p := ⟨b2', _, none⟩) hbb2] at r0 r1 r2
        have hn := HNE.out _ (List.getElem_mem hlt)
        have hcnt := HCT.out _ (List.getElem_mem hlt)
        have hst := sumC_take hlt
        have hsb := HSB.out k
        rw [List.length_take] at hsb
        have hq := fun w => conf_same fs[k] w
        obtain ⟨⟨wt, gt, ct⟩, hfk⟩ : ∃ c, fs[k] = c := ⟨_, rfl⟩
        rw [hfk] at p0 p1 p2 r0 r1 r2 hn hcnt hst hq
        dsimp only at p0 p1 p2 r0 r1 r2 hn hcnt hst hq
        have hne2 : (wt.toList == gt.toList) = false := by rw [str_eq]; simpa using hn
        have i1 : (k : Int) < (fs.length : Int) := by omega
        have i3 : (0 : Int) ≤ (k : Int) := by omega
        have i2 : IntKind.i64.wrap ((k : Int) + 1) = (k : Int) + 1 := IntWalk.i64_in _ (by omega)
        have HST := Lib.hid hst
        have sw : IntKind.i64.wrap (sumC (fs.take k) + ct) = sumC (fs.take k) + ct := IntWalk.i64_in _ (by omega)
        have hm : Try.prog.eqGuardType Try.prog.depth 55 = false := by kernel_rfl
        generalize sumC (fs.take k) = sm at *
        clear hn hst hfk hxr hyr
        go_wp2_with fail
        go_quiet (fail)
        go_wp2_with fail
        go_roundw
        case rel => exact ⟨k + 1, by omega, by go_num, by rw [HST.out], below_drewN hb nq⟩
        case measure => simp [intOf]; omega
      · obtain rfl : k = fs.length := by omega
        have g1 : ¬ ((fs.length : Int) < (fs.length : Int)) := by omega
        rw [List.take_length]
        clear hxr hyr
        have RB := R.out.below hb
        have bW := b12.trans (hb.mono b12s)
        cases hok : casesOk xs with
        | false =>
          have hcc : cc = 5 := by have := HCC.out; rw [hok] at this; exact this
          subst hcc
          clear hok
          go_wp2_with fail
          go_ret
          exact ⟨rfl, bW⟩
        | true =>
          have hcc : cc = 0 := by have := HCC.out; rw [hok] at this; exact this
          subst hcc
          have HOK := Lib.hid hok
          have hsum := HSUM.out hok
          have hall : xs.all caseOk = true := by
            have := hok
            simp only [casesOk, Bool.and_eq_true] at this
            exact this.2
          have HALL := Lib.hid hall
          have hwl := (sums_le hall).1
          have HWT := Lib.hid (fun k => (sums_le (all_take (k := k) hall)).1)
          obtain ⟨A4, c4, hv4, hc41, hc42, hr⟩ := aCases_open RB
          rw [Value.slice.injEq] at hv4
          obtain ⟨rfl, -, rfl⟩ := hv4
          obtain ⟨wo, hwo⟩ : ∃ x, x = wr := ⟨_, rfl⟩
          subst hwo
          rw [hsum]
          clear hok hsum hall RB
          go_wp2_with fail
          go_loopw [23, 24] (fun sv i wx => ∃ k : Nat, k ≤ xs.length ∧ i = .int .i64 k ∧ sv = .int .i64 (wrongs (xs.take k) : Int) ∧ Below wo.heap.size wo wx) (fun _ i _ => xs.length - (intOf i).toNat)
          case atStart => exact ⟨0, Nat.zero_le _, rfl, rfl, Below.refl _ _⟩
          case round =>
            obtain ⟨k, hk, rfl, rfl, hb2⟩ := hrel
            have hb2s := hb2.size
            by_cases hlt : k < xs.length
            · obtain ⟨b1', o1', rfl, hbb1, _, p0, p1, _⟩ := hr k hlt
              rw [← hb2.cell (p := ⟨b1', _, none⟩) hbb1] at p0 p1
              have hck : caseOk xs[k] = true := List.all_eq_true.1 HALL.out _ (List.getElem_mem hlt)
              have hwt := wrongs_take xs k hlt
              have hw1 := HWT.out k
              rw [List.length_take] at hw1
              obtain ⟨⟨wt, gt⟩, hxk⟩ : ∃ c, xs[k] = c := ⟨_, rfl⟩
              rw [hxk] at p0 p1 hck hwt
              dsimp only at p0 p1 hck hwt
              have hEC : edC wt gt = 0 := by unfold edC; exact if_pos hck
              have hED : edD wt gt = (edist wt gt : Int) := by unfold edD; exact if_pos hck
              have hdb := edD_bounds wt gt
              simp only [caseOk, shortB, Bool.and_eq_true, decide_eq_true_eq] at hck
              have CE := impl_Ed_c wt gt wr.drew (by omega) (by omega)
              rw [hEC, hED] at CE
              rw [hED] at hdb
              generalize edist wt gt = ed at *
              have HCE := Lib.hid CE
              have i1 : (k : Int) < (xs.length : Int) := by omega
              have i3 : (0 : Int) ≤ (k : Int) := by omega
              have i2 : IntKind.i64.wrap ((k : Int) + 1) = (k : Int) + 1 := IntWalk.i64_in _ (by omega)
              have sw : IntKind.i64.wrap ((wrongs (xs.take k) : Int) + (ed : Int)) = (wrongs (xs.take k) : Int) + (ed : Int) := IntWalk.i64_in _ (by omega)
              have HWK := Lib.hid hwt
              generalize wrongs (xs.take k) = sm at *
              have hS : (fun w' : World => w'.cell? ⟨b1', o1' + k * 2, none⟩ = some (.string wt) ∧ w'.cell? ⟨b1', o1' + k * 2 + 1, none⟩ = some (.string gt)) wr.drew := ⟨p0, p1⟩
              dsimp only at hS
              clear hck hwt hxk hr CE hEC hED
              go_wp2_with fail
              refine wp_region_held_drew (S := (fun w' : World => w'.cell? ⟨b1', o1' + k * 2, none⟩ = some (.string wt) ∧ w'.cell? ⟨b1', o1' + k * 2 + 1, none⟩ = some (.string gt))) (by kernel_rfl) hS (fun _ => ?_)
              refine wpAnyH_take (i := 0) (oi := { dst := some 157, op := Go.Op.move (Go.Operand.tmp 3), type := 41, pos := "laws.go:2160", after := #[], guard := none }) (v := ?_) rfl (by kernel_rfl) (by kernel_rfl) (by kernel_rfl) (fun _ _ _ h => h) (Or.inl ⟨rfl, ?_⟩) hS ?_
              rotate_left
              · (intro w' hS'; (try dsimp only at hS'); go_simp; try with_reducible rfl)
              simp only [Act.put, List.setIfInBounds_toArray, List.set_cons_zero, List.set_cons_succ]
              refine wpAnyH_take (i := 1) (oi := { dst := some 158, op := Go.Op.move (Go.Operand.tmp 24), type := 3, pos := "laws.go:2160", after := #[], guard := none }) (v := ?_) rfl (by kernel_rfl) (by kernel_rfl) (by kernel_rfl) (fun _ _ _ h => h) (Or.inl ⟨rfl, ?_⟩) hS ?_
              rotate_left
              · (intro w' hS'; (try dsimp only at hS'); go_simp; try with_reducible rfl)
              simp only [Act.put, List.setIfInBounds_toArray, List.set_cons_zero, List.set_cons_succ]
              refine wpAnyH_take (i := 2) (oi := { dst := some 159, op := Go.Op.indexAddr 41 (Go.Operand.tmp 157) (Go.Operand.tmp 158), type := 0, pos := "laws.go:2160", after := #[{ on := 0, ground := Go.Ground.data }, { on := 1, ground := Go.Ground.data }], guard := none }) (v := ?_) rfl (by kernel_rfl) (by kernel_rfl) (by kernel_rfl) (fun _ _ _ h => h) (Or.inl ⟨rfl, ?_⟩) hS ?_
              rotate_left
              · (intro w' hS'; (try dsimp only at hS'); go_simp; try with_reducible rfl)
              simp only [Act.put, List.setIfInBounds_toArray, List.set_cons_zero, List.set_cons_succ]
              refine wpAnyH_take (i := 3) (oi := { dst := some 160, op := Go.Op.fieldAddr 51 (Go.Operand.tmp 159) 0, type := 0, pos := "laws.go:2160", after := #[{ on := 2, ground := Go.Ground.data }], guard := none }) (v := ?_) rfl (by kernel_rfl) (by kernel_rfl) (by kernel_rfl) (fun _ _ _ h => h) (Or.inl ⟨rfl, ?_⟩) hS ?_
              rotate_left
              · (intro w' hS'; (try dsimp only at hS'); go_simp; try with_reducible rfl)
              simp only [Act.put, List.setIfInBounds_toArray, List.set_cons_zero, List.set_cons_succ]
              refine wpAnyH_take (i := 4) (oi := { dst := some 161, op := Go.Op.load 9 (Go.Operand.tmp 160), type := 9, pos := "laws.go:2160", after := #[{ on := 3, ground := Go.Ground.data }], guard := none }) (v := ?_) rfl (by kernel_rfl) (by kernel_rfl) (by kernel_rfl) (fun _ _ _ h => h) (Or.inl ⟨rfl, ?_⟩) hS ?_
              rotate_left
              · (intro w' hS'; (try dsimp only at hS'); go_simp; try with_reducible rfl)
              simp only [Act.put, List.setIfInBounds_toArray, List.set_cons_zero, List.set_cons_succ]
              refine wpAnyH_take (i := 5) (oi := { dst := some 162, op := Go.Op.move (Go.Operand.tmp 3), type := 41, pos := "laws.go:2160", after := #[], guard := none }) (v := ?_) rfl (by kernel_rfl) (by kernel_rfl) (by kernel_rfl) (fun _ _ _ h => h) (Or.inl ⟨rfl, ?_⟩) hS ?_
              rotate_left
              · (intro w' hS'; (try dsimp only at hS'); go_simp; try with_reducible rfl)
              simp only [Act.put, List.setIfInBounds_toArray, List.set_cons_zero, List.set_cons_succ]
              refine wpAnyH_take (i := 6) (oi := { dst := some 163, op := Go.Op.move (Go.Operand.tmp 24), type := 3, pos := "laws.go:2160", after := #[], guard := none }) (v := ?_) rfl (by kernel_rfl) (by kernel_rfl) (by kernel_rfl) (fun _ _ _ h => h) (Or.inl ⟨rfl, ?_⟩) hS ?_
              rotate_left
              · (intro w' hS'; (try dsimp only at hS'); go_simp; try with_reducible rfl)
              simp only [Act.put, List.setIfInBounds_toArray, List.set_cons_zero, List.set_cons_succ]
              refine wpAnyH_take (i := 7) (oi := { dst := some 164, op := Go.Op.indexAddr 41 (Go.Operand.tmp 162) (Go.Operand.tmp 163), type := 0, pos := "laws.go:2160", after := #[{ on := 5, ground := Go.Ground.data }, { on := 6, ground := Go.Ground.data }], guard := none }) (v := ?_) rfl (by kernel_rfl) (by kernel_rfl) (by kernel_rfl) (fun _ _ _ h => h) (Or.inl ⟨rfl, ?_⟩) hS ?_
              rotate_left
              · (intro w' hS'; (try dsimp only at hS'); go_simp; try with_reducible rfl)
              simp only [Act.put, List.setIfInBounds_toArray, List.set_cons_zero, List.set_cons_succ]
              refine wpAnyH_take (i := 8) (oi := { dst := some 165, op := Go.Op.fieldAddr 51 (Go.Operand.tmp 164) 1, type := 0, pos := "laws.go:2160", after := #[{ on := 7, ground := Go.Ground.data }], guard := none }) (v := ?_) rfl (by kernel_rfl) (by kernel_rfl) (by kernel_rfl) (fun _ _ _ h => h) (Or.inl ⟨rfl, ?_⟩) hS ?_
              rotate_left
              · (intro w' hS'; (try dsimp only at hS'); go_simp; try with_reducible rfl)
              simp only [Act.put, List.setIfInBounds_toArray, List.set_cons_zero, List.set_cons_succ]
              refine wpAnyH_take (i := 9) (oi := { dst := some 166, op := Go.Op.load 9 (Go.Operand.tmp 165), type := 9, pos := "laws.go:2160", after := #[{ on := 8, ground := Go.Ground.data }], guard := none }) (v := ?_) rfl (by kernel_rfl) (by kernel_rfl) (by kernel_rfl) (fun _ _ _ h => h) (Or.inl ⟨rfl, ?_⟩) hS ?_
              rotate_left
              · (intro w' hS'; (try dsimp only at hS'); go_simp; try with_reducible rfl)
              simp only [Act.put, List.setIfInBounds_toArray, List.set_cons_zero, List.set_cons_succ]
              refine wpAnyH_ready (rs := [10]) (by kernel_rfl) (by simp) ?_
              refine AllReadyH.cons (o := { dst := some 167, op := Go.Op.call { callee := Go.Callee.value (Go.Operand.func 8), args := #[Go.Operand.tmp 161, Go.Operand.tmp 166], argTypes := #[9, 9] }, type := 26, pos := "laws.go:2160", after := #[{ on := 4, ground := Go.Ground.data }, { on := 9, ground := Go.Ground.data }], guard := none }) rfl (fun K hK => ?_) .nil
              refine step_call 8 #[Go.Operand.tmp 161, Go.Operand.tmp 166] _ rfl rfl #[.string wt, .string gt] Try.call8 (by go_simp) HCE.out ?_
              rintro e w13 ⟨rfl, b13⟩
              refine ⟨_, rfl, ?_⟩
              have b13' : Below wr.heap.size wr w13 := (Below.refl _ _).drew.trans b13
              replace hS : w13.cell? ⟨b1', o1' + k * 2, none⟩ = some (.string wt) ∧ w13.cell? ⟨b1', o1' + k * 2 + 1, none⟩ = some (.string gt) := ⟨cell_be b13' (by omega) p0, cell_be b13' (by omega) p1⟩
              refine hK.out _ _ ?_ (fun hHeld => ?_)
              · exact hS
              clear hK K hHeld
              simp only [Act.put, List.setIfInBounds_toArray, List.set_cons_zero, List.set_cons_succ]
              refine wpAnyH_take (i := 11) (oi := { dst := some 156, op := Go.Op.move (Go.Operand.tmp 167), type := 26, pos := "laws.go:2160", after := #[{ on := 10, ground := Go.Ground.data }], guard := none }) (v := ?_) rfl (by kernel_rfl) (by kernel_rfl) (by kernel_rfl) (fun _ _ _ h => h) (Or.inl ⟨rfl, ?_⟩) hS ?_
              rotate_left
              · (intro w' hS'; (try dsimp only at hS'); go_simp; try with_reducible rfl)
              simp only [Act.put, List.setIfInBounds_toArray, List.set_cons_zero, List.set_cons_succ]
              refine wpAnyH_take (i := 12) (oi := { dst := some 168, op := Go.Op.extract (Go.Operand.tmp 156) 0, type := 2, pos := "laws.go:2160", after := #[{ on := 11, ground := Go.Ground.data }], guard := none }) (v := ?_) rfl (by kernel_rfl) (by kernel_rfl) (by kernel_rfl) (fun _ _ _ h => h) (Or.inl ⟨rfl, ?_⟩) hS ?_
              rotate_left
              · (intro w' hS'; (try dsimp only at hS'); go_simp; try with_reducible rfl)
              simp only [Act.put, List.setIfInBounds_toArray, List.set_cons_zero, List.set_cons_succ]
              refine wpAnyH_take (i := 13) (oi := { dst := some 169, op := Go.Op.extract (Go.Operand.tmp 156) 1, type := 2, pos := "laws.go:2160", after := #[{ on := 11, ground := Go.Ground.data }, { on := 14, ground := Go.Ground.gcOnly Go.Departure.lateStores }], guard := none }) (v := ?_) rfl (by kernel_rfl) (by kernel_rfl) (by kernel_rfl) (fun _ _ _ h => h) (Or.inl ⟨rfl, ?_⟩) hS ?_
              rotate_left
              · (intro w' hS'; (try dsimp only at hS'); go_simp; try with_reducible rfl)
              simp only [Act.put, List.setIfInBounds_toArray, List.set_cons_zero, List.set_cons_succ]
              refine wpAnyH_take (i := 14) (oi := { dst := some 25, op := Go.Op.assign (Go.Operand.tmp 168), type := 2, pos := "laws.go:2160", after := #[{ on := 12, ground := Go.Ground.data }, { on := 10, ground := Go.Ground.chain }, { on := 0, ground := Go.Ground.phase }, { on := 1, ground := Go.Ground.phase }, { on := 2, ground := Go.Ground.phase }, { on := 3, ground := Go.Ground.phase }, { on := 4, ground := Go.Ground.phase }, { on := 5, ground := Go.Ground.phase }, { on := 6, ground := Go.Ground.phase }, { on := 7, ground := Go.Ground.phase }, { on := 8, ground := Go.Ground.phase }, { on := 9, ground := Go.Ground.phase }, { on := 10, ground := Go.Ground.phase }, { on := 11, ground := Go.Ground.phase }, { on := 12, ground := Go.Ground.phase }, { on := 13, ground := Go.Ground.textOnly Go.Departure.lateStores }], guard := none }) (v := ?_) rfl (by kernel_rfl) (by kernel_rfl) (by kernel_rfl) (fun _ _ _ h => h) (Or.inl ⟨rfl, ?_⟩) hS ?_
              rotate_left
              · (intro w' hS'; (try dsimp only at hS'); go_simp; try with_reducible rfl)
              simp only [Act.put, List.setIfInBounds_toArray, List.set_cons_zero, List.set_cons_succ]
              refine wpAnyH_take (i := 15) (oi := { dst := some 26, op := Go.Op.assign (Go.Operand.tmp 169), type := 2, pos := "laws.go:2160", after := #[{ on := 13, ground := Go.Ground.data }, { on := 14, ground := Go.Ground.chain }, { on := 0, ground := Go.Ground.phase }, { on := 1, ground := Go.Ground.phase }, { on := 2, ground := Go.Ground.phase }, { on := 3, ground := Go.Ground.phase }, { on := 4, ground := Go.Ground.phase }, { on := 5, ground := Go.Ground.phase }, { on := 6, ground := Go.Ground.phase }, { on := 7, ground := Go.Ground.phase }, { on := 8, ground := Go.Ground.phase }, { on := 9, ground := Go.Ground.phase }, { on := 10, ground := Go.Ground.phase }, { on := 11, ground := Go.Ground.phase }, { on := 12, ground := Go.Ground.phase }, { on := 13, ground := Go.Ground.phase }, { on := 14, ground := Go.Ground.phase }], guard := none }) (v := ?_) rfl (by kernel_rfl) (by kernel_rfl) (by kernel_rfl) (fun _ _ _ h => h) (Or.inl ⟨rfl, ?_⟩) hS ?_
              rotate_left
              · (intro w' hS'; (try dsimp only at hS'); go_simp; try with_reducible rfl)
              simp only [Act.put, List.setIfInBounds_toArray, List.set_cons_zero, List.set_cons_succ]
              refine wpAnyH_done (by kernel_rfl) ?_ _
              go_wp2_with fail
              go_roundw
              case rel => exact ⟨k + 1, by omega, by go_num, by rw [HWK.out]; go_num, hb2.trans (b13'.mono hb2s)⟩
              case measure => simp [intOf]; omega
            · obtain rfl : k = xs.length := by omega
              have g2 : ¬ ((xs.length : Int) < (xs.length : Int)) := by omega
              rw [List.take_length]
              have y1 : ((wrongs xs : Int) == (wrongs xs : Int)) = true := by simp
              rcases HRC.out HOK.out with h3 | h3
              · subst h3
                have hra := HRATE.out HOK.out (HRL.out HOK.out rfl)
                have y2 : ((t4 == 1000) == ((wrongs xs : Int) == 0)) = true := by
                  by_cases hw0 : (wrongs xs : Int) = 0
                  · rw [hra.2 hw0, hw0]; rfl
                  · rw [show (t4 == 1000) = false by simp; exact fun h => hw0 (hra.1 h), show ((wrongs xs : Int) == 0) = false by simpa using hw0]; rfl
                have Y2 := Lib.hid y2
                clear hr hra y2
                generalize wrongs xs = ww at *
                go_wp2_with fail
                go_ret
                exact ⟨congrArg (fun b => Ending.returned (Value.bool b)) Y2.out, bW.trans (hb2.mono bW.size)⟩
              · subst h3
                clear hr
                generalize wrongs xs = ww at *
                go_wp2_with fail
                go_ret
                exact ⟨rfl, bW.trans (hb2.mono bW.size)⟩
end Go.Proofs.Ytelkggafmnckoaa
