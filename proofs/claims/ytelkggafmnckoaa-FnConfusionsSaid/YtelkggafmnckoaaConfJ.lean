/- The program's Confusions: the walk. Conditions: none. -/
import Derived.Test.YtelkggafmnckoaaConfI
import Derived.Test.YtelkggafmnckoaaStepApp
namespace Go.Proofs.Ytelkggafmnckoaa
open Go Go.RowKit

/-- A list and a code, in memory of their own. -/
def GivesConf (e : TypeId) (xs : List PConf) (c : Int) (w : World) (en : Ending) (w' : World) : Prop :=
  ∃ u F, en = .returned (.tuple #[u, .int .i64 c]) ∧ (pConfs e).rep true w' xs [u] F ∧ Fresh w.heap.size F ∧ Below w.heap.size w w'
theorem cell_al {w : World} {b o : Nat} {v : Value} (x : Obj) (hb : b < w.heap.size) (h : w.cell? ⟨b, o, none⟩ = some v) : (w.alloc x).cell? ⟨b, o, none⟩ = some v := by
  rw [((Below.refl w.heap.size w).alloc (Nat.le_refl _) x).cell (p := ⟨b, o, none⟩) hb]; exact h
theorem cell_be {w w' : World} {b o : Nat} {v : Value} (hbe : Below w.heap.size w w') (hb : b < w.heap.size) (h : w.cell? ⟨b, o, none⟩ = some v) : w'.cell? ⟨b, o, none⟩ = some v := by
  rw [hbe.cell (p := ⟨b, o, none⟩) hb]; exact h
theorem extract_none (b : ByteArray) (j : Nat) : b.extract j (j + 0) = ⟨#[]⟩ := by
  apply ByteArray.ext
  simp [ByteArray.data_extract]
set_option maxRecDepth 100000 in
set_option maxHeartbeats 8000000 in
theorem impl_Confusions_c {o : Bool} {e : TypeId} {xs : List ACase} {v : Value} {F : List Nat} (w : World) (h : (aCases e).rep o w xs [v] F) (hx : xs.length ≤ 1048576) (hsz : ∀ c ∈ xs, c.want.size ≤ 1048576 ∧ c.got.size ≤ 1048576) :
    Calls Try.prog 23 #[v] w (GivesConf 55 (confsR xs) (casesCode xs) w) := by
  have CA := Lib.hid (impl_areCases_c w h hx hsz)
  obtain ⟨A, c, rfl, hc1, hc2, hr⟩ := aCases_open h
  clear h hsz
  cases hok : casesOk xs with
  | false =>
    have HC : Hid (confsR xs = [] ∧ casesCode xs = 5) := by show _ ∧ _; unfold confsR casesCode; rw [hok]; exact ⟨rfl, rfl⟩
    rw [hok] at CA
    go_enter Try.func23, Try.ntmps23
    go_wp2_with fail
    refine CA.out.mono ?_
    rintro en w1 ⟨rfl, b1⟩
    go_wp2_with fail
    go_ret2
    exact ⟨_, [], by rw [HC.out.2]; rfl, by rw [HC.out.1]; exact conf_empty _ _, Fresh.nil _, b1⟩
  | true =>
    have HC : Hid (confsR xs = confsK (keysAll xs) ∧ casesCode xs = 0) := by show _ ∧ _; unfold confsR casesCode; rw [hok]; exact ⟨rfl, rfl⟩
    have hxl : xs.length ≤ 50 := by simp [casesOk] at hok; exact hok.1
    have hall : xs.all caseOk = true := by simp only [casesOk, Bool.and_eq_true] at hok; exact hok.2
    have HALL := Lib.hid hall
    rw [hok] at CA
    clear hok hall
    go_enter Try.func23, Try.ntmps23
    go_wp2_with fail
    refine CA.out.mono ?_
    rintro en w1 ⟨rfl, b1⟩
    clear CA
    go_wp2_with fail
    go_loopw [4, 20] (fun al i wr => ∃ (k : Nat) (u : Value) (G : List Nat), k ≤ xs.length ∧ i = .int .i64 k ∧ al = u ∧ (pConfs 55).rep true wr ((keysAll (xs.take k)).map oneC) [u] G ∧ Fresh w.heap.size G ∧ Below w.heap.size w wr) (fun _ i _ => xs.length - (intOf i).toNat)
    case atStart => exact ⟨0, _, [], Nat.zero_le _, rfl, rfl, conf_empty _ _, Fresh.nil _, b1⟩
    case round =>
      obtain ⟨k, u, G, hk, rfl, rfl, rep, fr, hb⟩ := hrel
      have hbs := hb.size
      have b1s := b1.size
      by_cases hlt : k < xs.length
      · obtain ⟨b, off, rfl, hbb, _, h0, h1, hs1, hs2⟩ := hr k hlt
        rw [← hb.cell (p := ⟨b, _, none⟩) hbb] at h0 h1
        have hck : caseOk xs[k] = true := List.all_eq_true.1 HALL.out _ (List.getElem_mem hlt)
        have hkl := keysAll_len (all_take (k := k) HALL.out)
        have hcl := caseKeys_len hck
        simp only [caseOk, shortB, Bool.and_eq_true, decide_eq_true_eq] at hck
        have htk := keysAll_take hlt
        unfold caseKeys at htk hcl
        obtain ⟨⟨wt, gt⟩, hcase⟩ : ∃ c, xs[k] = c := ⟨_, rfl⟩
        rw [hcase] at h0 h1 hck htk hcl hs1 hs2
        dsimp only at h0 h1 hck htk hcl hs1 hs2
        have i1 : (k : Int) < (xs.length : Int) := by omega
        have i3 : (0 : Int) ≤ (k : Int) := by omega
        have i2 : IntKind.i64.wrap ((k : Int) + 1) = (k : Int) + 1 := IntWalk.i64_in _ (by omega)
        have HTK := Lib.hid htk
        have CAL := Lib.hid (fun w => impl_alignment_c wt gt w (by omega) (by omega))
        have RC := Row.new wr 51 #[.string wt, .string gt]
        have repA := rep.alloc (.cells #[.string wt, .string gt] 51)
        have hba : Below w.heap.size w (wr.alloc (.cells #[.string wt, .string gt] 51)) := hb.alloc hbs _
        have hGlt : ∀ x ∈ G, x < wr.heap.size := fun x hx => Ty.rep.blocks rep x hx
        have REP := Lib.hid repA
        have FR := Lib.hid fr
        have GLT := Lib.hid hGlt
        have HKL := Lib.hid (show (keysAll (xs.take k)).length ≤ 4000 by rw [List.length_take] at hkl; omega)
        obtain ⟨U, n0, c9, rfl⟩ := slice_form rep
        have AL := Lib.hid (align_all wt gt)
        have ALN := Lib.hid (show (align wt gt).length ≤ 80 by have := alignFrom_len wt gt (wt.size + gt.size) 0 0; unfold align; omega)
        clear rep repA fr hGlt hr htk hkl hcl hcase
        go_wp2_with fail
        refine (CAL.out _).mono ?_
        rintro en w2 ⟨vs, GS, rfl, rs, fs, b2⟩
        have hb2 : Below w.heap.size w w2 := hba.trans (b2.mono hba.size)
        have rep2 := REP.out.below b2
        have RC2 := RC.later b2
        have fsl := fs.2
        simp only [World.size_alloc] at fsl
        obtain ⟨S, sc, rfl, hsc1, hsc2, hst⟩ := asteps_open rs
        have RS := Lib.hid rs
        have b2s : wr.heap.size + 1 ≤ w2.heap.size := by simpa using b2.size
        have GSL := Lib.hid (fun x hx => Ty.rep.blocks rs x hx)
        have FSL := Lib.hid fsl
        have HST := Lib.hid hst
        have inv0 : ∀ x ∈ G, x ≠ wr.heap.size ∧ x ∉ GS := fun x hx => ⟨by have := GLT.out x hx; omega, fun hin => by have := fsl x hin; have := GLT.out x hx; omega⟩
        have INV0 := Lib.hid inv0
        clear rs fs fsl hst inv0 b2 CAL
        generalize align wt gt = st at *
        obtain ⟨wo, hwo⟩ : ∃ x, x = wr := ⟨_, rfl⟩
        subst hwo
        go_wp2_with fail
        go_loopw [4, 30] (fun al i wx => ∃ (j : Nat) (u : Value) (H : List Nat), j ≤ st.length ∧ i = .int .i64 j ∧ al = u ∧ (pConfs 55).rep true wx ((keysAll (xs.take k) ++ stepKeys wt gt (st.take j)).map oneC) [u] H ∧ Fresh w.heap.size H ∧ Hid (∀ x ∈ H, x ≠ wo.heap.size ∧ x ∉ GS) ∧ Below w.heap.size w wx ∧ Row wx wo.heap.size 51 [.string wt, .string gt] ∧ Hid ((asteps 67).rep true wx st [.slice S st.length sc] GS)) (fun _ i _ => st.length - (intOf i).toNat)
        case atStart => exact ⟨0, _, G, Nat.zero_le _, rfl, rfl, by simpa [stepKeys] using rep2, FR.out, INV0, hb2, RC2, RS⟩
        case round =>
          obtain ⟨j, u, H, hj, rfl, hu, rep, fr, inv, hb, RC3, hrs⟩ := hrel
          replace hu := hu.symm
          subst hu
          have hbs := hb.size
          have c0 := RC3.cell' (i := 0) rfl
          have c1 := RC3.cell' (i := 1) rfl
          by_cases hjt : j < st.length
          · obtain ⟨A3, c8, hv3, _, _, hst3⟩ := asteps_open hrs.out
            injection hv3 with e1 _ e3
            subst e1
            subst e3
            obtain ⟨b', off', rfl, hbb', hin', q0, q1, q2, _⟩ := hst3 j hjt
            clear hst3
            obtain ⟨f1, f2, ⟨f3, f4⟩, f5, f6⟩ := AL.out _ (List.getElem_mem hjt)
            have htj := stepKeys_take (a := wt) (b := gt) hjt
            have hkl := stepKeys_len wt gt (st.take j)
            obtain ⟨⟨op, si, sj⟩, hse⟩ : ∃ s, st[j] = s := ⟨_, rfl⟩
            rw [hse] at q0 q1 q2 f1 f2 f3 f4 f5 f6 htj
            dsimp only at q0 q1 q2 f1 f2 f3 f4 f5 f6 htj
            obtain ⟨si, rfl⟩ : ∃ n : Nat, si = (n : Int) := ⟨si.toNat, by omega⟩
            obtain ⟨sj, rfl⟩ : ∃ n : Nat, sj = (n : Int) := ⟨sj.toNat, by omega⟩
            simp only [Int.toNat_natCast] at f5 f6
            have i1 : (j : Int) < (st.length : Int) := by omega
            have i3 : (0 : Int) ≤ (j : Int) := by omega
            have i2 : IntKind.i64.wrap ((j : Int) + 1) = (j : Int) + 1 := IntWalk.i64_in _ (by have := ALN.out; omega)
            have HTJ := Lib.hid htj
            have REP := Lib.hid rep
            obtain ⟨U3, n3, c3, rfl⟩ := slice_form rep
            have HKS := Lib.hid hkl
            clear htj rep hkl hse f3 f4
            by_cases hop : op = 0
            · subst hop
              go_wp2_with fail
              go_roundw
              case rel =>
                refine ⟨j + 1, _, H, by omega, by go_num, rfl, ?_, fr, inv, hb.alloc hbs _, RC3.alloc _, hrs.out.alloc _⟩
                rw [HTJ.out, if_pos rfl, List.append_nil]; exact REP.out.alloc _
              case measure => simp [intOf]; omega
            · have g0 : (op == 0) = false := by simp [hop]
              have PAS := Lib.hid (impl_passes_c op)
              have RC4 := RC3.alloc (.cells #[.int .i64 op, .int .i64 si, .int .i64 sj] 67)
              have RN := Row.new wr 67 #[.int .i64 op, .int .i64 si, .int .i64 sj]
              have REP4 := Lib.hid (REP.out.alloc (.cells #[.int .i64 op, .int .i64 si, .int .i64 sj] 67))
              have HRS4 := Lib.hid (hrs.out.alloc (.cells #[.int .i64 op, .int .i64 si, .int .i64 sj] 67))
              have hb4 : Below w.heap.size w (wr.alloc (.cells #[.int .i64 op, .int .i64 si, .int .i64 sj] 67)) := hb.alloc hbs _
              have n0' := RN.cell' (i := 0) rfl
              go_wp2_with fail
              refine (PAS.out _).mono ?_
              rintro en w5 ⟨rfl, rfl⟩
              go_wp2_with fail
              generalize wr.alloc (.cells #[.int .i64 op, .int .i64 si, .int .i64 sj] 67) = wa at *
              have m0 := RC4.cell' (i := 0) rfl
              have m1 := RC4.cell' (i := 1) rfl
              have k1 := RN.cell' (i := 1) rfl
              have k2 := RN.cell' (i := 2) rfl
              have p1 : passI op ≤ 1 := by unfold passI; split <;> omega
              have p2 : passJ op ≤ 1 := by unfold passJ; split <;> omega
              have e1 : IntKind.i64.wrap ((si : Int) + (passI op : Int)) = (si : Int) + (passI op : Int) := IntWalk.i64_in _ (by omega)
              have e2 : ((si : Int) + (passI op : Int)).toNat = si + passI op := by omega
              have e3 : (0 : Int) ≤ (si : Int) + (passI op : Int) := by omega
              have e4 : (si : Int) ≤ (si : Int) + (passI op : Int) := by omega
              have e5 : (si : Int) + (passI op : Int) ≤ (wt.size : Int) := by omega
              have e6 : (0 : Int) ≤ (si : Int) := by omega
              have d1 : IntKind.i64.wrap ((sj : Int) + (passJ op : Int)) = (sj : Int) + (passJ op : Int) := IntWalk.i64_in _ (by omega)
              have d2 : ((sj : Int) + (passJ op : Int)).toNat = sj + passJ op := by omega
              have d3 : (0 : Int) ≤ (sj : Int) + (passJ op : Int) := by omega
              have d4 : (sj : Int) ≤ (sj : Int) + (passJ op : Int) := by omega
              have d5 : (sj : Int) + (passJ op : Int) ≤ (gt.size : Int) := by omega
              have d6 : (0 : Int) ≤ (sj : Int) := by omega
              have hS : (fun w' : World => w'.cell? ⟨wo.heap.size, 0, none⟩ = some (.string wt) ∧ w'.cell? ⟨wo.heap.size, 1, none⟩ = some (.string gt) ∧ w'.cell? ⟨wr.heap.size, 1, none⟩ = some (.int .i64 (si : Int)) ∧ w'.cell? ⟨wr.heap.size, 2, none⟩ = some (.int .i64 (sj : Int))) wa.drew := ⟨m0, m1, k1, k2⟩
              dsimp only at hS
              have wsz := RN.lt
              refine wp_region_held_drew (S := (fun w' : World => w'.cell? ⟨wo.heap.size, 0, none⟩ = some (.string wt) ∧ w'.cell? ⟨wo.heap.size, 1, none⟩ = some (.string gt) ∧ w'.cell? ⟨wr.heap.size, 1, none⟩ = some (.int .i64 (si : Int)) ∧ w'.cell? ⟨wr.heap.size, 2, none⟩ = some (.int .i64 (sj : Int)))) (by kernel_rfl) hS (fun _ => ?_)
              refine wpAnyH_take (i := 0) (oi := { dst := some 43, op := Go.Op.move (Go.Operand.tmp 4), type := 38, pos := "l25_evaluate.go:222", after := #[], guard := none }) (v := ?_) rfl (by kernel_rfl) (by kernel_rfl) (by kernel_rfl) (fun _ _ _ h => h) (Or.inl ⟨rfl, ?_⟩) hS ?_
              rotate_left
              · (intro w' hS'; (try dsimp only at hS'); go_simp; try with_reducible rfl)
              simp only [Act.put, List.setIfInBounds_toArray, List.set_cons_zero, List.set_cons_succ]
              refine wpAnyH_take (i := 1) (oi := { dst := some 44, op := Go.Op.fieldAddr 51 (Go.Operand.tmp 6) 0, type := 0, pos := "l25_evaluate.go:222", after := #[], guard := none }) (v := ?_) rfl (by kernel_rfl) (by kernel_rfl) (by kernel_rfl) (fun _ _ _ h => h) (Or.inl ⟨rfl, ?_⟩) hS ?_
              rotate_left
              · (intro w' hS'; (try dsimp only at hS'); go_simp; try with_reducible rfl)
              simp only [Act.put, List.setIfInBounds_toArray, List.set_cons_zero, List.set_cons_succ]
              refine wpAnyH_take (i := 2) (oi := { dst := some 45, op := Go.Op.load 9 (Go.Operand.tmp 44), type := 9, pos := "l25_evaluate.go:222", after := #[{ on := 1, ground := Go.Ground.data }], guard := none }) (v := ?_) rfl (by kernel_rfl) (by kernel_rfl) (by kernel_rfl) (fun _ _ _ h => h) (Or.inl ⟨rfl, ?_⟩) hS ?_
              rotate_left
              · (intro w' hS'; (try dsimp only at hS'); go_simp; try with_reducible rfl)
              simp only [Act.put, List.setIfInBounds_toArray, List.set_cons_zero, List.set_cons_succ]
              refine wpAnyH_take (i := 3) (oi := { dst := some 46, op := Go.Op.fieldAddr 67 (Go.Operand.tmp 8) 1, type := 0, pos := "l25_evaluate.go:222", after := #[], guard := none }) (v := ?_) rfl (by kernel_rfl) (by kernel_rfl) (by kernel_rfl) (fun _ _ _ h => h) (Or.inl ⟨rfl, ?_⟩) hS ?_
              rotate_left
              · (intro w' hS'; (try dsimp only at hS'); go_simp; try with_reducible rfl)
              simp only [Act.put, List.setIfInBounds_toArray, List.set_cons_zero, List.set_cons_succ]
              refine wpAnyH_take (i := 4) (oi := { dst := some 47, op := Go.Op.load 2 (Go.Operand.tmp 46), type := 2, pos := "l25_evaluate.go:222", after := #[{ on := 3, ground := Go.Ground.data }], guard := none }) (v := ?_) rfl (by kernel_rfl) (by kernel_rfl) (by kernel_rfl) (fun _ _ _ h => h) (Or.inl ⟨rfl, ?_⟩) hS ?_
              rotate_left
              · (intro w' hS'; (try dsimp only at hS'); go_simp; try with_reducible rfl)
              simp only [Act.put, List.setIfInBounds_toArray, List.set_cons_zero, List.set_cons_succ]
              refine wpAnyH_take (i := 5) (oi := { dst := some 48, op := Go.Op.fieldAddr 67 (Go.Operand.tmp 8) 1, type := 0, pos := "l25_evaluate.go:222", after := #[], guard := none }) (v := ?_) rfl (by kernel_rfl) (by kernel_rfl) (by kernel_rfl) (fun _ _ _ h => h) (Or.inl ⟨rfl, ?_⟩) hS ?_
              rotate_left
              · (intro w' hS'; (try dsimp only at hS'); go_simp; try with_reducible rfl)
              simp only [Act.put, List.setIfInBounds_toArray, List.set_cons_zero, List.set_cons_succ]
              refine wpAnyH_take (i := 6) (oi := { dst := some 49, op := Go.Op.load 2 (Go.Operand.tmp 48), type := 2, pos := "l25_evaluate.go:222", after := #[{ on := 5, ground := Go.Ground.data }], guard := none }) (v := ?_) rfl (by kernel_rfl) (by kernel_rfl) (by kernel_rfl) (fun _ _ _ h => h) (Or.inl ⟨rfl, ?_⟩) hS ?_
              rotate_left
              · (intro w' hS'; (try dsimp only at hS'); go_simp; try with_reducible rfl)
              simp only [Act.put, List.setIfInBounds_toArray, List.set_cons_zero, List.set_cons_succ]
              refine wpAnyH_take (i := 7) (oi := { dst := some 50, op := Go.Op.move (Go.Operand.tmp 9), type := 3, pos := "l25_evaluate.go:222", after := #[], guard := none }) (v := ?_) rfl (by kernel_rfl) (by kernel_rfl) (by kernel_rfl) (fun _ _ _ h => h) (Or.inl ⟨rfl, ?_⟩) hS ?_
              rotate_left
              · (intro w' hS'; (try dsimp only at hS'); go_simp; try with_reducible rfl)
              simp only [Act.put, List.setIfInBounds_toArray, List.set_cons_zero, List.set_cons_succ]
              refine wpAnyH_take (i := 8) (oi := { dst := some 51, op := Go.Op.binOp Go.BinOp.add 3 (Go.Operand.tmp 49) (Go.Operand.tmp 50) 3, type := 3, pos := "l25_evaluate.go:222", after := #[{ on := 6, ground := Go.Ground.data }, { on := 7, ground := Go.Ground.data }], guard := none }) (v := ?_) rfl (by kernel_rfl) (by kernel_rfl) (by kernel_rfl) (fun _ _ _ h => h) (Or.inl ⟨rfl, ?_⟩) hS ?_
              rotate_left
              · (intro w' hS'; (try dsimp only at hS'); go_simp; try with_reducible rfl)
              simp only [Act.put, List.setIfInBounds_toArray, List.set_cons_zero, List.set_cons_succ]
              refine wpAnyH_take (i := 9) (oi := { dst := some 52, op := Go.Op.slice 9 (Go.Operand.tmp 45) (some (Go.Operand.tmp 47)) (some (Go.Operand.tmp 51)) none, type := 9, pos := "l25_evaluate.go:222", after := #[{ on := 2, ground := Go.Ground.data }, { on := 4, ground := Go.Ground.data }, { on := 8, ground := Go.Ground.data }], guard := none }) (v := ?_) rfl (by kernel_rfl) (by kernel_rfl) (by kernel_rfl) (fun _ _ _ h => h) (Or.inl ⟨rfl, ?_⟩) hS ?_
              rotate_left
              · (intro w' hS'; (try dsimp only at hS'); go_simp; try with_reducible rfl)
              simp only [Act.put, List.setIfInBounds_toArray, List.set_cons_zero, List.set_cons_succ]
              refine wpAnyH_take (i := 10) (oi := { dst := some 53, op := Go.Op.fieldAddr 51 (Go.Operand.tmp 6) 1, type := 0, pos := "l25_evaluate.go:222", after := #[], guard := none }) (v := ?_) rfl (by kernel_rfl) (by kernel_rfl) (by kernel_rfl) (fun _ _ _ h => h) (Or.inl ⟨rfl, ?_⟩) hS ?_
              rotate_left
              · (intro w' hS'; (try dsimp only at hS'); go_simp; try with_reducible rfl)
              simp only [Act.put, List.setIfInBounds_toArray, List.set_cons_zero, List.set_cons_succ]
              refine wpAnyH_take (i := 11) (oi := { dst := some 54, op := Go.Op.load 9 (Go.Operand.tmp 53), type := 9, pos := "l25_evaluate.go:222", after := #[{ on := 10, ground := Go.Ground.data }], guard := none }) (v := ?_) rfl (by kernel_rfl) (by kernel_rfl) (by kernel_rfl) (fun _ _ _ h => h) (Or.inl ⟨rfl, ?_⟩) hS ?_
              rotate_left
              · (intro w' hS'; (try dsimp only at hS'); go_simp; try with_reducible rfl)
              simp only [Act.put, List.setIfInBounds_toArray, List.set_cons_zero, List.set_cons_succ]
              refine wpAnyH_take (i := 12) (oi := { dst := some 55, op := Go.Op.fieldAddr 67 (Go.Operand.tmp 8) 2, type := 0, pos := "l25_evaluate.go:222", after := #[], guard := none }) (v := ?_) rfl (by kernel_rfl) (by kernel_rfl) (by kernel_rfl) (fun _ _ _ h => h) (Or.inl ⟨rfl, ?_⟩) hS ?_
              rotate_left
              · (intro w' hS'; (try dsimp only at hS'); go_simp; try with_reducible rfl)
              simp only [Act.put, List.setIfInBounds_toArray, List.set_cons_zero, List.set_cons_succ]
              refine wpAnyH_take (i := 13) (oi := { dst := some 56, op := Go.Op.load 2 (Go.Operand.tmp 55), type := 2, pos := "l25_evaluate.go:222", after := #[{ on := 12, ground := Go.Ground.data }], guard := none }) (v := ?_) rfl (by kernel_rfl) (by kernel_rfl) (by kernel_rfl) (fun _ _ _ h => h) (Or.inl ⟨rfl, ?_⟩) hS ?_
              rotate_left
              · (intro w' hS'; (try dsimp only at hS'); go_simp; try with_reducible rfl)
              simp only [Act.put, List.setIfInBounds_toArray, List.set_cons_zero, List.set_cons_succ]
              refine wpAnyH_take (i := 14) (oi := { dst := some 57, op := Go.Op.fieldAddr 67 (Go.Operand.tmp 8) 2, type := 0, pos := "l25_evaluate.go:222", after := #[], guard := none }) (v := ?_) rfl (by kernel_rfl) (by kernel_rfl) (by kernel_rfl) (fun _ _ _ h => h) (Or.inl ⟨rfl, ?_⟩) hS ?_
              rotate_left
              · (intro w' hS'; (try dsimp only at hS'); go_simp; try with_reducible rfl)
              simp only [Act.put, List.setIfInBounds_toArray, List.set_cons_zero, List.set_cons_succ]
              refine wpAnyH_take (i := 15) (oi := { dst := some 58, op := Go.Op.load 2 (Go.Operand.tmp 57), type := 2, pos := "l25_evaluate.go:222", after := #[{ on := 14, ground := Go.Ground.data }], guard := none }) (v := ?_) rfl (by kernel_rfl) (by kernel_rfl) (by kernel_rfl) (fun _ _ _ h => h) (Or.inl ⟨rfl, ?_⟩) hS ?_
              rotate_left
              · (intro w' hS'; (try dsimp only at hS'); go_simp; try with_reducible rfl)
              simp only [Act.put, List.setIfInBounds_toArray, List.set_cons_zero, List.set_cons_succ]
              refine wpAnyH_take (i := 16) (oi := { dst := some 59, op := Go.Op.move (Go.Operand.tmp 10), type := 3, pos := "l25_evaluate.go:222", after := #[], guard := none }) (v := ?_) rfl (by kernel_rfl) (by kernel_rfl) (by kernel_rfl) (fun _ _ _ h => h) (Or.inl ⟨rfl, ?_⟩) hS ?_
              rotate_left
              · (intro w' hS'; (try dsimp only at hS'); go_simp; try with_reducible rfl)
              simp only [Act.put, List.setIfInBounds_toArray, List.set_cons_zero, List.set_cons_succ]
              refine wpAnyH_take (i := 17) (oi := { dst := some 60, op := Go.Op.binOp Go.BinOp.add 3 (Go.Operand.tmp 58) (Go.Operand.tmp 59) 3, type := 3, pos := "l25_evaluate.go:222", after := #[{ on := 15, ground := Go.Ground.data }, { on := 16, ground := Go.Ground.data }], guard := none }) (v := ?_) rfl (by kernel_rfl) (by kernel_rfl) (by kernel_rfl) (fun _ _ _ h => h) (Or.inl ⟨rfl, ?_⟩) hS ?_
              rotate_left
              · (intro w' hS'; (try dsimp only at hS'); go_simp; try with_reducible rfl)
              simp only [Act.put, List.setIfInBounds_toArray, List.set_cons_zero, List.set_cons_succ]
              refine wpAnyH_take (i := 18) (oi := { dst := some 61, op := Go.Op.slice 9 (Go.Operand.tmp 54) (some (Go.Operand.tmp 56)) (some (Go.Operand.tmp 60)) none, type := 9, pos := "l25_evaluate.go:222", after := #[{ on := 11, ground := Go.Ground.data }, { on := 13, ground := Go.Ground.data }, { on := 17, ground := Go.Ground.data }], guard := none }) (v := ?_) rfl (by kernel_rfl) (by kernel_rfl) (by kernel_rfl) (fun _ _ _ h => h) (Or.inl ⟨rfl, ?_⟩) hS ?_
              rotate_left
              · (intro w' hS'; (try dsimp only at hS'); go_simp; try with_reducible rfl)
              simp only [Act.put, List.setIfInBounds_toArray, List.set_cons_zero, List.set_cons_succ]
              refine wpAnyH_take (i := 19) (oi := { dst := some 62, op := Go.Op.build 55 #[(0, Go.Operand.tmp 52), (1, Go.Operand.tmp 61), (2, Go.Operand.const (Go.Value.int Go.IntKind.i64 1))], type := 55, pos := "l25_evaluate.go:222", after := #[{ on := 9, ground := Go.Ground.data }, { on := 18, ground := Go.Ground.data }], guard := none }) (v := ?_) rfl (by kernel_rfl) (by kernel_rfl) (by kernel_rfl) (fun _ _ _ h => h) (Or.inl ⟨rfl, ?_⟩) hS ?_
              rotate_left
              · (intro w' hS'; (try dsimp only at hS'); go_simp; try with_reducible rfl)
              simp only [Act.put, List.setIfInBounds_toArray, List.set_cons_zero, List.set_cons_succ]
              refine wpAnyH_ready (rs := [20]) (by kernel_rfl) (by simp) ?_
              refine AllReadyH.cons (o := { dst := some 63, op := Go.Op.buildSlice 38 1 #[(0, Go.Operand.tmp 62)], type := 38, pos := "l25_evaluate.go:222", after := #[{ on := 19, ground := Go.Ground.data }], guard := none }) rfl (fun K hK => ?_) .nil
              go_simp
              have KY : Hid (stepKey wt gt ⟨op, si, sj⟩ = (wt.extract si (si + passI op), gt.extract sj (sj + passJ op))) := rfl
              have hnd : H.Nodup := fr.1
              have hH1 : ∀ x ∈ H, w.heap.size ≤ x := fr.2
              have hHlt : ∀ x ∈ H, x < wr.heap.size := fun x hx => Ty.rep.blocks REP.out x hx
              have hinv := inv.out
              have hgo := RC3.lt
              have hS2 : (fun w' : World => w'.cell? ⟨wo.heap.size, 0, none⟩ = some (.string wt) ∧ w'.cell? ⟨wo.heap.size, 1, none⟩ = some (.string gt) ∧ w'.cell? ⟨wr.heap.size, 1, none⟩ = some (.int .i64 (si : Int)) ∧ w'.cell? ⟨wr.heap.size, 2, none⟩ = some (.int .i64 (sj : Int))) (wa.drew.alloc (.cells #[.string (wt.extract si (si + passI op)), .string (gt.extract sj (sj + passJ op)), .int .i64 1] 55)) := ⟨(RC4.drew.alloc _).cell' (i := 0) rfl, (RC4.drew.alloc _).cell' (i := 1) rfl, (RN.drew.alloc _).cell' (i := 1) rfl, (RN.drew.alloc _).cell' (i := 2) rfl⟩
              refine hK.out _ _ hS2 (fun _ => ?_)
              clear hK K
              refine wpAnyH_ready (rs := [21]) (by kernel_rfl) (by simp) ?_
              refine AllReadyH.cons (o := { dst := some 64, op := Go.Op.call { callee := Go.Callee.builtin Go.Builtin.append, args := #[Go.Operand.tmp 43, Go.Operand.tmp 63], argTypes := #[38, 38] }, type := 38, pos := "l25_evaluate.go:222", after := #[{ on := 0, ground := Go.Ground.data }, { on := 20, ground := Go.Ground.data }], guard := none }) rfl (fun K hK => ?_) .nil
              have REP5 := REP4.out.drew.alloc (.cells #[.string (wt.extract si (si + passI op)), .string (gt.extract sj (sj + passJ op)), .int .i64 1] 55)
              have hl1 : ((keysAll (xs.take k) ++ stepKeys wt gt (st.take j)).map oneC).length ≤ 4100 := by
                have a1 := HKL.out
                have a2 := HKS.out
                have a3 := ALN.out
                rw [List.length_take] at a2
                rw [List.length_map, List.length_append]; omega
              refine step_append_repX (T := pConf) (e := 55) (ys := [oneC (stepKey wt gt ⟨op, si, sj⟩)]) (ec := [.string (wt.extract si (si + passI op)), .string (gt.extract sj (sj + passJ op)), .int .i64 1]) rfl (.tmp 43) (.tmp 63) (by rfl) Try.underlying38 infoConf rfl (by decide) (by rfl) REP5 (by rfl) (repL_pConf [oneC (stepKey wt gt ⟨op, si, sj⟩)] (by intro s hs; simp only [List.mem_singleton] at hs; subst hs; exact oneC_ok (by omega) (by omega))) (cellsAt_new _ _ _) (by rw [List.append_nil]; exact hnd) (by simp only [List.length_singleton, maxLen]; omega) (by simp only [List.length_singleton]; omega) ?_
              intro v2 w6 F2 r2 o2 q2 x2
              have os := o2.size
              simp only [World.size_alloc, World.size_drew] at os
              have RC6 : Row w6 wo.heap.size 51 [.string wt, .string gt] := (o2.block _ (by simp; omega) (fun hin => (hinv _ hin).1 rfl)).trans (RC4.drew.alloc _)
              have RN6 : Row w6 wr.heap.size 67 [.int .i64 op, .int .i64 si, .int .i64 sj] := (o2.block _ (by simp; omega) (fun hin => by have := hHlt _ hin; omega)).trans (RN.drew.alloc _)
              have RS6 := (HRS4.out.drew.alloc (.cells #[.string (wt.extract si (si + passI op)), .string (gt.extract sj (sj + passJ op)), .int .i64 1] 55)).only o2 (fun x hx hin => (hinv x hin).2 hx)
              have F2n := q2 w.heap.size (by rw [List.append_nil]; exact ⟨hnd, hH1⟩) (by simp; omega)
              have x2' := x2.1
              have hb6 : Below w.heap.size w w6 := ((hb4.drew).alloc (by simp; omega) _).trans (o2.below (by simp; omega) hH1)
              have INV6 : Hid (∀ x ∈ F2, x ≠ wo.heap.size ∧ x ∉ GS) := fun x hx => by
                rcases x2' x hx with h1 | h1
                · rw [List.append_nil] at h1; exact hinv x h1
                · simp only [World.size_alloc, World.size_drew] at h1
                  exact ⟨by omega, fun hin => by have := GSL.out x hin; have := RC3.lt; have := Ty.rep.blocks hrs.out x hin; omega⟩
              have r2' : Hid ((pConfs 55).rep true w6 ((keysAll (xs.take k) ++ stepKeys wt gt (st.take (j + 1))).map oneC) [v2] F2) := by
                show (pConfs _).rep _ _ _ _ _
                rw [HTJ.out, if_neg hop, ← List.append_assoc, List.map_append]
                exact r2
              replace hS : (fun w' : World => w'.cell? ⟨wo.heap.size, 0, none⟩ = some (.string wt) ∧ w'.cell? ⟨wo.heap.size, 1, none⟩ = some (.string gt) ∧ w'.cell? ⟨wr.heap.size, 1, none⟩ = some (.int .i64 (si : Int)) ∧ w'.cell? ⟨wr.heap.size, 2, none⟩ = some (.int .i64 (sj : Int))) w6 := ⟨RC6.cell' (i := 0) rfl, RC6.cell' (i := 1) rfl, RN6.cell' (i := 1) rfl, RN6.cell' (i := 2) rfl⟩
              refine hK.out _ _ hS (fun _ => ?_)
              clear hK K hS2
              dsimp only at hS
              refine wpAnyH_take (i := 22) (oi := { dst := some 4, op := Go.Op.assign (Go.Operand.tmp 64), type := 38, pos := "l25_evaluate.go:222", after := #[{ on := 21, ground := Go.Ground.data }, { on := 21, ground := Go.Ground.chain }, { on := 0, ground := Go.Ground.phase }, { on := 1, ground := Go.Ground.phase }, { on := 2, ground := Go.Ground.phase }, { on := 3, ground := Go.Ground.phase }, { on := 4, ground := Go.Ground.phase }, { on := 5, ground := Go.Ground.phase }, { on := 6, ground := Go.Ground.phase }, { on := 7, ground := Go.Ground.phase }, { on := 8, ground := Go.Ground.phase }, { on := 9, ground := Go.Ground.phase }, { on := 10, ground := Go.Ground.phase }, { on := 11, ground := Go.Ground.phase }, { on := 12, ground := Go.Ground.phase }, { on := 13, ground := Go.Ground.phase }, { on := 14, ground := Go.Ground.phase }, { on := 15, ground := Go.Ground.phase }, { on := 16, ground := Go.Ground.phase }, { on := 17, ground := Go.Ground.phase }, { on := 18, ground := Go.Ground.phase }, { on := 19, ground := Go.Ground.phase }, { on := 20, ground := Go.Ground.phase }, { on := 21, ground := Go.Ground.phase }], guard := none }) (v := ?_) rfl (by kernel_rfl) (by kernel_rfl) (by kernel_rfl) (fun _ _ _ h => h) (Or.inl ⟨rfl, ?_⟩) hS ?_
              rotate_left
              · (intro w' hS'; (try dsimp only at hS'); go_simp; try with_reducible rfl)
              simp only [Act.put, List.setIfInBounds_toArray, List.set_cons_zero, List.set_cons_succ]
              refine wpAnyH_done (by kernel_rfl) ?_ _
              clear e1 e2 e3 e4 e5 e6 d1 d2 d3 d4 d5 d6 r2 o2 q2 x2 x2' REP5 hl1 hinv
              go_wp2_with fail
              go_roundw
              case rel =>
                exact ⟨j + 1, v2, F2, by omega, by go_num, rfl, r2'.out, F2n, INV6, hb6, RC6, RS6⟩
              case measure => simp [intOf]; omega
          · obtain rfl : j = st.length := by omega
            have g1 : ¬ ((st.length : Int) < (st.length : Int)) := by omega
            have rep' : Hid ((pConfs 55).rep true wr ((keysAll (xs.take (k + 1))).map oneC) [u] H) := by
              show (pConfs _).rep _ _ _ _ _
              rw [HTK.out]
              rw [List.take_length] at rep
              exact rep
            have hbx := hb
            clear rep hrs
            go_wp2_with fail
            go_roundw
            case rel => exact ⟨k + 1, _, H, by omega, by go_num, rfl, rep'.out, fr, hbx⟩
            case measure => simp [intOf]; omega
      · obtain rfl : k = xs.length := by omega
        have g1 : ¬ ((xs.length : Int) < (xs.length : Int)) := by omega
        rw [List.take_length] at rep
        have hkl := keysAll_len HALL.out
        have SC := Lib.hid (sort_c wr rep (by rw [List.length_map]; omega))
        have HKL := Lib.hid (show (keysAll xs).length ≤ 4000 by omega)
        have hGlt : ∀ x ∈ G, x < wr.heap.size := fun x hx => Ty.rep.blocks rep x hx
        have GLT := Lib.hid hGlt
        have FR := Lib.hid fr
        clear hr rep hkl hGlt fr
        go_wp2_with fail
        refine SC.out.mono ?_
        rintro en w2 ⟨rfl, ys, hp, hso, rep2, o2⟩
        clear SC
        have hb2 : Below w.heap.size w w2 := hb.trans (o2.below hbs FR.out.2)
        have s2 := o2.size
        have hone : ∀ y ∈ ys, y.count = 1 := fun y hy => by
          obtain ⟨q, _, rfl⟩ := List.mem_map.1 (hp.mem_iff.1 hy)
          rfl
        have hzp : (ys.map confKey).Perm (keysAll xs) := by
          have := hp.map confKey
          rw [List.map_map] at this
          rwa [show confKey ∘ oneC = id from rfl, List.map_id] at this
        have hzs : (ys.map confKey).Pairwise (fun x y => cLess y x = false) := List.pairwise_map.2 hso
        have HGR := Lib.hid (group_sorted cLess_sto hzp hzs)
        have hyl : ys.length = (keysAll xs).length := by have := hzp.length_eq; rwa [List.length_map] at this
        have HYL := Lib.hid (show ys.length ≤ 4000 by have := HKL.out; omega)
        have HONE := Lib.hid hone
        have REP := Lib.hid rep2
        obtain ⟨Y, yc, hv, hyc1, hyc2, hyr⟩ := pConfs_open rep2
        subst hv
        clear hp hso hzp hzs hone hyl rep2 o2
        go_wp2_with fail
        go_loopw [12, 72] (fun ov i wx => ∃ (k : Nat) (u : Value) (H : List Nat), k ≤ ys.length ∧ i = .int .i64 k ∧ u = ov ∧ (pConfs 55).rep true wx ((((ys.map confKey).take k).foldl groupN []).map confOf) [u] H ∧ Fresh w2.heap.size H ∧ Below w2.heap.size w2 wx) (fun _ i _ => ys.length - (intOf i).toNat)
        case atStart => exact ⟨0, _, [], Nat.zero_le _, rfl, rfl, conf_empty _ _, Fresh.nil _, Below.refl _ _⟩
        case round =>
          obtain ⟨k, u, H, hk, rfl, hu, rep, fr, hb3⟩ := hrel
          subst hu
          have hb3s := hb3.size
          by_cases hlt : k < ys.length
          · obtain ⟨b, off, rfl, hbb, hin, q0, q1, q2, hw1, hw2, hw3⟩ := hyr k hlt
            rw [← hb3.cell (p := ⟨b, _, none⟩) hbb] at q0 q1 q2
            have hPrev : 0 < k → ∃ hk1 : k - 1 < ys.length, wr.cell? ⟨b, off + (k - 1) * 3, none⟩ = some (.string (ys[k - 1]).want) ∧ wr.cell? ⟨b, off + (k - 1) * 3 + 1, none⟩ = some (.string (ys[k - 1]).got) ∧ wr.cell? ⟨b, off + (k - 1) * 3 + 2, none⟩ = some (.int .i64 (ys[k - 1]).count) := by
              intro h0
              obtain ⟨b2, off2, e2, _, _, p0, p1, p2, _⟩ := hyr (k - 1) (by omega)
              injection e2 with e2
              injection e2 with e2 e3 _
              subst e2; subst e3
              refine ⟨by omega, ?_, ?_, ?_⟩
              · rw [hb3.cell (p := ⟨b, _, none⟩) hbb]; exact p0
              · rw [hb3.cell (p := ⟨b, _, none⟩) hbb]; exact p1
              · rw [hb3.cell (p := ⟨b, _, none⟩) hbb]; exact p2
            have hgt := group_take (ks := ys.map confKey) (k := k) (by simpa using hlt)
            rw [List.getElem_map] at hgt
            have h1 := HONE.out _ (List.getElem_mem hlt)
            have hglen := group_len ((ys.map confKey).take k) []
            have hgb := group_bound ((ys.map confKey).take k) [] 0 (Int.le_refl _) (by simp)
            rw [List.length_take] at hglen hgb
            have hlast : 0 < k → ∃ (hk1 : k - 1 < ys.length) (r : List (CKey × Int)) (n : Int), ((ys.map confKey).take k).foldl groupN [] = r ++ [(confKey ys[k - 1], n)] := by
              intro h0
              obtain ⟨j, rfl⟩ : ∃ j, k = j + 1 := ⟨k - 1, by omega⟩
              obtain ⟨r, n, e⟩ := group_last ((ys.map confKey).take j) (confKey (ys[j]'(by omega)))
              refine ⟨by omega, r, n, ?_⟩
              rw [List.take_succ_eq_append_getElem (by simp; omega), List.getElem_map]
              exact e
            obtain ⟨⟨yw, yg, yn⟩, hye⟩ : ∃ y, ys[k] = y := ⟨_, rfl⟩
            rw [hye] at q0 q1 q2 hgt h1 hw1 hw2 hw3
            dsimp only at q0 q1 q2 h1 hw1 hw2 hw3
            subst h1
            rw [show confKey ⟨yw, yg, 1⟩ = (yw, yg) from rfl] at hgt
            generalize ((ys.map confKey).take k).foldl groupN [] = gl at rep hgt hglen hgb hlast
            have i1 : (k : Int) < (ys.length : Int) := by omega
            have i3 : (0 : Int) ≤ (k : Int) := by omega
            have i2 : IntKind.i64.wrap ((k : Int) + 1) = (k : Int) + 1 := IntWalk.i64_in _ (by have := HYL.out; omega)
            have RX := Row.new wr 55 #[.string yw, .string yg, .int .i64 1]
            have repA := rep.alloc (.cells #[.string yw, .string yg, .int .i64 1] 55)
            have hba : Below w2.heap.size w2 (wr.alloc (.cells #[.string yw, .string yg, .int .i64 1] 55)) := hb3.alloc hb3s _
            have oky : pConfOk ⟨yw, yg, 1⟩ := ⟨hw1, hw2, hw3⟩
            have HGT := Lib.hid hgt
            have FR3 := Lib.hid fr
            have HGL := Lib.hid (show gl.length ≤ 4000 by have := HYL.out; simp at hglen; omega)
            have HGB := Lib.hid hgb
            have HGL0 := Lib.hid (show gl.length ≤ k by simp at hglen; omega)
            have HPV := Lib.hid hPrev
            have HLS := Lib.hid hlast
            have REPA := Lib.hid repA
            have OKY := Lib.hid oky
            have HY := Lib.hid hye
            clear hyr hPrev hgt hglen hgb hlast repA rep oky hye fr hw1 hw2 hw3
            by_cases hk0 : k = 0
            · subst hk0
              have hg0 : gl = [] := List.length_eq_zero_iff.1 (by have := HGL0.out; omega)
              subst hg0
              have hrep : Hid ((pConfs 55).rep true (wr.alloc (.cells #[.string yw, .string yg, .int .i64 1] 55)) [] [u] H) := REPA.out
              have g0 : ¬ ((0 : Int) < ((0 : Nat) : Int)) := by omega
              simp only [Nat.zero_mul, Nat.add_zero] at q0 q1 q2
              obtain ⟨U, n9, c9, rfl⟩ := slice_form hrep.out
              go_wp2_with fail
              go_quiet (fail)
              obtain ⟨m9, rfl⟩ : ∃ n : Nat, n = nq := ⟨_, rfl⟩
              generalize hwa : wr.alloc (.cells #[.string yw, .string yg, .int .i64 1] 55) = wa at *
              have x0 := (RX.drewN m9).cell' (i := 0) rfl
              have x1 := (RX.drewN m9).cell' (i := 1) rfl
              have x2 := (RX.drewN m9).cell' (i := 2) rfl
              go_wp2_with (at_builtin; refine wpList_append_repX (T := pConf) (e := 55) (ys := [⟨yw, yg, 1⟩]) (ec := [.string yw, .string yg, .int .i64 1]) rfl (.tmp 100) (.tmp 102) rfl Try.underlying38 infoConf rfl (by decide) rfl ((hrep.out.drewN m9).alloc _) rfl (repL_pConf [⟨yw, yg, 1⟩] (by intro s hs; simp only [List.mem_singleton] at hs; subst hs; exact OKY.out)) (cellsAt_new _ _ _) trivial (by rw [List.append_nil]; exact FR3.out.1) (by simp [maxLen]) (by simp) ?_; intro v6 w6 F6 r6 o6 q6 x6)
              have F6n := q6 w2.heap.size (by rw [List.append_nil]; exact FR3.out) (by have := hba.size; simp; omega)
              have hb6 : Below w2.heap.size w2 w6 := ((below_drewN hba m9).alloc (by have := hba.size; simp; omega) _).trans (o6.below (by have := hba.size; simp; omega) FR3.out.2)
              have r6' : Hid ((pConfs 55).rep true w6 ((((ys.map confKey).take (0 + 1)).foldl groupN []).map confOf) [v6] F6) := by
                show (pConfs _).rep _ _ _ _ _
                rw [HGT.out]
                exact r6
              clear r6 o6 q6 x6 x0 x1 x2 hrep
              go_wp2_with fail
              go_roundw
              case rel => exact ⟨1, v6, F6, by omega, by first | rfl | go_num, rfl, r6'.out, F6n, hb6⟩
              case measure => simp [intOf]; omega
            · have hk0' : (0 : Int) < (k : Int) := by omega
              obtain ⟨hk1, v0, v1, v2⟩ := HPV.out (by omega)
              obtain ⟨_, r, n, hgl⟩ := HLS.out (by omega)
              subst hgl
              obtain ⟨⟨pw, pg, pn⟩, hpe⟩ : ∃ y, ys[k - 1] = y := ⟨_, rfl⟩
              rw [hpe] at v0 v1 v2
              have HREP0 : Hid ((pConfs 55).rep true (wr.alloc (.cells #[.string yw, .string yg, .int .i64 1] 55)) (r.map confOf ++ [⟨pw, pg, n⟩]) [u] H) := by
                have := REPA.out
                rw [hpe, List.map_append] at this
                exact this
              have hn := HGB.out (confKey ys[k - 1], n) (by simp)
              dsimp only at hn
              rw [hpe] at HGT
              have HGT2 : Hid (((ys.map confKey).take (k + 1)).foldl groupN [] = groupN (r ++ [((pw, pg), n)]) (yw, yg)) := HGT.out
              have HLL : Hid ((r.map confOf ++ [(⟨pw, pg, n⟩ : PConf)]).length ≤ 4000) := by
                show _ ≤ _
                have := HGL.out
                simp only [List.length_append, List.length_map, List.length_singleton] at this ⊢
                exact this
              have hn2 : 1 ≤ n ∧ n ≤ 4000 := ⟨hn.1, by have := HYL.out; omega⟩
              clear hn HGT HGB HGL HGL0 HPV HLS REPA
              have hyl := HYL.out
              have e1 : IntKind.i64.wrap ((k : Int) - 1) = (k : Int) - 1 := IntWalk.i64_in _ (by omega)
              have e2 : ((k : Int) - 1).toNat = k - 1 := by omega
              have e3 : (0 : Int) ≤ (k : Int) - 1 := by omega
              have e4 : (k : Int) - 1 < (ys.length : Int) := by omega
              have CLO := Lib.hid (fun w => closure_c ⟨pw, pg, pn⟩ ⟨yw, yg, 1⟩ w)
              simp only [confKey] at CLO
              have hz := cmpC_zero (pw, pg) (yw, yg)
              generalize cmpC (pw, pg) (yw, yg) = rr at CLO hz
              have HZ := Lib.hid hz
              have bA : b < (wr.alloc (.cells #[.string yw, .string yg, .int .i64 1] 55)).heap.size := by simp; omega
              have v0' := cell_al (.cells #[.string yw, .string yg, .int .i64 1] 55) (show b < wr.heap.size by omega) v0
              have v1' := cell_al (.cells #[.string yw, .string yg, .int .i64 1] 55) (show b < wr.heap.size by omega) v1
              have v2' := cell_al (.cells #[.string yw, .string yg, .int .i64 1] 55) (show b < wr.heap.size by omega) v2
              clear hz v0 v1 v2 hpe
              go_wp2_with fail
              generalize hwa : wr.alloc (.cells #[.string yw, .string yg, .int .i64 1] 55) = wa at *
              have y0 := RX.cell' (i := 0) rfl
              have y1 := RX.cell' (i := 1) rfl
              have y2 := RX.cell' (i := 2) rfl
              have lX := RX.lt
              have hbaS := hba.size
              obtain ⟨U, n9, c9, rfl⟩ := slice_form HREP0.out
              have e5 : (1 : Int) ≤ (k : Int) := by omega
              have e6 : (k : Int) < (ys.length : Int) + 1 := by omega
              have e7 : (k : Int) ≤ (ys.length : Int) := by omega
              have dk1 : (0 < k) = True := eq_true (by omega)
              have dk2 : ((0 : Int) < (k : Int)) = True := eq_true hk0'
              go_region_held3 (fun w' => w'.cell? ⟨b, off + (k - 1) * 3, none⟩ = some (.string pw) ∧ w'.cell? ⟨b, off + (k - 1) * 3 + 1, none⟩ = some (.string pg) ∧ w'.cell? ⟨b, off + (k - 1) * 3 + 2, none⟩ = some (.int .i64 pn) ∧ w'.cell? ⟨wr.heap.size, 0, none⟩ = some (.string yw) ∧ w'.cell? ⟨wr.heap.size, 1, none⟩ = some (.string yg) ∧ w'.cell? ⟨wr.heap.size, 2, none⟩ = some (.int .i64 1)) (first | exact ⟨v0', v1', v2', y0, y1, y2⟩ | exact ⟨cell_be gb bA v0', cell_be gb bA v1', cell_be gb bA v2', cell_be gb lX y0, cell_be gb lX y1, cell_be gb lX y2⟩) (first | (go_at_call 56; refine (CLO.out _).mono ?_; rintro e wb ⟨rfl, gb0⟩; have gb : Below wa.heap.size wa wb := (Below.refl _ _).drew.trans gb0.below))
              have RXb := RX.later gb
              have hrepB := HREP0.out.below gb
              have hbb2 : Below w2.heap.size w2 wb := hba.trans (gb.mono hbaS)
              have gbs := gb.size
              have x0 := RXb.cell' (i := 0) rfl
              have x1 := RXb.cell' (i := 1) rfl
              have x2 := RXb.cell' (i := 2) rfl
              have HRB := Lib.hid hrepB
              clear v0' v1' v2' y0 y1 y2 dk1 dk2 e1 e2 e3 e4 e5 e6 e7 gb0 gb hrepB HREP0
              by_cases heq : (pw, pg) = (yw, yg)
              · have hrr : (rr == 0) = true := by rw [HZ.out.2 heq]; rfl
                obtain ⟨g, cc, hv, hF, hg, hl1, hl2, z0, z1, z2, hfz, hset⟩ := conf_own HRB.out (k := r.length) (by simp)
                injection hv with a1 a2 a3
                subst a1
                have hlen : (r.map confOf ++ [(⟨pw, pg, n⟩ : PConf)]).length = r.length + 1 := by simp
                have hget : (r.map confOf ++ [(⟨pw, pg, n⟩ : PConf)])[r.length]'(by simp) = ⟨pw, pg, n⟩ := by
                  rw [List.getElem_append_right (by simp)]; simp
                rw [hget] at z2
                dsimp only at z2
                rw [hlen] at a2
                have hset1 := hset (n + 1) (by unfold I64; omega)
                rw [hget] at hset1
                have hseq : (r.map confOf ++ [(⟨pw, pg, n⟩ : PConf)]).set r.length ⟨pw, pg, n + 1⟩ = (groupN (r ++ [((pw, pg), n)]) (yw, yg)).map confOf := by
                  rw [← heq, groupN_same, List.set_append_right _ _ (by simp), List.map_append]
                  simp [confOf]
                have HS6 : Hid ((pConfs 55).rep true (wb.setCell ⟨g, r.length * 3 + 2, none⟩ (.int .i64 (n + 1))) ((((ys.map confKey).take (k + 1)).foldl groupN []).map confOf) [.slice (some ⟨g, 0, none⟩) n9 c9] H) := by
                  show (pConfs _).rep _ _ _ _ _
                  rw [HGT2.out, ← hseq]
                  exact hset1
                have hgH : w2.heap.size ≤ g := FR3.out.2 g (by rw [hF]; simp)
                have hb6 : Below w2.heap.size w2 (wb.setCell ⟨g, r.length * 3 + 2, none⟩ (.int .i64 (n + 1))) := hbb2.setCell hgH _
                have e1 : IntKind.i64.wrap ((n9 : Int) - 1) = (n9 : Int) - 1 := IntWalk.i64_in _ (by have := HLL.out; omega)
                have e2 : ((n9 : Int) - 1).toNat = r.length := by omega
                have e3 : (0 : Int) ≤ (n9 : Int) - 1 := by omega
                have e5 : (1 : Int) ≤ (n9 : Int) := by omega
                have e4 : (n9 : Int) - 1 < (n9 : Int) := by omega
                have e6 : r.length < n9 := by omega
                have e7 : IntKind.i64.wrap (n + 1) = n + 1 := IntWalk.i64_in _ (by omega)
                have f2 := hfz (r.length * 3 + 2)
                clear hset hset1 hseq hlen hget z0 z1 hfz heq HLL a2 a3
                go_wp2_with fail
                go_roundw
                case rel => exact ⟨k + 1, _, H, by omega, by go_num, rfl, HS6.out, FR3.out, hb6⟩
                case measure => simp [intOf]; omega
              · have hrr : (rr == 0) = false := by simp; exact fun h => heq (HZ.out.1 h)
                have hlen : (r.map confOf ++ [(⟨pw, pg, n⟩ : PConf)]).length ≤ 4000 := HLL.out
                have HGO : Hid ((((ys.map confKey).take (k + 1)).foldl groupN []).map confOf = (r.map confOf ++ [⟨pw, pg, n⟩]) ++ [⟨yw, yg, 1⟩]) := by
                  show _ = _
                  rw [HGT2.out, groupN_other heq]
                  simp [confOf]
                clear heq
                go_wp2_with (at_builtin; refine wpList_append_repX (T := pConf) (e := 55) (ys := [⟨yw, yg, 1⟩]) (ec := [.string yw, .string yg, .int .i64 1]) rfl (.tmp 100) (.tmp 102) rfl Try.underlying38 infoConf rfl (by decide) rfl (HRB.out.alloc _) rfl (repL_pConf [⟨yw, yg, 1⟩] (by intro s hs; simp only [List.mem_singleton] at hs; subst hs; exact OKY.out)) (cellsAt_new _ _ _) trivial (by rw [List.append_nil]; exact FR3.out.1) (by have := HLL.out; simp only [List.length_singleton, maxLen]; omega) (by have := HLL.out; simp only [List.length_singleton]; omega) ?_; intro v6 w6 F6 r6 o6 q6 x6)
                have F6n := q6 w2.heap.size (by rw [List.append_nil]; exact FR3.out) (by simp; omega)
                have hb6 : Below w2.heap.size w2 w6 := (hbb2.alloc (by omega) _).trans (o6.below (by simp; omega) FR3.out.2)
                have r6' : Hid ((pConfs 55).rep true w6 ((((ys.map confKey).take (k + 1)).foldl groupN []).map confOf) [v6] F6) := by
                  show (pConfs _).rep _ _ _ _ _
                  rw [HGO.out]
                  exact r6
                clear r6 o6 q6 x6 x0 x1 x2
                go_wp2_with fail
                go_roundw
                case rel => exact ⟨k + 1, v6, F6, by omega, by go_num, rfl, r6'.out, F6n, hb6⟩
                case measure => simp [intOf]; omega
          · obtain rfl : k = ys.length := by omega
            have g2 : ¬ ((ys.length : Int) < (ys.length : Int)) := by omega
            rw [List.take_of_length_le (by simp), HGR.out] at rep
            have hfin : GivesConf 55 (confsR xs) (casesCode xs) w (.returned (.tuple #[u, .int .i64 0])) wr := ⟨_, H, by rw [HC.out.2], by rw [HC.out.1]; exact rep, fr.mono (by omega), hb2.trans (hb3.mono (by omega))⟩
            have FIN := Lib.hid hfin
            clear rep hfin hyr fr
            go_wp2_with fail
            go_ret2
            exact FIN.out
end Go.Proofs.Ytelkggafmnckoaa
