/- The reference's Confusions. Conditions: none. -/
import Derived.Test.YtelkggafmnckoaaConfS
import Derived.Test.YtelkggafmnckoaaTakeCall
import Derived.StillTail
import Derived.StillTailTactics
namespace Go.Proofs.Ytelkggafmnckoaa
open Go Go.RowKit

theorem countIns_bound {k : CKey} {m : Int} (hm : 0 ≤ m) : ∀ {l : List (CKey × Int)}, (∀ x ∈ l, 0 ≤ x.2 ∧ x.2 ≤ m) → ∀ x ∈ countIns cLess l k, 0 ≤ x.2 ∧ x.2 ≤ m + 1
  | [], _, x, hx => by simp [countIns] at hx; rw [hx]; dsimp only; omega
  | (a, n) :: r, h, x, hx => by
    have hn := h (a, n) (by simp)
    dsimp only at hn
    unfold countIns at hx
    split at hx
    · rcases List.mem_cons.1 hx with rfl | hx
      · dsimp only; omega
      · exact countIns_bound hm (fun y hy => h y (by simp [hy])) x hx
    · split at hx
      · rcases List.mem_cons.1 hx with rfl | hx
        · dsimp only; omega
        · have := h x (by simp [hx]); omega
      · rcases List.mem_cons.1 hx with rfl | hx
        · dsimp only; omega
        · have := h x hx; omega
theorem count_bound : ∀ (ks : List CKey) (l : List (CKey × Int)) (m : Int), 0 ≤ m → (∀ x ∈ l, 0 ≤ x.2 ∧ x.2 ≤ m) → ∀ x ∈ ks.foldl (countIns cLess) l, 0 ≤ x.2 ∧ x.2 ≤ m + ks.length
  | [], l, m, _, h, x, hx => by have := h x hx; simp; omega
  | k :: ks, l, m, hm, h, x, hx => by
    have := count_bound ks _ (m + 1) (by omega) (countIns_bound hm h) x hx
    simp only [List.length_cons]; omega
theorem countIns_len (l : List (CKey × Int)) (k : CKey) : (countIns cLess l k).length ≤ l.length + 1 := by
  induction l with
  | nil => simp [countIns]
  | cons x r ih =>
    obtain ⟨a, n⟩ := x
    unfold countIns
    split
    · simp; omega
    · split <;> simp
theorem count_len : ∀ (ks : List CKey) (l : List (CKey × Int)), (ks.foldl (countIns cLess) l).length ≤ l.length + ks.length
  | [], l => by simp
  | k :: ks, l => by
    have h1 := count_len ks (countIns cLess l k)
    have h2 := countIns_len l k
    simp only [List.foldl_cons, List.length_cons]; omega
theorem countIns_ne (l : List (CKey × Int)) (k : CKey) : 0 < (countIns cLess l k).length := by
  cases l with
  | nil => simp [countIns]
  | cons x r =>
    obtain ⟨a, n⟩ := x
    unfold countIns
    split
    · simp
    · split <;> simp
theorem extract_none2 (b : ByteArray) (j : Nat) : b.extract j (j + 0) = ⟨#[]⟩ := by
  apply ByteArray.ext
  simp [ByteArray.data_extract]
theorem own_some {w : World} {e : TypeId} {xs : List PConf} {v : Value} {F : List Nat} (h : (pConfs e).rep true w xs [v] F) (hn : 0 < xs.length) : ∃ g n c, v = .slice (some ⟨g, 0, none⟩) n c := by
  obtain ⟨g, c, _, _, _, hv, _⟩ := row_of_slice h hn
  exact ⟨_, _, _, hv⟩
def cntK (ks : List CKey) : List (CKey × Int) := ks.foldl (countIns cLess) []
theorem cntK_snoc (ks : List CKey) (k : CKey) : cntK (ks ++ [k]) = countIns cLess (cntK ks) k := by
  unfold cntK; rw [List.foldl_append]; rfl
/-- A list and a code, in memory of their own. -/
def GivesConfR (e : TypeId) (xs : List PConf) (c : Int) (w : World) (en : Ending) (w' : World) : Prop :=
  ∃ u F, en = .returned (.tuple #[u, .int .i64 c]) ∧ (pConfs e).rep true w' xs [u] F ∧ Fresh w.heap.size F ∧ Below w.heap.size w w'
set_option maxRecDepth 100000 in
set_option maxHeartbeats 8000000 in
theorem spec_Confusions_c {o : Bool} {e : TypeId} {xs : List ACase} {v : Value} {F : List Nat} (w : World) (h : (aCases e).rep o w xs [v] F) (hx : xs.length ≤ 1048576) :
    Calls Try.prog 21 #[v] w (GivesConfR 55 (confsR xs) (casesCode xs) w) := by
  have CA := Lib.hid (spec_l25Cases_c w h hx)
  obtain ⟨A, c, rfl, hc1, hc2, hr⟩ := aCases_open h
  clear h
  cases hok : casesOk xs with
  | false =>
    have HC : Hid (confsR xs = [] ∧ casesCode xs = 5) := by show _ ∧ _; unfold confsR casesCode; rw [hok]; exact ⟨rfl, rfl⟩
    rw [HC.out.2] at CA
    go_enter Try.func21, Try.ntmps21
    go_wp2_with fail
    refine CA.out.mono ?_
    rintro en w1 ⟨rfl, b1⟩
    go_wp2_with fail
    go_ret2
    exact ⟨_, [], by rw [HC.out.2]; rfl, by rw [HC.out.1]; exact conf_empty _ _, Fresh.nil _, b1⟩
  | true =>
    have HC : Hid (confsR xs = (cntK (keysAll xs)).map confOf ∧ casesCode xs = 0) := by show _ ∧ _; unfold confsR casesCode; rw [hok]; exact ⟨rfl, rfl⟩
    have hxl : xs.length ≤ 50 := by simp [casesOk] at hok; exact hok.1
    have hall : xs.all caseOk = true := by simp only [casesOk, Bool.and_eq_true] at hok; exact hok.2
    have HALL := Lib.hid hall
    rw [HC.out.2] at CA
    clear hok hall
    go_enter Try.func21, Try.ntmps21
    go_wp2_with fail
    refine CA.out.mono ?_
    rintro en w1 ⟨rfl, b1⟩
    clear CA
    have b1s := b1.size
    go_wp2_with fail
    go_loopw [5, 6] (fun al i wr => ∃ (k g n c : Nat) (G : List Nat), k ≤ xs.length ∧ i = .int .i64 k ∧ al = .slice (some ⟨g, 0, none⟩) n c ∧ (pConfs 55).rep true wr ((cntK (keysAll (xs.take k))).map confOf) [.slice (some ⟨g, 0, none⟩) n c] G ∧ Fresh w.heap.size G ∧ Below w.heap.size w wr) (fun _ i _ => xs.length - (intOf i).toNat)
    case atStart => exact ⟨0, _, _, _, _, Nat.zero_le _, rfl, rfl, conf_nil _ _, ⟨by simp, by simp; omega⟩, b1.alloc b1s _⟩
    case round =>
      obtain ⟨k, g, n, cc, G, hk, rfl, rfl, rep, fr, hb⟩ := hrel
      have hbs := hb.size
      by_cases hlt : k < xs.length
      · obtain ⟨b, off, rfl, hbb, _, h0, h1, hs1, hs2⟩ := hr k hlt
        rw [← hb.cell (p := ⟨b, _, none⟩) hbb] at h0 h1
        have hck : caseOk xs[k] = true := List.all_eq_true.1 HALL.out _ (List.getElem_mem hlt)
        have hkl := keysAll_len (all_take (k := k) HALL.out)
        simp only [caseOk, shortB, Bool.and_eq_true, decide_eq_true_eq] at hck
        have htk := keysAll_take hlt
        unfold caseKeys at htk
        obtain ⟨⟨wt, gt⟩, hcase⟩ : ∃ c, xs[k] = c := ⟨_, rfl⟩
        rw [hcase] at h0 h1 hck htk hs1 hs2
        dsimp only at h0 h1 hck htk hs1 hs2
        have i1 : (k : Int) < (xs.length : Int) := by omega
        have i3 : (0 : Int) ≤ (k : Int) := by omega
        have i2 : IntKind.i64.wrap ((k : Int) + 1) = (k : Int) + 1 := IntWalk.i64_in _ (by omega)
        have HTK := Lib.hid htk
        have CAL := Lib.hid (spec_l25Steps_c wt gt wr (by omega) (by omega))
        have REP := Lib.hid rep
        have FR := Lib.hid fr
        have HKL := Lib.hid (show (keysAll (xs.take k)).length ≤ 4000 by rw [List.length_take] at hkl; omega)
        have AL := Lib.hid (align_all wt gt)
        have ALN := Lib.hid (show (align wt gt).length ≤ 80 by have := alignFrom_len wt gt (wt.size + gt.size) 0 0; unfold align; omega)
        clear rep fr hr htk hkl hcase
        go_wp2_with fail
        refine CAL.out.mono ?_
        rintro en w2 ⟨vs, GS, rfl, rs, fs, b2⟩
        have hb2 : Below w.heap.size w w2 := hb.trans (b2.mono hbs)
        have rep2 := REP.out.below b2
        obtain ⟨S, sc, rfl, hsc1, hsc2, hst⟩ := asteps_open rs
        have RS := Lib.hid rs
        clear rs fs hst b2 CAL
        generalize align wt gt = st at *
        obtain ⟨wo, hwo⟩ : ∃ x, x = wr := ⟨_, rfl⟩
        subst hwo
        go_wp2_with fail
        go_loopw [5, 10] (fun al i wx => ∃ (j g n c : Nat) (H : List Nat), j ≤ st.length ∧ i = .int .i64 j ∧ al = .slice (some ⟨g, 0, none⟩) n c ∧ (pConfs 55).rep true wx ((cntK (keysAll (xs.take k) ++ stepKeys wt gt (st.take j))).map confOf) [.slice (some ⟨g, 0, none⟩) n c] H ∧ Fresh w.heap.size H ∧ Below w.heap.size w wx ∧ Hid ((asteps 67).rep true wx st [.slice S st.length sc] GS)) (fun _ i _ => st.length - (intOf i).toNat)
        case atStart => exact ⟨0, g, n, cc, G, Nat.zero_le _, rfl, rfl, by simpa [stepKeys] using rep2, FR.out, hb2, RS⟩
        case round =>
          obtain ⟨j, g, n, cc, H, hj, rfl, rfl, rep, fr, hb, hrs⟩ := hrel
          have hbs := hb.size
          by_cases hjt : j < st.length
          · obtain ⟨A3, c8, hv3, _, _, hst3⟩ := asteps_open hrs.out
            injection hv3 with e1 _ e3
            subst e1
            subst e3
            obtain ⟨b', off', rfl, hbb', hin', q0, q1, q2, _⟩ := hst3 j hjt
            clear hst3
            obtain ⟨f1, f2, ⟨f3, f4⟩, f5, f6⟩ := AL.out _ (List.getElem_mem hjt)
            have htj := stepKeys_take (a := wt) (b := gt) hjt
            have hkl := stepKeys_len wt gt (st.take j)
            obtain ⟨⟨op, si, sj⟩, hse⟩ : ∃ s, st[j] = s := ⟨_, rfl⟩
            rw [hse] at q0 q1 q2 f1 f2 f3 f4 f5 f6 htj
            dsimp only at q0 q1 q2 f1 f2 f3 f4 f5 f6 htj
            obtain ⟨si, rfl⟩ : ∃ n : Nat, si = (n : Int) := ⟨si.toNat, by omega⟩
            obtain ⟨sj, rfl⟩ : ∃ n : Nat, sj = (n : Int) := ⟨sj.toNat, by omega⟩
            simp only [Int.toNat_natCast] at f5 f6
            have i1 : (j : Int) < (st.length : Int) := by omega
            have i3 : (0 : Int) ≤ (j : Int) := by omega
            have i2 : IntKind.i64.wrap ((j : Int) + 1) = (j : Int) + 1 := IntWalk.i64_in _ (by have := ALN.out; omega)
            have HTJ := Lib.hid htj
            have hln : (keysAll (xs.take k) ++ stepKeys wt gt (st.take j)).length ≤ 4100 := by
              have a1 := HKL.out
              have a3 := ALN.out
              rw [List.length_take] at hkl
              rw [List.length_append]; omega
            have hcl : (cntK (keysAll (xs.take k) ++ stepKeys wt gt (st.take j))).length ≤ 100000 := by
              have a1 := count_len (keysAll (xs.take k) ++ stepKeys wt gt (st.take j)) []
              rw [List.length_nil] at a1
              unfold cntK; omega
            have hcb : ∀ x ∈ cntK (keysAll (xs.take k) ++ stepKeys wt gt (st.take j)), 0 ≤ x.2 ∧ x.2 ≤ 1000000 := fun x hx => by
              have a1 := count_bound (keysAll (xs.take k) ++ stepKeys wt gt (st.take j)) [] 0 (Int.le_refl _) (by simp) x hx
              omega
            have CNT := Lib.hid (fun (a b : ByteArray) (w' : World) (hbe : Below wr.heap.size wr w') (ha : a.size ≤ 1000) (hb : b.size ≤ 1000) => spec_l25Count_c a b w' (rep.below hbe) hcl ha hb hcb)
            have RN := Row.new wr 67 #[.int .i64 op, .int .i64 si, .int .i64 sj]
            have ba : Below wr.heap.size wr (wr.alloc (.cells #[.int .i64 op, .int .i64 si, .int .i64 sj] 67)) := (Below.refl _ _).alloc (Nat.le_refl _) _
            have n0' := RN.cell' (i := 0) rfl
            have n1' := RN.cell' (i := 1) rfl
            have n2' := RN.cell' (i := 2) rfl
            have REP := Lib.hid rep
            have done_ : ∀ (key : CKey), stepKey wt gt ⟨op, si, sj⟩ = key → op ≠ 0 → ∀ u F' w', (pConfs 55).rep true w' ((countIns cLess (cntK (keysAll (xs.take k) ++ stepKeys wt gt (st.take j))) key).map confOf) [u] F' → Fresh wr.heap.size F' → Below wr.heap.size wr w' → ∃ g n c, u = .slice (some ⟨g, 0, none⟩) n c ∧ (pConfs 55).rep true w' ((cntK (keysAll (xs.take k) ++ stepKeys wt gt (st.take (j + 1)))).map confOf) [.slice (some ⟨g, 0, none⟩) n c] F' ∧ Fresh w.heap.size F' ∧ Below w.heap.size w w' ∧ Hid ((asteps 67).rep true w' st [.slice (some ⟨b', off', none⟩) st.length sc] GS) := by
              intro key hkey hop u F' w' hrep hfr hbe
              obtain ⟨g, n, c, rfl⟩ := own_some hrep (by rw [List.length_map]; exact countIns_ne _ _)
              refine ⟨g, n, c, rfl, ?_, hfr.mono hbs, hb.trans (hbe.mono hbs), hrs.out.below hbe⟩
              rw [HTJ.out, if_neg hop, hkey, ← List.append_assoc, cntK_snoc]
              exact hrep
            have DONE := Lib.hid done_
            clear htj rep hkl hse hln hcl hcb done_
            by_cases hop : op = 0
            · subst hop
              have HD : Hid ((pConfs 55).rep true (wr.alloc (.cells #[.int .i64 0, .int .i64 si, .int .i64 sj] 67)) ((cntK (keysAll (xs.take k) ++ stepKeys wt gt (st.take (j + 1)))).map confOf) [.slice (some ⟨g, 0, none⟩) n cc] H) := by
                show (pConfs _).rep _ _ _ _ _
                rw [HTJ.out, if_pos rfl, List.append_nil]; exact REP.out.alloc _
              go_wp2_with fail
              go_roundw
              case rel => exact ⟨j + 1, g, n, cc, H, by omega, by go_num, rfl, HD.out, fr, hb.alloc hbs _, hrs.out.alloc _⟩
              case measure => simp [intOf]; omega
            · have z1 := ext_size wt si (si + 1)
              have z2 := ext_size gt sj (sj + 1)
              have e1 : IntKind.i64.wrap ((si : Int) + 1) = (si : Int) + 1 := IntWalk.i64_in _ (by omega)
              have e2 : ((si : Int) + 1).toNat = si + 1 := by omega
              have e3 : (0 : Int) ≤ (si : Int) + 1 := by omega
              have e4 : (si : Int) ≤ (si : Int) + 1 := by omega
              have e6 : (0 : Int) ≤ (si : Int) := by omega
              have d1 : IntKind.i64.wrap ((sj : Int) + 1) = (sj : Int) + 1 := IntWalk.i64_in _ (by omega)
              have d2 : ((sj : Int) + 1).toNat = sj + 1 := by omega
              have d3 : (0 : Int) ≤ (sj : Int) + 1 := by omega
              have d4 : (sj : Int) ≤ (sj : Int) + 1 := by omega
              have d6 : (0 : Int) ≤ (sj : Int) := by omega
              have hop3 : op = 1 ∨ op = 2 ∨ op = 3 := by omega
              rcases hop3 with rfl | rfl | rfl
              · have p1 : passI 1 = 1 := rfl
                have p2 : passJ 1 = 1 := rfl
                rw [p1] at f5
                rw [p2] at f6
                have e5 : (si : Int) + 1 ≤ (wt.size : Int) := by omega
                have d5 : (sj : Int) + 1 ≤ (gt.size : Int) := by omega
                have C1 := CNT.out (wt.extract si (si + 1)) (gt.extract sj (sj + 1))
                have HC1 := Lib.hid C1
                have KEY : Hid (stepKey wt gt ⟨1, si, sj⟩ = (wt.extract si (si + 1), gt.extract sj (sj + 1))) := rfl
                clear C1 CNT p1 p2
                go_wp2_with fail
                generalize wr.alloc (.cells #[.int .i64 1, .int .i64 si, .int .i64 sj] 67) = wa at *
                have hS : (fun w' : World => w'.cell? ⟨wr.heap.size, 1, none⟩ = some (.int .i64 (si : Int)) ∧ w'.cell? ⟨wr.heap.size, 2, none⟩ = some (.int .i64 (sj : Int))) wa.drew := ⟨n1', n2'⟩
                dsimp only at hS
                refine wp_region_held_drew (S := (fun w' : World => w'.cell? ⟨wr.heap.size, 1, none⟩ = some (.int .i64 (si : Int)) ∧ w'.cell? ⟨wr.heap.size, 2, none⟩ = some (.int .i64 (sj : Int)))) (by kernel_rfl) hS (fun _ => ?_)
                refine wpAnyH_take (i := 0) (oi := { dst := some 51, op := Go.Op.move (Go.Operand.tmp 5), type := 38, pos := "l25_evaluate.go:217", after := #[], guard := none }) (v := ?_) rfl (by kernel_rfl) (by kernel_rfl) (by kernel_rfl) (fun _ _ _ h => h) (Or.inl ⟨rfl, ?_⟩) hS ?_
                rotate_left
                · (intro w' hS'; (try dsimp only at hS'); go_simp; try with_reducible rfl)
                simp only [Act.put, List.setIfInBounds_toArray, List.set_cons_zero, List.set_cons_succ]
                refine wpAnyH_take (i := 1) (oi := { dst := some 52, op := Go.Op.move (Go.Operand.tmp 7), type := 9, pos := "l25_evaluate.go:217", after := #[], guard := none }) (v := ?_) rfl (by kernel_rfl) (by kernel_rfl) (by kernel_rfl) (fun _ _ _ h => h) (Or.inl ⟨rfl, ?_⟩) hS ?_
                rotate_left
                · (intro w' hS'; (try dsimp only at hS'); go_simp; try with_reducible rfl)
                simp only [Act.put, List.setIfInBounds_toArray, List.set_cons_zero, List.set_cons_succ]
                refine wpAnyH_take (i := 2) (oi := { dst := some 53, op := Go.Op.fieldAddr 67 (Go.Operand.tmp 11) 1, type := 0, pos := "l25_evaluate.go:217", after := #[], guard := none }) (v := ?_) rfl (by kernel_rfl) (by kernel_rfl) (by kernel_rfl) (fun _ _ _ h => h) (Or.inl ⟨rfl, ?_⟩) hS ?_
                rotate_left
                · (intro w' hS'; (try dsimp only at hS'); go_simp; try with_reducible rfl)
                simp only [Act.put, List.setIfInBounds_toArray, List.set_cons_zero, List.set_cons_succ]
                refine wpAnyH_take (i := 3) (oi := { dst := some 54, op := Go.Op.load 2 (Go.Operand.tmp 53), type := 2, pos := "l25_evaluate.go:217", after := #[{ on := 2, ground := Go.Ground.data }], guard := none }) (v := ?_) rfl (by kernel_rfl) (by kernel_rfl) (by kernel_rfl) (fun _ _ _ h => h) (Or.inl ⟨rfl, ?_⟩) hS ?_
                rotate_left
                · (intro w' hS'; (try dsimp only at hS'); go_simp; try with_reducible rfl)
                simp only [Act.put, List.setIfInBounds_toArray, List.set_cons_zero, List.set_cons_succ]
                refine wpAnyH_take (i := 4) (oi := { dst := some 55, op := Go.Op.fieldAddr 67 (Go.Operand.tmp 11) 1, type := 0, pos := "l25_evaluate.go:217", after := #[], guard := none }) (v := ?_) rfl (by kernel_rfl) (by kernel_rfl) (by kernel_rfl) (fun _ _ _ h => h) (Or.inl ⟨rfl, ?_⟩) hS ?_
                rotate_left
                · (intro w' hS'; (try dsimp only at hS'); go_simp; try with_reducible rfl)
                simp only [Act.put, List.setIfInBounds_toArray, List.set_cons_zero, List.set_cons_succ]
                refine wpAnyH_take (i := 5) (oi := { dst := some 56, op := Go.Op.load 2 (Go.Operand.tmp 55), type := 2, pos := "l25_evaluate.go:217", after := #[{ on := 4, ground := Go.Ground.data }], guard := none }) (v := ?_) rfl (by kernel_rfl) (by kernel_rfl) (by kernel_rfl) (fun _ _ _ h => h) (Or.inl ⟨rfl, ?_⟩) hS ?_
                rotate_left
                · (intro w' hS'; (try dsimp only at hS'); go_simp; try with_reducible rfl)
                simp only [Act.put, List.setIfInBounds_toArray, List.set_cons_zero, List.set_cons_succ]
                refine wpAnyH_take (i := 6) (oi := { dst := some 57, op := Go.Op.binOp Go.BinOp.add 2 (Go.Operand.tmp 56) (Go.Operand.const (Go.Value.int Go.IntKind.i64 1)) 2, type := 2, pos := "l25_evaluate.go:217", after := #[{ on := 5, ground := Go.Ground.data }], guard := none }) (v := ?_) rfl (by kernel_rfl) (by kernel_rfl) (by kernel_rfl) (fun _ _ _ h => h) (Or.inl ⟨rfl, ?_⟩) hS ?_
                rotate_left
                · (intro w' hS'; (try dsimp only at hS'); go_simp; try with_reducible rfl)
                simp only [Act.put, List.setIfInBounds_toArray, List.set_cons_zero, List.set_cons_succ]
                refine wpAnyH_take (i := 7) (oi := { dst := some 58, op := Go.Op.slice 9 (Go.Operand.tmp 52) (some (Go.Operand.tmp 54)) (some (Go.Operand.tmp 57)) none, type := 9, pos := "l25_evaluate.go:217", after := #[{ on := 1, ground := Go.Ground.data }, { on := 3, ground := Go.Ground.data }, { on := 6, ground := Go.Ground.data }], guard := none }) (v := ?_) rfl (by kernel_rfl) (by kernel_rfl) (by kernel_rfl) (fun _ _ _ h => h) (Or.inl ⟨rfl, ?_⟩) hS ?_
                rotate_left
                · (intro w' hS'; (try dsimp only at hS'); go_simp; try with_reducible rfl)
                simp only [Act.put, List.setIfInBounds_toArray, List.set_cons_zero, List.set_cons_succ]
                refine wpAnyH_take (i := 8) (oi := { dst := some 59, op := Go.Op.move (Go.Operand.tmp 8), type := 9, pos := "l25_evaluate.go:217", after := #[], guard := none }) (v := ?_) rfl (by kernel_rfl) (by kernel_rfl) (by kernel_rfl) (fun _ _ _ h => h) (Or.inl ⟨rfl, ?_⟩) hS ?_
                rotate_left
                · (intro w' hS'; (try dsimp only at hS'); go_simp; try with_reducible rfl)
                simp only [Act.put, List.setIfInBounds_toArray, List.set_cons_zero, List.set_cons_succ]
                refine wpAnyH_take (i := 9) (oi := { dst := some 60, op := Go.Op.fieldAddr 67 (Go.Operand.tmp 11) 2, type := 0, pos := "l25_evaluate.go:217", after := #[], guard := none }) (v := ?_) rfl (by kernel_rfl) (by kernel_rfl) (by kernel_rfl) (fun _ _ _ h => h) (Or.inl ⟨rfl, ?_⟩) hS ?_
                rotate_left
                · (intro w' hS'; (try dsimp only at hS'); go_simp; try with_reducible rfl)
                simp only [Act.put, List.setIfInBounds_toArray, List.set_cons_zero, List.set_cons_succ]
                refine wpAnyH_take (i := 10) (oi := { dst := some 61, op := Go.Op.load 2 (Go.Operand.tmp 60), type := 2, pos := "l25_evaluate.go:217", after := #[{ on := 9, ground := Go.Ground.data }], guard := none }) (v := ?_) rfl (by kernel_rfl) (by kernel_rfl) (by kernel_rfl) (fun _ _ _ h => h) (Or.inl ⟨rfl, ?_⟩) hS ?_
                rotate_left
                · (intro w' hS'; (try dsimp only at hS'); go_simp; try with_reducible rfl)
                simp only [Act.put, List.setIfInBounds_toArray, List.set_cons_zero, List.set_cons_succ]
                refine wpAnyH_take (i := 11) (oi := { dst := some 62, op := Go.Op.fieldAddr 67 (Go.Operand.tmp 11) 2, type := 0, pos := "l25_evaluate.go:217", after := #[], guard := none }) (v := ?_) rfl (by kernel_rfl) (by kernel_rfl) (by kernel_rfl) (fun _ _ _ h => h) (Or.inl ⟨rfl, ?_⟩) hS ?_
                rotate_left
                · (intro w' hS'; (try dsimp only at hS'); go_simp; try with_reducible rfl)
                simp only [Act.put, List.setIfInBounds_toArray, List.set_cons_zero, List.set_cons_succ]
                refine wpAnyH_take (i := 12) (oi := { dst := some 63, op := Go.Op.load 2 (Go.Operand.tmp 62), type := 2, pos := "l25_evaluate.go:217", after := #[{ on := 11, ground := Go.Ground.data }], guard := none }) (v := ?_) rfl (by kernel_rfl) (by kernel_rfl) (by kernel_rfl) (fun _ _ _ h => h) (Or.inl ⟨rfl, ?_⟩) hS ?_
                rotate_left
                · (intro w' hS'; (try dsimp only at hS'); go_simp; try with_reducible rfl)
                simp only [Act.put, List.setIfInBounds_toArray, List.set_cons_zero, List.set_cons_succ]
                refine wpAnyH_take (i := 13) (oi := { dst := some 64, op := Go.Op.binOp Go.BinOp.add 2 (Go.Operand.tmp 63) (Go.Operand.const (Go.Value.int Go.IntKind.i64 1)) 2, type := 2, pos := "l25_evaluate.go:217", after := #[{ on := 12, ground := Go.Ground.data }], guard := none }) (v := ?_) rfl (by kernel_rfl) (by kernel_rfl) (by kernel_rfl) (fun _ _ _ h => h) (Or.inl ⟨rfl, ?_⟩) hS ?_
                rotate_left
                · (intro w' hS'; (try dsimp only at hS'); go_simp; try with_reducible rfl)
                simp only [Act.put, List.setIfInBounds_toArray, List.set_cons_zero, List.set_cons_succ]
                refine wpAnyH_take (i := 14) (oi := { dst := some 65, op := Go.Op.slice 9 (Go.Operand.tmp 59) (some (Go.Operand.tmp 61)) (some (Go.Operand.tmp 64)) none, type := 9, pos := "l25_evaluate.go:217", after := #[{ on := 8, ground := Go.Ground.data }, { on := 10, ground := Go.Ground.data }, { on := 13, ground := Go.Ground.data }], guard := none }) (v := ?_) rfl (by kernel_rfl) (by kernel_rfl) (by kernel_rfl) (fun _ _ _ h => h) (Or.inl ⟨rfl, ?_⟩) hS ?_
                rotate_left
                · (intro w' hS'; (try dsimp only at hS'); go_simp; try with_reducible rfl)
                simp only [Act.put, List.setIfInBounds_toArray, List.set_cons_zero, List.set_cons_succ]
                refine wpAnyH_ready (rs := [15]) (by kernel_rfl) (by simp) ?_
                refine AllReadyH.cons (o := { dst := some 66, op := Go.Op.call { callee := Go.Callee.value (Go.Operand.func 53), args := #[Go.Operand.tmp 51, Go.Operand.tmp 58, Go.Operand.tmp 65], argTypes := #[38, 9, 9] }, type := 38, pos := "l25_evaluate.go:217", after := #[{ on := 0, ground := Go.Ground.data }, { on := 7, ground := Go.Ground.data }, { on := 14, ground := Go.Ground.data }], guard := none }) rfl (fun K hK => ?_) .nil
                refine step_call 53 #[Go.Operand.tmp 51, Go.Operand.tmp 58, Go.Operand.tmp 65] _ rfl rfl #[.slice (some ⟨g, 0, none⟩) n cc, .string (wt.extract si (si + 1)), .string (gt.extract sj (sj + 1))] Try.call53 (by go_simp) (HC1.out _ ba.drew (by omega) (by omega)) ?_
                rintro en w5 ⟨u5, F5, rfl, r5, fr5, b5⟩
                refine ⟨_, rfl, ?_⟩
                have was : wr.heap.size + 1 ≤ wa.heap.size := RN.lt
                have RN5 := RN.drew.later b5
                have D5 := DONE.out _ KEY.out (by omega) u5 F5 w5 r5 (fr5.mono (by show wr.heap.size ≤ wa.heap.size; omega)) (ba.drew.trans (b5.mono (by show wr.heap.size ≤ wa.heap.size; omega)))
                obtain ⟨g5, n5, c5, rfl, r6, f6', b6, s6⟩ := D5
                replace hS : w5.cell? ⟨wr.heap.size, 1, none⟩ = some (.int .i64 (si : Int)) ∧ w5.cell? ⟨wr.heap.size, 2, none⟩ = some (.int .i64 (sj : Int)) := ⟨RN5.cell' (i := 1) rfl, RN5.cell' (i := 2) rfl⟩
                refine hK.out _ _ ?_ (fun hHeld => ?_)
                · exact hS
                clear hK K hHeld
                simp only [Act.put, List.setIfInBounds_toArray, List.set_cons_zero, List.set_cons_succ]
                refine wpAnyH_take (i := 16) (oi := { dst := some 5, op := Go.Op.assign (Go.Operand.tmp 66), type := 38, pos := "l25_evaluate.go:217", after := #[{ on := 15, ground := Go.Ground.data }, { on := 15, ground := Go.Ground.chain }, { on := 0, ground := Go.Ground.phase }, { on := 1, ground := Go.Ground.phase }, { on := 2, ground := Go.Ground.phase }, { on := 3, ground := Go.Ground.phase }, { on := 4, ground := Go.Ground.phase }, { on := 5, ground := Go.Ground.phase }, { on := 6, ground := Go.Ground.phase }, { on := 7, ground := Go.Ground.phase }, { on := 8, ground := Go.Ground.phase }, { on := 9, ground := Go.Ground.phase }, { on := 10, ground := Go.Ground.phase }, { on := 11, ground := Go.Ground.phase }, { on := 12, ground := Go.Ground.phase }, { on := 13, ground := Go.Ground.phase }, { on := 14, ground := Go.Ground.phase }, { on := 15, ground := Go.Ground.phase }], guard := none }) (v := ?_) rfl (by kernel_rfl) (by kernel_rfl) (by kernel_rfl) (fun _ _ _ h => h) (Or.inl ⟨rfl, ?_⟩) hS ?_
                rotate_left
                · (intro w' hS'; (try dsimp only at hS'); go_simp; try with_reducible rfl)
                simp only [Act.put, List.setIfInBounds_toArray, List.set_cons_zero, List.set_cons_succ]
                refine wpAnyH_done (by kernel_rfl) ?_ _
                have R6 := Lib.hid r6
                clear e1 e2 e3 e4 e5 e6 d1 d2 d3 d4 d5 d6 r5 r6
                go_wp2_with fail
                go_roundw
                case rel => exact ⟨j + 1, g5, n5, c5, F5, by omega, by go_num, rfl, R6.out, f6', b6, s6⟩
                case measure => simp [intOf]; omega
              · have p1 : passI 2 = 1 := rfl
                have p2 : passJ 2 = 0 := rfl
                rw [p1] at f5
                rw [p2] at f6
                have e5 : (si : Int) + 1 ≤ (wt.size : Int) := by omega
                have C1 := CNT.out (wt.extract si (si + 1)) ⟨#[]⟩
                have HC1 := Lib.hid C1
                have KEY : Hid (stepKey wt gt ⟨2, si, sj⟩ = (wt.extract si (si + 1), ⟨#[]⟩)) := by
                  show (wt.extract si (si + 1), gt.extract sj (sj + 0)) = _
                  rw [extract_none2]
                clear C1 CNT p1 p2
                go_wp2_with fail
                refine (HC1.out _ ba (by omega) (by decide)).mono ?_
                rintro en w5 ⟨u5, F5, rfl, r5, fr5, b5⟩
                have D5 := DONE.out _ KEY.out (by omega) u5 F5 w5 r5 (fr5.mono (by simp)) (ba.trans (b5.mono (by simp)))
                obtain ⟨g5, n5, c5, rfl, r6, f6', b6, s6⟩ := D5
                have R6 := Lib.hid r6
                clear e1 e2 e3 e4 e5 e6 d1 d2 d3 d4 d6 r5 r6
                go_wp2_with fail
                go_roundw
                case rel => exact ⟨j + 1, g5, n5, c5, F5, by omega, by go_num, rfl, R6.out, f6', b6, s6⟩
                case measure => simp [intOf]; omega
              · have p1 : passI 3 = 0 := rfl
                have p2 : passJ 3 = 1 := rfl
                rw [p1] at f5
                rw [p2] at f6
                have d5 : (sj : Int) + 1 ≤ (gt.size : Int) := by omega
                have C1 := CNT.out ⟨#[]⟩ (gt.extract sj (sj + 1))
                have HC1 := Lib.hid C1
                have KEY : Hid (stepKey wt gt ⟨3, si, sj⟩ = (⟨#[]⟩, gt.extract sj (sj + 1))) := by
                  show (wt.extract si (si + 0), gt.extract sj (sj + 1)) = _
                  rw [extract_none2]
                clear C1 CNT p1 p2
                go_wp2_with fail
                refine (HC1.out _ ba (by decide) (by omega)).mono ?_
                rintro en w5 ⟨u5, F5, rfl, r5, fr5, b5⟩
                have D5 := DONE.out _ KEY.out (by omega) u5 F5 w5 r5 (fr5.mono (by simp)) (ba.trans (b5.mono (by simp)))
                obtain ⟨g5, n5, c5, rfl, r6, f6', b6, s6⟩ := D5
                have R6 := Lib.hid r6
                clear e1 e2 e3 e4 e6 d1 d2 d3 d4 d5 d6 r5 r6
                go_wp2_with fail
                go_roundw
                case rel => exact ⟨j + 1, g5, n5, c5, F5, by omega, by go_num, rfl, R6.out, f6', b6, s6⟩
                case measure => simp [intOf]; omega
          · obtain rfl : j = st.length := by omega
            have g1 : ¬ ((st.length : Int) < (st.length : Int)) := by omega
            have rep' : Hid ((pConfs 55).rep true wr ((cntK (keysAll (xs.take (k + 1)))).map confOf) [.slice (some ⟨g, 0, none⟩) n cc] H) := by
              show (pConfs _).rep _ _ _ _ _
              rw [HTK.out]
              rw [List.take_length] at rep
              exact rep
            have hbx := hb
            clear rep hrs
            go_wp2_with fail
            go_roundw
            case rel => exact ⟨k + 1, g, n, cc, H, by omega, by go_num, rfl, rep'.out, fr, hbx⟩
            case measure => simp [intOf]; omega
      · obtain rfl : k = xs.length := by omega
        have g1 : ¬ ((xs.length : Int) < (xs.length : Int)) := by omega
        rw [List.take_length] at rep
        have hfin : GivesConfR 55 (confsR xs) (casesCode xs) w (.returned (.tuple #[.slice (some ⟨g, 0, none⟩) n cc, .int .i64 0])) wr := ⟨_, G, by rw [HC.out.2], by rw [HC.out.1]; exact rep, fr, hb⟩
        have FIN := Lib.hid hfin
        clear rep hfin hr
        go_wp2_with fail
        go_ret2
        exact FIN.out
end Go.Proofs.Ytelkggafmnckoaa
