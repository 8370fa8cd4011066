/- Setups and sessions are equal: the program's parts. Conditions: none. -/
import Derived.Test.YtkfadfddhbpngaaGreatSeEqLx
namespace Go.Proofs.YtkfadfddhbpngaaGreat
open Go Go.RowKit

theorem and_dec {p q r : Prop} [Decidable p] [Decidable q] [Decidable r] (h : r ↔ p ∧ q) : decide r = (decide p && decide q) := by rw [← Bool.decide_and]; exact decide_eq_decide.2 h
theorem temp_eq (s t : PTemp) : decide (s = t) = (decide (s.label = t.label) && decide (s.feats = t.feats)) := and_dec (by cases s; cases t; simp)
set_option maxHeartbeats 1000000 in
theorem impl_SameInk1_c {oa ob : Bool} {ea eb : TypeId} {xs ys : PStroke} {v u : Value} {F G : List Nat} (w : World) (h : (pPoints ea).rep oa w xs [v] F) (h' : (pPoints eb).rep ob w ys [u] G) (hx : xs.length ≤ 1048576) (hy : ys.length ≤ 1048576) :
 Calls Tryz.prog 166 #[.agg #[v], .agg #[u]] w fun e w' => e = .returned (.bool (decide (xs = ys))) ∧ Below w.heap.size w w' := by
 have HC := Lib.hid (fun w' (q : (pPoints ea).rep oa w' xs [v] F) (q' : (pPoints eb).rep ob w' ys [u] G) => Equal_Point_c w' q q' hx hy)
 generalize decide (xs = ys) = d at HC ⊢
 obtain ⟨A1, k1, rfl⟩ := slice_len h
 obtain ⟨A2, k2, rfl⟩ := slice_len h'
 go_enter Tryz.func166, Tryz.ntmps166
 go_wp2_with fail
 refine (HC.out _ ((h.alloc _).alloc _) ((h'.alloc _).alloc _)).mono ?_
 rintro e w1 ⟨rfl, m, rfl⟩
 go_wp2_with fail
 go_ret
 exact ⟨rfl, below_drewN (((Below.refl _ _).alloc (Nat.le_refl _) _).alloc (by simp) _) m⟩
set_option maxHeartbeats 1000000 in
theorem impl_SameStore1_c {oa ob : Bool} {ea eb : TypeId} {s t : PTemp} {v u : Value} {F G : List Nat} (w : World) (h : (pFeats ea).rep oa w s.feats [v] F) (h' : (pFeats eb).rep ob w t.feats [u] G) (hx : s.feats.length ≤ 1048576) (hy : t.feats.length ≤ 1048576) :
 Calls Tryz.prog 161 #[.agg #[.string s.label, v], .agg #[.string t.label, u]] w fun e w' => e = .returned (.bool (decide (s = t))) ∧ Below w.heap.size w w' := by
 have HC := Lib.hid (fun w' (q : (pFeats ea).rep oa w' s.feats [v] F) (q' : (pFeats eb).rep ob w' t.feats [u] G) => Equal_Feat_c w' q q' hx hy)
 have g := str_eq s.label t.label
 rw [temp_eq]
 generalize decide (s.label = t.label) = d1 at g ⊢
 generalize decide (s.feats = t.feats) = d2 at HC ⊢
 obtain ⟨A1, k1, rfl⟩ := slice_len h
 obtain ⟨A2, k2, rfl⟩ := slice_len h'
 have al : Below w.heap.size w ((w.alloc (.cells #[.string s.label, .slice A1 s.feats.length k1] 215)).alloc (.cells #[.string t.label, .slice A2 t.feats.length k2] 215)) := ((Below.refl _ _).alloc (Nat.le_refl _) _).alloc (by simp) _
 cases d1
 · go_enter Tryz.func161, Tryz.ntmps161
   go_wp2_with fail
   go_ret
   exact ⟨rfl, al⟩
 · go_enter Tryz.func161, Tryz.ntmps161
   go_wp2_with fail
   refine (HC.out _ ((h.alloc _).alloc _) ((h'.alloc _).alloc _)).mono ?_
   rintro e w1 ⟨rfl, m, rfl⟩
   go_wp2_with fail
   go_ret
   exact ⟨rfl, below_drewN al m⟩
set_option maxRecDepth 100000 in
set_option maxHeartbeats 1000000 in
theorem EqualFunc_Stroke {oa ob : Bool} {pa pb ea eb : TypeId} {xs ys : List PStroke} {v u : Value} {F G : List Nat} (w : World) (h : (pStrokes pa ea).rep oa w xs [v] F) (h' : (pStrokes pb eb).rep ob w ys [u] G) (hx : xs.length ≤ 1048576) (hy : ys.length ≤ 1048576) (hxe : ∀ l ∈ xs, l.length ≤ 1048576) (hye : ∀ l ∈ ys, l.length ≤ 1048576) :
 Calls Tryz.prog 165 #[v, u, .func (.func 166) #[] #[]] w fun e w' => e = .returned (.bool (decide (xs = ys))) ∧ Below w.heap.size w w' := by
 obtain ⟨A, c, rfl, hc1, hc2, hr⟩ := pStrokes_open h
 obtain ⟨B, d, rfl, hd1, hd2, hs⟩ := pStrokes_open h'
 clear h h'
 by_cases hl : xs.length = ys.length
 · have hne : ((xs.length : Int) != (ys.length : Int)) = false := by simp [hl]
   have HL := Lib.hid hl
   clear hl
   go_enter Tryz.func165, Tryz.ntmps165
   go_wp2_with fail
   go_loopw [17] (fun i wr => ∃ k : Nat, k ≤ xs.length ∧ i = .int .i64 k ∧ (∀ j (hj : j < xs.length) (hj' : j < ys.length), j < k → xs[j] = ys[j]) ∧ Below w.heap.size w wr) (fun i _ => xs.length - (intOf i).toNat)
   case atStart => exact ⟨0, Nat.zero_le _, rfl, fun _ _ _ h => by omega, Below.refl _ _⟩
   case round =>
    obtain ⟨k, hk, rfl, hall, hb⟩ := hrel
    have hbs := hb.size
    by_cases hlt : k < xs.length
    · have hlt' : k < ys.length := by have := HL.out; omega
      obtain ⟨b, off, v1, F1, rfl, hbb, _, R1, _, h0⟩ := hr k hlt
      obtain ⟨b', off', v2, F2, rfl, hbb', _, R2, _, g0⟩ := hs k hlt'
      rw [← hb.cell (p := ⟨b, _, none⟩) hbb] at h0
      rw [← hb.cell (p := ⟨b', _, none⟩) hbb'] at g0
      obtain ⟨X1, x1, rfl⟩ := slice_len R1
      obtain ⟨X2, x2, rfl⟩ := slice_len R2
      have Q1 := Lib.hid (R1.below hb)
      have Q2 := Lib.hid (R2.below hb)
      have L1 := hxe _ (List.getElem_mem hlt)
      have L2 := hye _ (List.getElem_mem hlt')
      have HA := Lib.hid hall
      have nb : b' < wr.heap.size := by omega
      have nb2 : ¬ b' = wr.heap.size := by omega
      have g1 : (k : Int) < (ys.length : Int) := by omega
      have g2 : (k : Int) < (xs.length : Int) := by omega
      clear hr hs hall R1 R2
      have C := fun (w' : World) (q1 : (pPoints pa).rep oa w' xs[k] [.slice X1 xs[k].length x1] F1) (q2 : (pPoints pb).rep ob w' ys[k] [.slice X2 ys[k].length x2] F2) => impl_SameInk1_c w' q1 q2 L1 L2
      by_cases hkk : xs[k] = ys[k]
      · simp only [decide_eq_true hkk] at C
        have HC := Lib.hid C
        have HK := Lib.hid hkk
        clear C hkk
        go_wp2_with fail
        refine (HC.out _ ((Q1.out.alloc _).alloc _) ((Q2.out.alloc _).alloc _)).mono ?_
        rintro e w1 ⟨rfl, hb1⟩
        go_wp2_with fail
        go_roundw
        case rel =>
         refine ⟨k + 1, by omega, by go_num, fun j hj hj' hjk => ?_, (((hb.alloc hbs _).alloc (by simp; omega) _).trans (hb1.mono (by simp; omega)))⟩
         by_cases e : j = k
         · subst e; exact HK.out
         · exact HA.out j hj hj' (by omega)
        case measure => simp [intOf]; omega
      · simp only [decide_eq_false hkk] at C
        have HC := Lib.hid C
        have HK := Lib.hid hkk
        clear C hkk
        go_wp2_with fail
        refine (HC.out _ ((Q1.out.alloc _).alloc _) ((Q2.out.alloc _).alloc _)).mono ?_
        rintro e w1 ⟨rfl, hb1⟩
        go_wp2_with fail
        go_ret
        have hne : ¬ xs = ys := fun e => by subst e; exact HK.out rfl
        exact ⟨by simp [hne], (((hb.alloc hbs _).alloc (by simp; omega) _).trans (hb1.mono (by simp; omega)))⟩
    · obtain rfl : k = xs.length := by omega
      have heq : xs = ys := List.ext_getElem HL.out (fun j h1 h2 => hall j h1 h2 h1)
      clear hall
      go_wp2_with fail
      go_ret
      exact ⟨by simp [heq], hb⟩
 · have hne : ((xs.length : Int) != (ys.length : Int)) = true := by rw [bne_iff_ne]; omega
   have hxy : ¬ xs = ys := fun e => hl (by rw [e])
   have HL := Lib.hid hxy
   clear hl hxy
   go_enter Tryz.func165, Tryz.ntmps165
   go_wp2_with fail
   go_ret
   exact ⟨by simp [HL.out], Below.refl _ _⟩
set_option maxRecDepth 100000 in
set_option maxHeartbeats 1000000 in
theorem EqualFunc_Temp {oa ob : Bool} {pa pb ea eb : TypeId} {xs ys : List PTemp} {v u : Value} {F G : List Nat} (w : World) (h : (pTemps pa ea).rep oa w xs [v] F) (h' : (pTemps pb eb).rep ob w ys [u] G) (hx : xs.length ≤ 1048576) (hy : ys.length ≤ 1048576) (hxe : ∀ l ∈ xs, l.feats.length ≤ 1048576) (hye : ∀ l ∈ ys, l.feats.length ≤ 1048576) :
 Calls Tryz.prog 160 #[v, u, .func (.func 161) #[] #[]] w fun e w' => e = .returned (.bool (decide (xs = ys))) ∧ Below w.heap.size w w' := by
 obtain ⟨A, c, rfl, hc1, hc2, hr⟩ := pTemps_open h
 obtain ⟨B, d, rfl, hd1, hd2, hs⟩ := pTemps_open h'
 clear h h'
 by_cases hl : xs.length = ys.length
 · have hne : ((xs.length : Int) != (ys.length : Int)) = false := by simp [hl]
   have HL := Lib.hid hl
   clear hl
   go_enter Tryz.func160, Tryz.ntmps160
   go_wp2_with fail
   go_loopw [17] (fun i wr => ∃ k : Nat, k ≤ xs.length ∧ i = .int .i64 k ∧ (∀ j (hj : j < xs.length) (hj' : j < ys.length), j < k → xs[j] = ys[j]) ∧ Below w.heap.size w wr) (fun i _ => xs.length - (intOf i).toNat)
   case atStart => exact ⟨0, Nat.zero_le _, rfl, fun _ _ _ h => by omega, Below.refl _ _⟩
   case round =>
    obtain ⟨k, hk, rfl, hall, hb⟩ := hrel
    have hbs := hb.size
    by_cases hlt : k < xs.length
    · have hlt' : k < ys.length := by have := HL.out; omega
      obtain ⟨b, off, v1, F1, rfl, hbb, _, _, R1, _, h0, h1⟩ := hr k hlt
      obtain ⟨b', off', v2, F2, rfl, hbb', _, _, R2, _, g0, g10⟩ := hs k hlt'
      rw [← hb.cell (p := ⟨b, _, none⟩) hbb] at h0 h1
      rw [← hb.cell (p := ⟨b', _, none⟩) hbb'] at g0 g10
      obtain ⟨X1, x1, rfl⟩ := slice_len R1
      obtain ⟨X2, x2, rfl⟩ := slice_len R2
      have Q1 := Lib.hid (R1.below hb)
      have Q2 := Lib.hid (R2.below hb)
      have L1 := hxe _ (List.getElem_mem hlt)
      have L2 := hye _ (List.getElem_mem hlt')
      have HA := Lib.hid hall
      have nb : b' < wr.heap.size := by omega
      have nb2 : ¬ b' = wr.heap.size := by omega
      have g1 : (k : Int) < (ys.length : Int) := by omega
      have g2 : (k : Int) < (xs.length : Int) := by omega
      clear hr hs hall R1 R2
      have C := fun (w' : World) (q1 : (pFeats pa).rep oa w' xs[k].feats [.slice X1 xs[k].feats.length x1] F1) (q2 : (pFeats pb).rep ob w' ys[k].feats [.slice X2 ys[k].feats.length x2] F2) => impl_SameStore1_c w' q1 q2 L1 L2
      by_cases hkk : xs[k] = ys[k]
      · simp only [decide_eq_true hkk] at C
        have HC := Lib.hid C
        have HK := Lib.hid hkk
        clear C hkk
        go_wp2_with fail
        refine (HC.out _ ((Q1.out.alloc _).alloc _) ((Q2.out.alloc _).alloc _)).mono ?_
        rintro e w1 ⟨rfl, hb1⟩
        go_wp2_with fail
        go_roundw
        case rel =>
         refine ⟨k + 1, by omega, by go_num, fun j hj hj' hjk => ?_, (((hb.alloc hbs _).alloc (by simp; omega) _).trans (hb1.mono (by simp; omega)))⟩
         by_cases e : j = k
         · subst e; exact HK.out
         · exact HA.out j hj hj' (by omega)
        case measure => simp [intOf]; omega
      · simp only [decide_eq_false hkk] at C
        have HC := Lib.hid C
        have HK := Lib.hid hkk
        clear C hkk
        go_wp2_with fail
        refine (HC.out _ ((Q1.out.alloc _).alloc _) ((Q2.out.alloc _).alloc _)).mono ?_
        rintro e w1 ⟨rfl, hb1⟩
        go_wp2_with fail
        go_ret
        have hne : ¬ xs = ys := fun e => by subst e; exact HK.out rfl
        exact ⟨by simp [hne], (((hb.alloc hbs _).alloc (by simp; omega) _).trans (hb1.mono (by simp; omega)))⟩
    · obtain rfl : k = xs.length := by omega
      have heq : xs = ys := List.ext_getElem HL.out (fun j h1 h2 => hall j h1 h2 h1)
      clear hall
      go_wp2_with fail
      go_ret
      exact ⟨by simp [heq], hb⟩
 · have hne : ((xs.length : Int) != (ys.length : Int)) = true := by rw [bne_iff_ne]; omega
   have hxy : ¬ xs = ys := fun e => hl (by rw [e])
   have HL := Lib.hid hxy
   clear hl hxy
   go_enter Tryz.func160, Tryz.ntmps160
   go_wp2_with fail
   go_ret
   exact ⟨by simp [HL.out], Below.refl _ _⟩
set_option maxHeartbeats 1000000 in
theorem impl_SameStore_c {oa ob : Bool} {pa pb ea eb : TypeId} {n m' : Int} {xs ys : List PTemp} {v u : Value} {F G : List Nat} (w : World) (h : (pTemps pa ea).rep oa w xs [v] F) (h' : (pTemps pb eb).rep ob w ys [u] G) (hx : xs.length ≤ 1048576) (hy : ys.length ≤ 1048576) (hxe : ∀ l ∈ xs, l.feats.length ≤ 1048576) (hye : ∀ l ∈ ys, l.feats.length ≤ 1048576) :
 Calls Tryz.prog 88 #[.agg #[.int .i64 n, v], .agg #[.int .i64 m', u]] w fun e w' => e = .returned (.bool (decide (n = m') && decide (xs = ys))) ∧ Below w.heap.size w w' := by
 have HC := Lib.hid (fun w' (q : (pTemps pa ea).rep oa w' xs [v] F) (q' : (pTemps pb eb).rep ob w' ys [u] G) => EqualFunc_Temp w' q q' hx hy hxe hye)
 generalize decide (xs = ys) = d2 at HC ⊢
 obtain ⟨Aa, ka, rfl⟩ := slice_len h
 obtain ⟨Ab, kb, rfl⟩ := slice_len h'
 have al : Below w.heap.size w ((w.alloc (.cells #[.int .i64 n, .slice Aa xs.length ka] 52)).alloc (.cells #[.int .i64 m', .slice Ab ys.length kb] 52)) := ((Below.refl _ _).alloc (Nat.le_refl _) _).alloc (by simp) _
 have g : (n == m') = decide (n = m') := by by_cases hh : n = m' <;> simp [hh]
 generalize decide (n = m') = d1 at g ⊢
 cases d1
 · go_enter Tryz.func88, Tryz.ntmps88
   go_wp2_with fail
   go_ret
   exact ⟨rfl, al⟩
 · go_enter Tryz.func88, Tryz.ntmps88
   go_wp2_with fail
   refine (HC.out _ ((h.alloc _).alloc _) ((h'.alloc _).alloc _)).mono ?_
   rintro e w1 ⟨rfl, b1⟩
   go_wp2_with fail
   go_ret
   exact ⟨rfl, al.trans (b1.mono al.size)⟩
set_option maxHeartbeats 1000000 in
theorem impl_SameLexicon_c {oa ob : Bool} {ea eb : TypeId} {xs ys : List PEntry} {v u : Value} {F G : List Nat} (w : World) (h : (pEntrys ea).rep oa w xs [v] F) (h' : (pEntrys eb).rep ob w ys [u] G) (hx : xs.length ≤ 1048576) (hy : ys.length ≤ 1048576) :
 Calls Tryz.prog 89 #[.agg #[v], .agg #[u]] w fun e w' => e = .returned (.bool (decide (xs = ys))) ∧ Below w.heap.size w w' := by
 have HC := Lib.hid (fun w' (q : (pEntrys ea).rep oa w' xs [v] F) (q' : (pEntrys eb).rep ob w' ys [u] G) => Equal_Entry_c w' q q' hx hy)
 generalize decide (xs = ys) = d2 at HC ⊢
 obtain ⟨Aa, ka, rfl⟩ := slice_len h
 obtain ⟨Ab, kb, rfl⟩ := slice_len h'
 have al : Below w.heap.size w ((w.alloc (.cells #[.slice Aa xs.length ka] 56)).alloc (.cells #[.slice Ab ys.length kb] 56)) := ((Below.refl _ _).alloc (Nat.le_refl _) _).alloc (by simp) _
 go_enter Tryz.func89, Tryz.ntmps89
 go_wp2_with fail
 refine (HC.out _ ((h.alloc _).alloc _) ((h'.alloc _).alloc _)).mono ?_
 rintro e w1 ⟨rfl, m, rfl⟩
 go_wp2_with fail
 go_ret
 exact ⟨rfl, below_drewN al m⟩
set_option maxHeartbeats 1000000 in
theorem impl_SameModel_c {oa ob : Bool} {ea eb : TypeId} {n m' : Int} {xs ys : List PBigram} {v u : Value} {F G : List Nat} (w : World) (h : (pBigrams ea).rep oa w xs [v] F) (h' : (pBigrams eb).rep ob w ys [u] G) (hx : xs.length ≤ 1048576) (hy : ys.length ≤ 1048576) :
 Calls Tryz.prog 90 #[.agg #[.int .i64 n, v], .agg #[.int .i64 m', u]] w fun e w' => e = .returned (.bool (decide (n = m') && decide (xs = ys))) ∧ Below w.heap.size w w' := by
 have HC := Lib.hid (fun w' (q : (pBigrams ea).rep oa w' xs [v] F) (q' : (pBigrams eb).rep ob w' ys [u] G) => Equal_Bigram_c w' q q' hx hy)
 generalize decide (xs = ys) = d2 at HC ⊢
 obtain ⟨Aa, ka, rfl⟩ := slice_len h
 obtain ⟨Ab, kb, rfl⟩ := slice_len h'
 have al : Below w.heap.size w ((w.alloc (.cells #[.int .i64 n, .slice Aa xs.length ka] 59)).alloc (.cells #[.int .i64 m', .slice Ab ys.length kb] 59)) := ((Below.refl _ _).alloc (Nat.le_refl _) _).alloc (by simp) _
 have g : (n == m') = decide (n = m') := by by_cases hh : n = m' <;> simp [hh]
 generalize decide (n = m') = d1 at g ⊢
 cases d1
 · go_enter Tryz.func90, Tryz.ntmps90
   go_wp2_with fail
   go_ret
   exact ⟨rfl, al⟩
 · go_enter Tryz.func90, Tryz.ntmps90
   go_wp2_with fail
   refine (HC.out _ ((h.alloc _).alloc _) ((h'.alloc _).alloc _)).mono ?_
   rintro e w1 ⟨rfl, m, rfl⟩
   go_wp2_with fail
   go_ret
   exact ⟨rfl, below_drewN al m⟩
set_option maxHeartbeats 1000000 in
theorem impl_SameInk_c {oa ob : Bool} {pa pb ea eb : TypeId} {xs ys : List PStroke} {v u : Value} {F G : List Nat} (w : World) (h : (pStrokes pa ea).rep oa w xs [v] F) (h' : (pStrokes pb eb).rep ob w ys [u] G) (hx : xs.length ≤ 1048576) (hy : ys.length ≤ 1048576) (hxe : ∀ l ∈ xs, l.length ≤ 1048576) (hye : ∀ l ∈ ys, l.length ≤ 1048576) :
 Calls Tryz.prog 91 #[.agg #[v], .agg #[u]] w fun e w' => e = .returned (.bool (decide (xs = ys))) ∧ Below w.heap.size w w' := by
 have HC := Lib.hid (fun w' (q : (pStrokes pa ea).rep oa w' xs [v] F) (q' : (pStrokes pb eb).rep ob w' ys [u] G) => EqualFunc_Stroke w' q q' hx hy hxe hye)
 generalize decide (xs = ys) = d2 at HC ⊢
 obtain ⟨Aa, ka, rfl⟩ := slice_len h
 obtain ⟨Ab, kb, rfl⟩ := slice_len h'
 have al : Below w.heap.size w ((w.alloc (.cells #[.slice Aa xs.length ka] 64)).alloc (.cells #[.slice Ab ys.length kb] 64)) := ((Below.refl _ _).alloc (Nat.le_refl _) _).alloc (by simp) _
 go_enter Tryz.func91, Tryz.ntmps91
 go_wp2_with fail
 refine (HC.out _ ((h.alloc _).alloc _) ((h'.alloc _).alloc _)).mono ?_
 rintro e w1 ⟨rfl, b1⟩
 go_wp2_with fail
 go_ret
 exact ⟨rfl, al.trans (b1.mono al.size)⟩
end Go.Proofs.YtkfadfddhbpngaaGreat
