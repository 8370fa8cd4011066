/- Pages: two pages are equal. Conditions: none. -/
import Derived.Test.YtkfadfddhbpngaaGreatPgTox
import Derived.Test.YtkfadfddhbpngaaGreatEqStrx
import Derived.Laws.StructEq
namespace Go.Proofs.YtkfadfddhbpngaaGreat
open Go Go.RowKit


theorem step_neq (s t : PStep) (w : World) : (binOp .neq 159 (.agg #[.int .i64 s.kind, .int .i64 s.line, .int .i64 s.pos, .string s.word, .string s.old]) (.agg #[.int .i64 t.kind, .int .i64 t.line, .int .i64 t.pos, .string t.word, .string t.old])).run Tryz.prog w = .ok (.bool (!decide (s = t))) w := by
 have hS : Tryz.prog.underlying 159 = some (.struct (Tryz.prog.fieldsOf 159)) := by kernel_rfl
 have hp : Tryz.prog.stoodInHeld 159 = false := by kernel_rfl
 rw [run_neq_struct, show (10000 : Nat) = 9999 + 1 from rfl, run_equalIn_agg w 9999 159 _ _ hS hp]
 simp only [Program.fieldsOf, Tryz.underlying159]
 go_simp
 obtain ⟨a, b, c, d, e⟩ := s
 obtain ⟨a', b', c', d', e'⟩ := t
 simp only [PStep.mk.injEq]
 have key : ∀ x y : ByteArray, (x.toList = y.toList) = (x = y) := fun x y => propext ⟨fun h => str_eq_true (by simp [h]), fun h => by rw [h]⟩
 by_cases h1 : a = a' <;> by_cases h2 : b = b' <;> by_cases h3 : c = c' <;> by_cases h4 : d = d' <;> by_cases h5 : e = e' <;> simp [h1, h2, h3, h4, h5, key]
set_option maxRecDepth 100000 in
set_option maxHeartbeats 1000000 in
theorem Equal_Step_c {oa ob : Bool} {ea eb : TypeId} {xs ys : List PStep} {v u : Value} {F G : List Nat} (w : World) (h : (pSteps ea).rep oa w xs [v] F) (h' : (pSteps eb).rep ob w ys [u] G) (hx : xs.length ≤ 1048576) (hy : ys.length ≤ 1048576) :
 Calls Tryz.prog 96 #[v, u] w (GivesB (decide (xs = ys)) w) := by
 obtain ⟨A, c, rfl, hc1, hc2, hr⟩ := pSteps_open h
 obtain ⟨B, d, rfl, hd1, hd2, hs⟩ := pSteps_open h'
 clear h h'
 by_cases hl : xs.length = ys.length
 · have hne : ((xs.length : Int) != (ys.length : Int)) = false := by simp [hl]
   have HL := Lib.hid hl
   clear hl
   go_enter Tryz.func96, Tryz.ntmps96
   go_wp2_with fail
   go_loopw [13] (fun i wr => ∃ k : Nat, k ≤ xs.length ∧ i = .int .i64 k ∧ (∀ j (hj : j < xs.length) (hj' : j < ys.length), j < k → xs[j] = ys[j]) ∧ ∃ m, wr = w.drewN m) (fun i _ => xs.length - (intOf i).toNat)
   case atStart => exact ⟨0, Nat.zero_le _, rfl, fun _ _ _ h => by omega, 0, rfl⟩
   case round =>
    obtain ⟨k, hk, rfl, hall, m, rfl⟩ := hrel
    by_cases hlt : k < xs.length
    · have hlt' : k < ys.length := by have := HL.out; omega
      obtain ⟨b, off, rfl, hbb, _, h0, h1, h2, h3, h4, _⟩ := hr k hlt
      obtain ⟨b', off', rfl, hbb', _, g0, g1, g2, g3, g4, _⟩ := hs k hlt'
      have HA := Lib.hid hall
      clear hr hs hall
      have hm : Tryz.prog.eqGuardType Tryz.prog.depth 159 = false := by kernel_rfl
      by_cases hkk : xs[k] = ys[k]
      · have hq := fun w => step_neq xs[k] ys[k] w
        simp only [decide_eq_true hkk, Bool.not_true] at hq
        have HK := Lib.hid hkk
        clear hkk
        go_wp2_with fail
        go_quiet (fail)
        go_wp2_with fail
        go_roundw
        case rel =>
         refine ⟨k + 1, by omega, by go_num, fun j hj hj' hjk => ?_, _, by first | rfl | exact World.drewN_drewN _ _ _⟩
         by_cases e : j = k
         · subst e; exact HK.out
         · exact HA.out j hj hj' (by omega)
        case measure => simp [intOf]; omega
      · have hq := fun w => step_neq xs[k] ys[k] w
        simp only [decide_eq_false hkk, Bool.not_false] at hq
        have HK := Lib.hid hkk
        clear hkk
        go_wp2_with fail
        go_quiet (fail)
        go_wp2_with fail
        go_ret
        have hne : ¬ xs = ys := fun e => by subst e; exact HK.out rfl
        exact ⟨by simp [hne], _, by first | rfl | exact World.drewN_drewN _ _ _⟩
    · obtain rfl : k = xs.length := by omega
      have heq : xs = ys := List.ext_getElem HL.out (fun j h1 h2 => hall j h1 h2 h1)
      clear hall
      go_wp2_with fail
      go_ret
      exact ⟨by simp [heq], _, rfl⟩
 · have hne : ((xs.length : Int) != (ys.length : Int)) = true := by rw [bne_iff_ne]; omega
   have hxy : ¬ xs = ys := fun e => hl (by rw [e])
   have HL := Lib.hid hxy
   clear hl hxy
   go_enter Tryz.func96, Tryz.ntmps96
   go_wp2_with fail
   go_ret
   exact ⟨by simp [HL.out], 0, rfl⟩

set_option maxRecDepth 100000 in
set_option maxHeartbeats 1000000 in
theorem spec_l27SameSteps_c {oa ob : Bool} {ea eb : TypeId} {xs ys : List PStep} {v u : Value} {F G : List Nat} (w : World) (h : (pSteps ea).rep oa w xs [v] F) (h' : (pSteps eb).rep ob w ys [u] G) (hx : xs.length ≤ 1048576) (hy : ys.length ≤ 1048576) :
 Calls Tryz.prog 82 #[v, u] w (GivesB (decide (xs = ys)) w) := by
 obtain ⟨A, c, rfl, hc1, hc2, hr⟩ := pSteps_open h
 obtain ⟨B, d, rfl, hd1, hd2, hs⟩ := pSteps_open h'
 clear h h'
 by_cases hl : xs.length = ys.length
 · have hne : ((xs.length : Int) != (ys.length : Int)) = false := by simp [hl]
   have HL := Lib.hid hl
   clear hl
   go_enter Tryz.func82, Tryz.ntmps82
   go_wp2_with fail
   go_loopw [5] (fun i wr => ∃ k : Nat, k ≤ xs.length ∧ i = .int .i64 k ∧ (∀ j (hj : j < xs.length) (hj' : j < ys.length), j < k → xs[j] = ys[j]) ∧ ∃ m, wr = w.drewN m) (fun i _ => xs.length - (intOf i).toNat)
   case atStart => exact ⟨0, Nat.zero_le _, rfl, fun _ _ _ h => by omega, 0, rfl⟩
   case round =>
    obtain ⟨k, hk, rfl, hall, m, rfl⟩ := hrel
    by_cases hlt : k < xs.length
    · have hlt' : k < ys.length := by have := HL.out; omega
      obtain ⟨b, off, rfl, hbb, _, h0, h1, h2, h3, h4, _⟩ := hr k hlt
      obtain ⟨b', off', rfl, hbb', _, g0, g1, g2, g3, g4, _⟩ := hs k hlt'
      have HA := Lib.hid hall
      clear hr hs hall
      have hm : Tryz.prog.eqGuardType Tryz.prog.depth 159 = false := by kernel_rfl
      by_cases hkk : xs[k] = ys[k]
      · have hq := fun w => step_neq xs[k] ys[k] w
        simp only [decide_eq_true hkk, Bool.not_true] at hq
        have HK := Lib.hid hkk
        clear hkk
        go_wp2_with fail
        go_quiet (fail)
        go_wp2_with fail
        go_roundw
        case rel =>
         refine ⟨k + 1, by omega, by go_num, fun j hj hj' hjk => ?_, _, by first | rfl | exact World.drewN_drewN _ _ _⟩
         by_cases e : j = k
         · subst e; exact HK.out
         · exact HA.out j hj hj' (by omega)
        case measure => simp [intOf]; omega
      · have hq := fun w => step_neq xs[k] ys[k] w
        simp only [decide_eq_false hkk, Bool.not_false] at hq
        have HK := Lib.hid hkk
        clear hkk
        go_wp2_with fail
        go_quiet (fail)
        go_wp2_with fail
        go_ret
        have hne : ¬ xs = ys := fun e => by subst e; exact HK.out rfl
        exact ⟨by simp [hne], _, by first | rfl | exact World.drewN_drewN _ _ _⟩
    · obtain rfl : k = xs.length := by omega
      have heq : xs = ys := List.ext_getElem HL.out (fun j h1 h2 => hall j h1 h2 h1)
      clear hall
      go_wp2_with fail
      go_ret
      exact ⟨by simp [heq], _, rfl⟩
 · have hne : ((xs.length : Int) != (ys.length : Int)) = true := by rw [bne_iff_ne]; omega
   have hxy : ¬ xs = ys := fun e => hl (by rw [e])
   have HL := Lib.hid hxy
   clear hl hxy
   go_enter Tryz.func82, Tryz.ntmps82
   go_wp2_with fail
   go_ret
   exact ⟨by simp [HL.out], 0, rfl⟩


/-- A list in a world whose blocks are the same. -/
theorem ty_heap {α : Type} {T : Ty α} {o : Bool} {w w' : World} {a : α} {cs : List Value} {F : List Nat} (h : T.rep o w a cs F) (hw : w'.heap = w.heap) : T.rep o w' a cs F := T.kept h (fun b _ => by rw [hw])

set_option maxHeartbeats 1000000 in
theorem impl_SamePage1_c {oa ob : Bool} {ea eb : TypeId} {xs ys : PLine} {v u : Value} {F G : List Nat} (w : World) (h : (strs ea).rep oa w xs [v] F) (h' : (strs eb).rep ob w ys [u] G) (hx : xs.length ≤ 1048576) (hy : ys.length ≤ 1048576) :
 Calls Tryz.prog 95 #[.agg #[v], .agg #[u]] w fun e w' => e = .returned (.bool (decide (xs = ys))) ∧ Below w.heap.size w w' := by
 have HC := Lib.hid (fun w' (q : (strs ea).rep oa w' xs [v] F) (q' : (strs eb).rep ob w' ys [u] G) => Equal_Str_c w' q q' hx hy)
 go_enter Tryz.func95, Tryz.ntmps95
 go_wp2_with fail
 refine (HC.out _ ((h.alloc _).alloc _) ((h'.alloc _).alloc _)).mono ?_
 rintro e w1 ⟨rfl, m, rfl⟩
 go_wp2_with fail
 go_ret
 exact ⟨rfl, below_drewN (((Below.refl _ _).alloc (Nat.le_refl _) _).alloc (by simp) _) m⟩
set_option maxRecDepth 100000 in
set_option maxHeartbeats 1000000 in
theorem EqualFunc_c {oa ob : Bool} {ea eb : TypeId} {xs ys : List PLine} {v u : Value} {F G : List Nat} (w : World) (h : (pLines ea).rep oa w xs [v] F) (h' : (pLines eb).rep ob w ys [u] G) (hx : xs.length ≤ 1048576) (hy : ys.length ≤ 1048576) (hxe : ∀ l ∈ xs, l.length ≤ 1048576) (hye : ∀ l ∈ ys, l.length ≤ 1048576) :
 Calls Tryz.prog 94 #[v, u, .func (.func 95) #[] #[]] w fun e w' => e = .returned (.bool (decide (xs = ys))) ∧ Below w.heap.size w w' := by
 obtain ⟨A, c, rfl, hc1, hc2, hr⟩ := pLines_open h
 obtain ⟨B, d, rfl, hd1, hd2, hs⟩ := pLines_open h'
 clear h h'
 by_cases hl : xs.length = ys.length
 · have hne : ((xs.length : Int) != (ys.length : Int)) = false := by simp [hl]
   have HL := Lib.hid hl
   clear hl
   go_enter Tryz.func94, Tryz.ntmps94
   go_wp2_with fail
   go_loopw [17] (fun i wr => ∃ k : Nat, k ≤ xs.length ∧ i = .int .i64 k ∧ (∀ j (hj : j < xs.length) (hj' : j < ys.length), j < k → xs[j] = ys[j]) ∧ Below w.heap.size w wr) (fun i _ => xs.length - (intOf i).toNat)
   case atStart => exact ⟨0, Nat.zero_le _, rfl, fun _ _ _ h => by omega, Below.refl _ _⟩
   case round =>
    obtain ⟨k, hk, rfl, hall, hb⟩ := hrel
    have hbs := hb.size
    by_cases hlt : k < xs.length
    · have hlt' : k < ys.length := by have := HL.out; omega
      obtain ⟨b, off, v1, F1, rfl, hbb, _, R1, _, h0⟩ := hr k hlt
      obtain ⟨b', off', v2, F2, rfl, hbb', _, R2, _, g0⟩ := hs k hlt'
      rw [← hb.cell (p := ⟨b, _, none⟩) hbb] at h0
      rw [← hb.cell (p := ⟨b', _, none⟩) hbb'] at g0
      obtain ⟨X1, x1, rfl⟩ := slice_len R1
      obtain ⟨X2, x2, rfl⟩ := slice_len R2
      have Q1 := Lib.hid (R1.below hb)
      have Q2 := Lib.hid (R2.below hb)
      have L1 := hxe _ (List.getElem_mem hlt)
      have L2 := hye _ (List.getElem_mem hlt')
      have HA := Lib.hid hall
      have nb : b' < wr.heap.size := by omega
      have nb2 : ¬ b' = wr.heap.size := by omega
      have g1 : (k : Int) < (ys.length : Int) := by omega
      have g2 : (k : Int) < (xs.length : Int) := by omega
      clear hr hs hall R1 R2
      have C := fun (w' : World) (q1 : (strs 9).rep oa w' xs[k] [.slice X1 xs[k].length x1] F1) (q2 : (strs 9).rep ob w' ys[k] [.slice X2 ys[k].length x2] F2) => impl_SamePage1_c w' q1 q2 L1 L2
      by_cases hkk : xs[k] = ys[k]
      · simp only [decide_eq_true hkk] at C
        have HC := Lib.hid C
        have HK := Lib.hid hkk
        clear C hkk
        go_wp2_with fail
        refine (HC.out _ ((Q1.out.alloc _).alloc _) ((Q2.out.alloc _).alloc _)).mono ?_
        rintro e w1 ⟨rfl, hb1⟩
        go_wp2_with fail
        go_roundw
        case rel =>
         refine ⟨k + 1, by omega, by go_num, fun j hj hj' hjk => ?_, (((hb.alloc hbs _).alloc (by simp; omega) _).trans (hb1.mono (by simp; omega)))⟩
         by_cases e : j = k
         · subst e; exact HK.out
         · exact HA.out j hj hj' (by omega)
        case measure => simp [intOf]; omega
      · simp only [decide_eq_false hkk] at C
        have HC := Lib.hid C
        have HK := Lib.hid hkk
        clear C hkk
        go_wp2_with fail
        refine (HC.out _ ((Q1.out.alloc _).alloc _) ((Q2.out.alloc _).alloc _)).mono ?_
        rintro e w1 ⟨rfl, hb1⟩
        go_wp2_with fail
        go_ret
        have hne : ¬ xs = ys := fun e => by subst e; exact HK.out rfl
        exact ⟨by simp [hne], (((hb.alloc hbs _).alloc (by simp; omega) _).trans (hb1.mono (by simp; omega)))⟩
    · obtain rfl : k = xs.length := by omega
      have heq : xs = ys := List.ext_getElem HL.out (fun j h1 h2 => hall j h1 h2 h1)
      clear hall
      go_wp2_with fail
      go_ret
      exact ⟨by simp [heq], hb⟩
 · have hne : ((xs.length : Int) != (ys.length : Int)) = true := by rw [bne_iff_ne]; omega
   have hxy : ¬ xs = ys := fun e => hl (by rw [e])
   have HL := Lib.hid hxy
   clear hl hxy
   go_enter Tryz.func94, Tryz.ntmps94
   go_wp2_with fail
   go_ret
   exact ⟨by simp [HL.out], Below.refl _ _⟩
theorem page_eq (p q : PPage) : decide (p = q) = (decide (p.lines = q.lines) && (decide (p.done = q.done) && decide (p.undone = q.undone))) := by
 rw [← Bool.decide_and, ← Bool.decide_and]; apply decide_eq_decide.2; cases p; cases q; simp
set_option maxHeartbeats 1000000 in
theorem impl_SamePage_c {el es el' es' : TypeId} {o o' : Bool} {p q : PPage} {v u : Value} {F G : List Nat} (w : World) (h : PageIs el es o w p v F) (h' : PageIs el' es' o' w q u G) (hp : PSmall p) (hq : PSmall q) :
 Calls Tryz.prog 34 #[v, u] w fun e w' => e = .returned (.bool (decide (p = q))) ∧ Below w.heap.size w w' := by
 obtain ⟨a, b, c, F1, F2, F3, rfl, rfl, h1, h2, h3⟩ := h
 obtain ⟨a', b', c', F1', F2', F3', rfl, rfl, g1, g2, g3⟩ := h'
 rw [page_eq]
 have C1 := fun w' (k1 : (pLines el).rep o w' p.lines [a] F1) (k2 : (pLines el').rep o' w' q.lines [a'] F1') => EqualFunc_c w' k1 k2 hp.l hq.l hp.w hq.w
 have C2 := fun w' (k1 : (pSteps es).rep o w' p.done [b] F2) (k2 : (pSteps es').rep o' w' q.done [b'] F2') => Equal_Step_c w' k1 k2 hp.d hq.d
 have C3 := fun w' (k1 : (pSteps es).rep o w' p.undone [c] F3) (k2 : (pSteps es').rep o' w' q.undone [c'] F3') => Equal_Step_c w' k1 k2 hp.u hq.u
 obtain ⟨A1, k1, rfl⟩ := slice_len h1
 obtain ⟨A2, k2, rfl⟩ := slice_len h2
 obtain ⟨A3, k3, rfl⟩ := slice_len h3
 obtain ⟨B1, l1, rfl⟩ := slice_len g1
 obtain ⟨B2, l2, rfl⟩ := slice_len g2
 obtain ⟨B3, l3, rfl⟩ := slice_len g3
 generalize decide (p.lines = q.lines) = d1 at *
 generalize decide (p.done = q.done) = d2 at *
 generalize decide (p.undone = q.undone) = d3 at *
 have H1 := Lib.hid C1
 have H2 := Lib.hid C2
 have H3 := Lib.hid C3
 clear C1 C2 C3
 have al : ∀ x y, Below w.heap.size w ((w.alloc x).alloc y) := fun x y => ((Below.refl _ _).alloc (Nat.le_refl _) x).alloc (by simp) y
 cases d1
 · go_enter Tryz.func34, Tryz.ntmps34
   go_wp2_with fail
   refine (H1.out _ ((h1.alloc _).alloc _) ((g1.alloc _).alloc _)).mono ?_
   rintro e w1 ⟨rfl, hb1⟩
   go_wp2_with fail
   go_ret
   exact ⟨rfl, (al _ _).trans (hb1.mono (by simp; omega))⟩
 · cases d2
   · go_enter Tryz.func34, Tryz.ntmps34
     go_wp2_with fail
     refine (H1.out _ ((h1.alloc _).alloc _) ((g1.alloc _).alloc _)).mono ?_
     rintro e w1 ⟨rfl, hb1⟩
     have r2 := ((h2.alloc _).alloc _).below hb1
     have s2 := ((g2.alloc _).alloc _).below hb1
     have r3 := ((h3.alloc _).alloc _).below hb1
     have s3 := ((g3.alloc _).alloc _).below hb1
     have bb1 := (al _ _).trans (hb1.mono (by simp; omega))
     obtain ⟨hcc, hff⟩ := bcell hb1
     go_wp2_with fail
     refine (H2.out _ r2 s2).mono ?_
     rintro e w2 ⟨rfl, m, rfl⟩
     go_wp2_with fail
     go_ret
     exact ⟨rfl, below_drewN bb1 m⟩
   · go_enter Tryz.func34, Tryz.ntmps34
     go_wp2_with fail
     refine (H1.out _ ((h1.alloc _).alloc _) ((g1.alloc _).alloc _)).mono ?_
     rintro e w1 ⟨rfl, hb1⟩
     have r2 := ((h2.alloc _).alloc _).below hb1
     have s2 := ((g2.alloc _).alloc _).below hb1
     have r3 := ((h3.alloc _).alloc _).below hb1
     have s3 := ((g3.alloc _).alloc _).below hb1
     have bb1 := (al _ _).trans (hb1.mono (by simp; omega))
     obtain ⟨hcc, hff⟩ := bcell hb1
     go_wp2_with fail
     refine (H2.out _ r2 s2).mono ?_
     rintro e w2 ⟨rfl, m, rfl⟩
     go_wp2_with fail
     refine (H3.out (w1.drewN m) (ty_heap r3 rfl) (ty_heap s3 rfl)).mono ?_
     rintro e w3 ⟨rfl, m', rfl⟩
     go_wp2_with fail
     go_ret
     exact ⟨by simp, below_drewN bb1 _⟩
end Go.Proofs.YtkfadfddhbpngaaGreat
