/- What the laws of trees draw. Conditions: none. -/
import Derived.Test.YtmopioaojdlnkaaPuHt
import Derived.Test.YtmopioaojdlnkaaPtKt
import Derived.Laws.StructEq
import Derived.Test.YtmopioaojdlnkaaInt
import Derived.Test.YtmopioaojdlnkaaPsMt
import Derived.Test.YtmopioaojdlnkaaChk5t
import Derived.Test.YtmopioaojdlnkaaPrEt
import Derived.Test.YtmopioaojdlnkaaPrGt
import Derived.Test.YtmopioaojdlnkaaRdEt
import Derived.Test.YtmopioaojdlnkaaTkt
namespace Go.Proofs.Ytmopioaojdlnkaa
open Go Go.RowKit
def DrawnTree (w : World) (en : Ending) (w' : World) : Prop :=
 ∃ (xs : List PSymbol) (ns : List PNode) (vl vt : Value) (G H : List Nat), en = .returned (.tuple #[vl, .agg #[vt]]) ∧ (pSymbols 50).rep true w' xs [vl] G ∧ (pNodes 76).rep true w' ns [vt] H ∧ Fresh w.heap.size G ∧ Fresh w.heap.size H ∧ xs.length ≤ 12 ∧ (∀ c ∈ xs, SymLe 6000 c) ∧ ns.length ≤ 16 ∧ Below w.heap.size w w'
theorem spec_DrawNodeBoxes_c {e : TypeId} {code : List UInt8} {v : Value} {F : List Nat} (w : World) (h : (byte.slice e).rep false w code [v] F) (hc : code.length ≤ 4096) :
 Calls Try.prog 16 #[v] w (DrawnTree w) := by
 have bc : Below w.heap.size w (w.alloc (.cells #[.slice none 0 0] 28)) := (Below.refl _ _).alloc (Nat.le_refl _) _
 have H0 := Lib.hid (l00From_c (w.alloc (.cells #[.slice none 0 0] 28)) (Ty.kept _ h (fun b hb => Below.heap_alloc w _ b (Ty.lt _ h b hb))) hc)
 have RT := Row.new w 28 #[.slice none 0 0]
 obtain ⟨A, c, rfl⟩ := slice_len h
 clear h
 go_enter Try.func16, Try.ntmps16
 go_wp2_with fail
 refine H0.out.mono ?_
 rintro e w1 ⟨rfl, S1, b1⟩
 have lt1 := S1.lt
 have hsA : (w.alloc (.cells #[.slice none 0 0] 28)).heap.size = w.heap.size + 1 := by simp only [World.alloc, Array.size_push]
 rw [hsA] at S1 b1 lt1 ⊢
 replace RT := RT.below b1 (by omega)
 have b01 : Below w.heap.size w w1 := bc.trans (b1.mono (by omega))
 have H1 := Lib.hid (spec_l21Bent_c w1 S1 (by omega) (by omega))
 clear hsA bc b1
 go_wp2_with fail
 refine H1.out.mono ?_
 rintro e w2 ⟨xs, ns, vl, vt, G, H, rfl, rep, rept, fr, frt, hl, sm, hn, S2, O2⟩
 obtain ⟨A2, c2, rfl⟩ := slice_len rept
 have REP := Lib.hid rep
 have REPT := Lib.hid rept
 have SM := Lib.hid sm
 have FR := Lib.hid fr
 have FRT := Lib.hid frt
 replace RT := row_o RT O2 (by omega)
 have nG : w.heap.size ∉ G := fun hin => by have := fr.2 _ hin; omega
 have nH : w.heap.size ∉ H := fun hin => by have := frt.2 _ hin; omega
 have r0 := RT.c0
 have rF := RT.frozen
 clear rep rept sm fr frt H0 H1
 go_wp2_with fail
 have RR := RT.set 0 (.slice A2 ns.length c2)
 have d0 := RR.c0
 refine bodyPost_ret (v := .tuple #[vl, .agg #[.slice A2 ns.length c2]]) (by simp [results, Try.results16, go_sem, d0]) rfl ⟨xs, ns, vl, _, G, H, rfl, REP.out.setCell (p := ⟨w.heap.size, 0, none⟩) nG _, REPT.out.setCell (p := ⟨w.heap.size, 0, none⟩) nH _, ⟨FR.out.1, fun x hx => by have := FR.out.2 x hx; omega⟩, ⟨FRT.out.1, fun x hx => by have := FRT.out.2 x hx; omega⟩, hl, SM.out, hn, ?_⟩
 exact (b01.trans (O2.below (by omega) (by simp))).setCell (Nat.le_refl _) _
def GivesBn (b : Bool) (w : World) (en : Ending) (w' : World) : Prop := en = .returned (.bool b) ∧ ∃ n, w' = w.drewN n
def GivesBb (b : Bool) (w : World) (en : Ending) (w' : World) : Prop := en = .returned (.bool b) ∧ Below w.heap.size w w'
theorem Node_neq (s t : PNode) (w : World) : (binOp .neq 76 (.agg #[.int .i64 s.kind, .int .i64 s.a, .int .i64 s.b, .int .i64 s.sign]) (.agg #[.int .i64 t.kind, .int .i64 t.a, .int .i64 t.b, .int .i64 t.sign])).run Try.prog w = .ok (.bool (!decide (s = t))) w := by
 have hS : Try.prog.underlying 76 = some (.struct (Try.prog.fieldsOf 76)) := by kernel_rfl
 have hp : Try.prog.stoodInHeld 76 = false := by kernel_rfl
 rw [run_neq_struct, show (10000 : Nat) = 9999 + 1 from rfl, run_equalIn_agg w 9999 76 _ _ hS hp]
 simp only [Program.fieldsOf, Try.underlying76]
 go_simp
 obtain ⟨x0, x1, x2, x3⟩ := s
 obtain ⟨y0, y1, y2, y3⟩ := t
 simp only [PNode.mk.injEq]
 by_cases h0 : x0 = y0 <;> by_cases h1 : x1 = y1 <;> by_cases h2 : x2 = y2 <;> by_cases h3 : x3 = y3 <;> simp [h0, h1, h2, h3]
set_option maxRecDepth 100000 in
set_option maxHeartbeats 1000000 in
theorem Equal_Node_c {oa ob : Bool} {ea eb : TypeId} {xs ys : List PNode} {v u : Value} {F G : List Nat} (w : World) (h : (pNodes ea).rep oa w xs [v] F) (h' : (pNodes eb).rep ob w ys [u] G) (hx : xs.length ≤ 1048576) (hy : ys.length ≤ 1048576) :
 Calls Try.prog 41 #[v, u] w (GivesBn (decide (xs = ys)) w) := by
 obtain ⟨A, c, rfl, hc1, hc2, hr⟩ := pNodes_open h
 obtain ⟨B, d, rfl, hd1, hd2, hs⟩ := pNodes_open h'
 clear h h'
 by_cases hl : xs.length = ys.length
 · have hne : ((xs.length : Int) != (ys.length : Int)) = false := by simp [hl]
   have HL := Lib.hid hl
   clear hl
   go_enter Try.func41, Try.ntmps41
   go_wp2_with fail
   go_loopw [13] (fun i wr => ∃ k : Nat, k ≤ xs.length ∧ i = .int .i64 k ∧ (∀ j (hj : j < xs.length) (hj' : j < ys.length), j < k → xs[j] = ys[j]) ∧ ∃ m, wr = w.drewN m) (fun i _ => xs.length - (intOf i).toNat)
   case atStart => exact ⟨0, Nat.zero_le _, rfl, fun _ _ _ h => by omega, 0, rfl⟩
   case round =>
    obtain ⟨k, hk, rfl, hall, m, rfl⟩ := hrel
    by_cases hlt : k < xs.length
    · have hlt' : k < ys.length := by have := HL.out; omega
      obtain ⟨b, off, rfl, hbb, _, h0, h1, h2, h3, _⟩ := hr k hlt
      obtain ⟨b', off', rfl, hbb', _, g0, g1, g2, g3, _⟩ := hs k hlt'
      have HA := Lib.hid hall
      clear hr hs hall
      have hm : Try.prog.eqGuardType Try.prog.depth 76 = false := by kernel_rfl
      by_cases hkk : xs[k] = ys[k]
      · have hq := fun w => Node_neq xs[k] ys[k] w
        simp only [decide_eq_true hkk, Bool.not_true] at hq
        have HK := Lib.hid hkk
        clear hkk
        go_wp2_with fail
        go_quiet (fail)
        go_wp2_with fail
        go_roundw
        case rel =>
         refine ⟨k + 1, by omega, by go_num, fun j hj hj' hjk => ?_, _, by first | rfl | exact World.drewN_drewN _ _ _⟩
         by_cases e : j = k
         · subst e; exact HK.out
         · exact HA.out j hj hj' (by omega)
        case measure => simp [intOf]; omega
      · have hq := fun w => Node_neq xs[k] ys[k] w
        simp only [decide_eq_false hkk, Bool.not_false] at hq
        have HK := Lib.hid hkk
        clear hkk
        go_wp2_with fail
        go_quiet (fail)
        go_wp2_with fail
        go_ret
        have hne : ¬ xs = ys := fun e => by subst e; exact HK.out rfl
        exact ⟨by simp [hne], _, by first | rfl | exact World.drewN_drewN _ _ _⟩
    · obtain rfl : k = xs.length := by omega
      have heq : xs = ys := List.ext_getElem HL.out (fun j h1 h2 => hall j h1 h2 h1)
      clear hall
      go_wp2_with fail
      go_ret
      exact ⟨by simp [heq], _, rfl⟩
 · have hne : ((xs.length : Int) != (ys.length : Int)) = true := by rw [bne_iff_ne]; omega
   have hxy : ¬ xs = ys := fun e => hl (by rw [e])
   have HL := Lib.hid hxy
   clear hl hxy
   go_enter Try.func41, Try.ntmps41
   go_wp2_with fail
   go_ret
   exact ⟨by simp [HL.out], 0, rfl⟩
theorem impl_SameTree_c {oa ob : Bool} {ea eb : TypeId} {xs ys : List PNode} {v u : Value} {F G : List Nat} (w : World) (h : (pNodes ea).rep oa w xs [v] F) (h' : (pNodes eb).rep ob w ys [u] G) (hx : xs.length ≤ 1000) (hy : ys.length ≤ 1000) :
 Calls Try.prog 25 #[.agg #[v], .agg #[u]] w (GivesBb (decide (xs = ys)) w) := by
 have hlA := (pNodes ea).lt h
 have hlB := (pNodes eb).lt h'
 have H0 := Lib.hid (Equal_Node_c ((w.alloc (.cells #[v] 28)).alloc (.cells #[u] 28)) ((h.alloc _).alloc _) ((h'.alloc _).alloc _) (by omega) (by omega))
 have R2 := (Row.new w 28 #[v]).alloc (.cells #[u] 28)
 have R3 := Row.new (w.alloc (.cells #[v] 28)) 28 #[u]
 have hsA : (w.alloc (.cells #[v] 28)).heap.size = w.heap.size + 1 := by simp only [World.alloc, Array.size_push]
 have b0 : Below w.heap.size w ((w.alloc (.cells #[v] 28)).alloc (.cells #[u] 28)) := ((Below.refl _ _).alloc (Nat.le_refl _) _).alloc (by simp) _
 rw [hsA] at R3
 have r2 := R2.c0
 have r3 := R3.c0
 obtain ⟨A, c, rfl⟩ := slice_len h
 obtain ⟨B, d, rfl⟩ := slice_len h'
 have hs2 : w.heap.size + 2 ≤ ((w.alloc (.cells #[.slice A xs.length c] 28)).alloc (.cells #[.slice B ys.length d] 28)).heap.size := by simp
 clear h h' hlA hlB
 go_enter Try.func25, Try.ntmps25
 go_wp2_with fail
 refine H0.out.mono ?_
 rintro e w1 ⟨rfl, n1, rfl⟩
 go_wp2_with fail
 go_ret
 exact ⟨rfl, below_drewN b0 n1⟩
set_option maxRecDepth 100000 in
set_option maxHeartbeats 1000000 in
theorem spec_SameTree_c {oa ob : Bool} {ea eb : TypeId} {xs ys : List PNode} {v u : Value} {F G : List Nat} (w : World) (h : (pNodes ea).rep oa w xs [v] F) (h' : (pNodes eb).rep ob w ys [u] G) (hx : xs.length ≤ 1000) (hy : ys.length ≤ 1000) :
 Calls Try.prog 11 #[.agg #[v], .agg #[u]] w (GivesBb (decide (xs = ys)) w) := by
 have h2 := (h.alloc (.cells #[v] 28)).alloc (.cells #[u] 28)
 have h2' := (h'.alloc (.cells #[v] 28)).alloc (.cells #[u] 28)
 have R2 := (Row.new w 28 #[v]).alloc (.cells #[u] 28)
 have R3 := Row.new (w.alloc (.cells #[v] 28)) 28 #[u]
 have hsA : (w.alloc (.cells #[v] 28)).heap.size = w.heap.size + 1 := by simp only [World.alloc, Array.size_push]
 have b0 : Below w.heap.size w ((w.alloc (.cells #[v] 28)).alloc (.cells #[u] 28)) := ((Below.refl _ _).alloc (Nat.le_refl _) _).alloc (by simp) _
 rw [hsA] at R3
 have r2 := R2.c0
 have r3 := R3.c0
 obtain ⟨A, c, rfl⟩ := slice_len h
 obtain ⟨B, d, rfl⟩ := slice_len h'
 obtain ⟨A1, c1, e1, hc1, hc2, hr⟩ := pNodes_open h2
 obtain ⟨B1, d1, e2, hd1, hd2, hs⟩ := pNodes_open h2'
 rw [Value.slice.injEq] at e1 e2
 obtain ⟨rfl, -, rfl⟩ := e1
 obtain ⟨rfl, -, rfl⟩ := e2
 clear h h' h2 h2' R2 R3 hsA
 go_enter Try.func11, Try.ntmps11
 go_upto_region 1 with fail
 generalize ((w.alloc (.cells #[.slice A xs.length c] 28)).alloc (.cells #[.slice B ys.length d] 28)) = W0 at r2 r3 b0 hr hs ⊢
 by_cases hl : xs.length = ys.length
 · have hne : ((xs.length : Int) != (ys.length : Int)) = false := by simp [hl]
   have HL := Lib.hid hl
   clear hl
   go_wp2_with fail
   go_loopw [5] (fun i wr => ∃ k : Nat, k ≤ xs.length ∧ i = .int .i64 k ∧ (∀ j (hj : j < xs.length) (hj' : j < ys.length), j < k → xs[j] = ys[j]) ∧ ∃ m, wr = W0.drewN m) (fun i _ => xs.length - (intOf i).toNat)
   case atStart => exact ⟨0, Nat.zero_le _, rfl, fun _ _ _ h => by omega, 0, rfl⟩
   case round =>
    obtain ⟨k, hk, rfl, hall, m, rfl⟩ := hrel
    by_cases hlt : k < xs.length
    · have hlt' : k < ys.length := by have := HL.out; omega
      obtain ⟨b, off, rfl, hbb, _, h0, h1, h2, h3, _⟩ := hr k hlt
      obtain ⟨b', off', rfl, hbb', _, g0, g1, g2, g3, _⟩ := hs k hlt'
      have HA := Lib.hid hall
      clear hr hs hall
      have hm : Try.prog.eqGuardType Try.prog.depth 76 = false := by kernel_rfl
      by_cases hkk : xs[k] = ys[k]
      · have hq := fun w => Node_neq xs[k] ys[k] w
        simp only [decide_eq_true hkk, Bool.not_true] at hq
        have HK := Lib.hid hkk
        clear hkk
        go_wp2_with fail
        go_quiet (fail)
        go_wp2_with fail
        go_roundw
        case rel =>
         refine ⟨k + 1, by omega, by go_num, fun j hj hj' hjk => ?_, _, by first | rfl | exact World.drewN_drewN _ _ _⟩
         by_cases e : j = k
         · subst e; exact HK.out
         · exact HA.out j hj hj' (by omega)
        case measure => simp [intOf]; omega
      · have hq := fun w => Node_neq xs[k] ys[k] w
        simp only [decide_eq_false hkk, Bool.not_false] at hq
        have HK := Lib.hid hkk
        clear hkk
        go_wp2_with fail
        go_quiet (fail)
        go_wp2_with fail
        go_ret
        have hne : ¬ xs = ys := fun e => by subst e; exact HK.out rfl
        exact ⟨by simp [hne], below_drewN (below_drewN b0 _) _⟩
    · obtain rfl : k = xs.length := by omega
      have heq : xs = ys := List.ext_getElem HL.out (fun j h1 h2 => hall j h1 h2 h1)
      clear hall
      go_wp2_with fail
      go_ret
      exact ⟨by simp [heq], below_drewN b0 _⟩
 · have hne : ((xs.length : Int) != (ys.length : Int)) = true := by rw [bne_iff_ne]; omega
   have hxy : ¬ xs = ys := fun e => hl (by rw [e])
   have HL := Lib.hid hxy
   clear hl hxy
   go_wp2_with fail
   go_ret
   exact ⟨by simp [HL.out], b0⟩
theorem boxOk_join {a b : PBox} (h : boxOkB a = true) (h' : boxOkB b = true) : boxOkB (joinB a b) = true := by
 rw [boxOkB_iff] at *
 unfold joinB
 dsimp only
 omega
set_option maxHeartbeats 1000000 in
theorem spec_JoinBoxes_c (a b : PBox) (w : World) (ha : boxOkB a = true) (hb : boxOkB b = true) :
 Calls Try.prog 26 #[.agg #[.int .i64 a.x1, .int .i64 a.y1, .int .i64 a.x2, .int .i64 a.y2], .agg #[.int .i64 b.x1, .int .i64 b.y1, .int .i64 b.x2, .int .i64 b.y2]] w fun e w' => e = .returned (.tuple #[boxV (joinB a b), .int .i64 0]) ∧ Below w.heap.size w w' := by
 have RA := ((Row.new w 48 #[.int .i64 a.x1, .int .i64 a.y1, .int .i64 a.x2, .int .i64 a.y2]).alloc (.cells #[.int .i64 b.x1, .int .i64 b.y1, .int .i64 b.x2, .int .i64 b.y2] 48)).alloc (.cells #[.int .i64 0, .int .i64 0, .int .i64 0, .int .i64 0] 48)
 have RB := (Row.new (w.alloc (.cells #[.int .i64 a.x1, .int .i64 a.y1, .int .i64 a.x2, .int .i64 a.y2] 48)) 48 #[.int .i64 b.x1, .int .i64 b.y1, .int .i64 b.x2, .int .i64 b.y2]).alloc (.cells #[.int .i64 0, .int .i64 0, .int .i64 0, .int .i64 0] 48)
 have RZ := Row.new ((w.alloc (.cells #[.int .i64 a.x1, .int .i64 a.y1, .int .i64 a.x2, .int .i64 a.y2] 48)).alloc (.cells #[.int .i64 b.x1, .int .i64 b.y1, .int .i64 b.x2, .int .i64 b.y2] 48)) 48 #[.int .i64 0, .int .i64 0, .int .i64 0, .int .i64 0]
 have hsA : (w.alloc (.cells #[.int .i64 a.x1, .int .i64 a.y1, .int .i64 a.x2, .int .i64 a.y2] 48)).heap.size = w.heap.size + 1 := by simp only [World.alloc, Array.size_push]
 have hsB : ((w.alloc (.cells #[.int .i64 a.x1, .int .i64 a.y1, .int .i64 a.x2, .int .i64 a.y2] 48)).alloc (.cells #[.int .i64 b.x1, .int .i64 b.y1, .int .i64 b.x2, .int .i64 b.y2] 48)).heap.size = w.heap.size + 1 + 1 := by simp only [World.alloc, Array.size_push]
 have hbw : Below w.heap.size w (((w.alloc (.cells #[.int .i64 a.x1, .int .i64 a.y1, .int .i64 a.x2, .int .i64 a.y2] 48)).alloc (.cells #[.int .i64 b.x1, .int .i64 b.y1, .int .i64 b.x2, .int .i64 b.y2] 48)).alloc (.cells #[.int .i64 0, .int .i64 0, .int .i64 0, .int .i64 0] 48)) := (((Below.refl _ _).alloc (Nat.le_refl _) _).alloc (by omega) _).alloc (by omega) _
 rw [hsA] at RB
 rw [hsB] at RZ
 clear hsA hsB
 go_enter Try.func26, Try.ntmps26
 go_upto_region 1 with fail
 generalize ((w.alloc (.cells #[.int .i64 a.x1, .int .i64 a.y1, .int .i64 a.x2, .int .i64 a.y2] 48)).alloc (.cells #[.int .i64 b.x1, .int .i64 b.y1, .int .i64 b.x2, .int .i64 b.y2] 48)).alloc (.cells #[.int .i64 0, .int .i64 0, .int .i64 0, .int .i64 0] 48) = w3 at RA RB RZ hbw ⊢
 have HA := spec_l02Box_c a w3
 rw [ha] at HA
 replace HA := Lib.hid HA
 have a0 := RA.c0
 have a1 := RA.c1
 have a2 := RA.c2
 have a3 := RA.c3
 have b0 := RB.c0
 have b1 := RB.c1
 have b2 := RB.c2
 have b3 := RB.c3
 have z0 := RZ.c0
 have z1 := RZ.c1
 have z2 := RZ.c2
 have z3 := RZ.c3
 go_wp2_with fail
 refine HA.out.mono ?_
 rintro e w4 ⟨rfl, hw4⟩
 replace RA := RA.alloc (.cells #[.int .i64 a.x1, .int .i64 a.y1, .int .i64 a.x2, .int .i64 a.y2] 48)
 rw [← hw4] at RA
 replace RB := RB.alloc (.cells #[.int .i64 a.x1, .int .i64 a.y1, .int .i64 a.x2, .int .i64 a.y2] 48)
 rw [← hw4] at RB
 replace RZ := RZ.alloc (.cells #[.int .i64 a.x1, .int .i64 a.y1, .int .i64 a.x2, .int .i64 a.y2] 48)
 rw [← hw4] at RZ
 have bs0 := hbw.size
 replace hbw : Below w.heap.size w w4 := by rw [hw4]; exact hbw.alloc bs0 _
 clear a0 a1 a2 a3 b0 b1 b2 b3 z0 z1 z2 z3
 clear hw4 HA bs0
 have HB := spec_l02Box_c b w4
 rw [hb] at HB
 replace HB := Lib.hid HB
 have a0 := RA.c0
 have a1 := RA.c1
 have a2 := RA.c2
 have a3 := RA.c3
 have b0 := RB.c0
 have b1 := RB.c1
 have b2 := RB.c2
 have b3 := RB.c3
 have z0 := RZ.c0
 have z1 := RZ.c1
 have z2 := RZ.c2
 have z3 := RZ.c3
 go_wp2_with fail
 refine HB.out.mono ?_
 rintro e w5 ⟨rfl, hw5⟩
 replace RA := RA.alloc (.cells #[.int .i64 b.x1, .int .i64 b.y1, .int .i64 b.x2, .int .i64 b.y2] 48)
 rw [← hw5] at RA
 replace RB := RB.alloc (.cells #[.int .i64 b.x1, .int .i64 b.y1, .int .i64 b.x2, .int .i64 b.y2] 48)
 rw [← hw5] at RB
 replace RZ := RZ.alloc (.cells #[.int .i64 b.x1, .int .i64 b.y1, .int .i64 b.x2, .int .i64 b.y2] 48)
 rw [← hw5] at RZ
 have bs0 := hbw.size
 replace hbw : Below w.heap.size w w5 := by rw [hw5]; exact hbw.alloc bs0 _
 clear a0 a1 a2 a3 b0 b1 b2 b3 z0 z1 z2 z3
 clear hw5 HB bs0
 have HJ := Lib.hid (spec_l02Join_c a b w5)
 have a0 := RA.c0
 have a1 := RA.c1
 have a2 := RA.c2
 have a3 := RA.c3
 have b0 := RB.c0
 have b1 := RB.c1
 have b2 := RB.c2
 have b3 := RB.c3
 have z0 := RZ.c0
 have z1 := RZ.c1
 have z2 := RZ.c2
 have z3 := RZ.c3
 go_wp2_with fail
 refine HJ.out.mono ?_
 rintro e w6 ⟨rfl, b6⟩
 simp only [boxV]
 replace RA := RA.later b6
 replace RB := RB.later b6
 replace RZ := RZ.later b6
 replace hbw := hbw.trans (b6.mono hbw.size)
 clear a0 a1 a2 a3 b0 b1 b2 b3 z0 z1 z2 z3
 clear HJ
 have a0 := RA.c0
 have a1 := RA.c1
 have a2 := RA.c2
 have a3 := RA.c3
 have b0 := RB.c0
 have b1 := RB.c1
 have b2 := RB.c2
 have b3 := RB.c3
 have z0 := RZ.c0
 have z1 := RZ.c1
 have z2 := RZ.c2
 have z3 := RZ.c3
 have zF := RZ.frozen
 go_wp2_with fail
 have RR := four_cells RZ rfl (.int .i64 (joinB a b).x1) (.int .i64 (joinB a b).y1) (.int .i64 (joinB a b).x2) (.int .i64 (joinB a b).y2)
 have d0 := RR.c0
 have d1 := RR.c1
 have d2 := RR.c2
 have d3 := RR.c3
 refine bodyPost_ret (v := .tuple #[.agg #[.int .i64 (joinB a b).x1, .int .i64 (joinB a b).y1, .int .i64 (joinB a b).x2, .int .i64 (joinB a b).y2], .int .i64 0]) (by simp [results, Try.results26, go_sem, d0, d1, d2, d3]) rfl ⟨rfl, ?_⟩
 exact (((hbw.setCell (p := ⟨w.heap.size + 1 + 1, 0, none⟩) (by show w.heap.size ≤ w.heap.size + 1 + 1; omega) _).setCell (p := ⟨w.heap.size + 1 + 1, 1, none⟩) (by show w.heap.size ≤ w.heap.size + 1 + 1; omega) _).setCell (p := ⟨w.heap.size + 1 + 1, 2, none⟩) (by show w.heap.size ≤ w.heap.size + 1 + 1; omega) _).setCell (p := ⟨w.heap.size + 1 + 1, 3, none⟩) (by show w.heap.size ≤ w.heap.size + 1 + 1; omega) _
theorem symsOk_rev (xs : List PSymbol) : symsOkB xs.reverse = symsOkB xs := by unfold symsOkB; rw [List.all_reverse, List.length_reverse]
theorem turned_told (xs : List PSymbol) : parseC xs.reverse = parseC xs ∧ parseL xs.reverse = parseL xs ∧ countC xs.reverse = countC xs ∧ countN xs.reverse = countN xs := by
 obtain ⟨h1, h2⟩ := turned_same xs
 have hC : parseC xs.reverse = parseC xs := by unfold parseC; rw [symsOk_rev, h1]
 refine ⟨hC, ?_, by unfold countC; rw [symsOk_rev], by unfold countN; rw [symsOk_rev, h1]⟩
 unfold parseL
 rw [hC]
 by_cases h : parseC xs = 0
 · rw [if_pos h, if_pos h]
   refine h2 fun hm => ?_
   unfold parseC at h
   by_cases hs : symsOkB xs = true
   · rw [if_pos hs, if_pos hm] at h; exact absurd h (by decide)
   · rw [if_neg hs] at h; exact absurd h (by decide)
 · rw [if_neg h, if_neg h]
def allK (xs : List PSymbol) (k : Nat) : PBox := joinN ((List.range k).map (sbox xs))
theorem allK_one (xs : List PSymbol) : allK xs 1 = sbox xs 0 := rfl
theorem allK_succ (xs : List PSymbol) {k : Nat} (hk : 1 ≤ k) : allK xs (k + 1) = joinB (allK xs k) (sbox xs k) := by
 obtain ⟨m, rfl⟩ : ∃ m, k = m + 1 := ⟨k - 1, by omega⟩
 unfold allK
 rw [List.range_succ (n := m + 1), List.map_append, List.range_succ_eq_map, List.map_cons]
 simp only [List.cons_append, joinN, List.foldl_append, List.map_cons, List.map_nil, List.foldl_cons, List.foldl_nil]
theorem sbox_get {xs : List PSymbol} {k : Nat} (hk : k < xs.length) : sbox xs k = boxOf xs[k] := by
 unfold sbox symAt; simp [List.getD_eq_getElem?_getD, List.getElem?_eq_getElem hk]
theorem syms_box {xs : List PSymbol} (h : symsOkB xs = true) {k : Nat} (hk : k < xs.length) : boxOkB (sbox xs k) = true := by
 unfold symsOkB at h
 rw [Bool.and_eq_true, List.all_eq_true] at h
 have := h.1 _ (List.getElem_mem hk)
 rw [sbox_get hk]
 unfold symOkB at this
 simp only [Bool.and_eq_true] at this
 first | exact this.2 | exact this.1 | exact this.2.1 | exact this.2.2
theorem allK_ok {xs : List PSymbol} (h : symsOkB xs = true) : ∀ k, 1 ≤ k → k ≤ xs.length → boxOkB (allK xs k) = true
 | 0, h1, _ => by omega
 | 1, _, h2 => by rw [allK_one]; exact syms_box h h2
 | k + 2, _, h2 => by rw [allK_succ xs (by omega)]; exact boxOk_join (allK_ok h (k + 1) (by omega) (by omega)) (syms_box h (by omega))
theorem tree_facts {xs : List PSymbol} {ns : List PNode} (h : askF xs ns = 0) :
 symsOkB xs = true ∧ 1 ≤ ns.length ∧ (boxesR xs ns).length = ns.length ∧ (boxesR xs ns)[ns.length - 1]? = some (allK xs xs.length) ∧ (leavesR xs ns).length = xs.length ∧ 1 ≤ depthR xs ns ∧ depthR xs ns ≤ (xs.length : Int) ∧ 1 ≤ xs.length := by
 obtain ⟨h1, h2⟩ := ask_zero h
 obtain ⟨s1, s2, s3, s4⟩ := tree_says h2
 have hs := tree_some h2
 unfold boxesR leavesR depthR
 rw [if_pos h, if_pos h, if_pos h]
 refine ⟨h1, hs, boxesF_len .., ?_, s1, s3, s4, by omega⟩
 rw [boxesF_get xs ns (by omega), s2]; rfl
theorem boxesR_few {xs : List PSymbol} {ns : List PNode} (h : ns.length ≤ 16) : (boxesR xs ns).length ≤ 16 := by
 unfold boxesR; split
 · rw [boxesF_len]; exact h
 · simp
theorem leavesR_few {xs : List PSymbol} {ns : List PNode} (h : ns.length ≤ 16) : (leavesR xs ns).length ≤ 16 := by
 unfold leavesR; split
 · have := symsF_few ns ns.length; omega
 · simp
def DrawnTwo (w : World) (en : Ending) (w' : World) : Prop :=
 ∃ (ns ms : List PNode) (va vb : Value) (G H : List Nat), en = .returned (.tuple #[.agg #[va], .agg #[vb]]) ∧ (pNodes 76).rep true w' ns [va] G ∧ (pNodes 76).rep true w' ms [vb] H ∧ Fresh w.heap.size G ∧ Fresh w.heap.size H ∧ ns.length ≤ 16 ∧ ms.length ≤ 16 ∧ Below w.heap.size w w'
set_option maxHeartbeats 4000000 in
theorem spec_DrawSameTree_c {e : TypeId} {code : List UInt8} {v : Value} {F : List Nat} (w : World) (h : (byte.slice e).rep false w code [v] F) (hc : code.length ≤ 4096) :
 Calls Try.prog 23 #[v] w (DrawnTwo w) := by
 have bc : Below w.heap.size w ((w.alloc (.cells #[.slice none 0 0] 28)).alloc (.cells #[.slice none 0 0] 28)) := ((Below.refl _ _).alloc (Nat.le_refl _) _).alloc (by simp) _
 have h1 : (byte.slice e).rep false (w.alloc (.cells #[.slice none 0 0] 28)) code [v] F := Ty.kept _ h (fun b hb => Below.heap_alloc w _ b (Ty.lt _ h b hb))
 have H0 := Lib.hid (l00From_c ((w.alloc (.cells #[.slice none 0 0] 28)).alloc (.cells #[.slice none 0 0] 28)) (Ty.kept _ h1 (fun b hb => Below.heap_alloc _ _ b (Ty.lt _ h1 b hb))) hc)
 have hsA : (w.alloc (.cells #[.slice none 0 0] 28)).heap.size = w.heap.size + 1 := by simp only [World.alloc, Array.size_push]
 have hsB : ((w.alloc (.cells #[.slice none 0 0] 28)).alloc (.cells #[.slice none 0 0] 28)).heap.size = w.heap.size + 2 := by simp only [World.alloc, Array.size_push]
 have R2 := (Row.new w 28 #[.slice none 0 0]).alloc (.cells #[.slice none 0 0] 28)
 have R3 := Row.new (w.alloc (.cells #[.slice none 0 0] 28)) 28 #[.slice none 0 0]
 rw [hsA] at R3
 obtain ⟨A, c, rfl⟩ := slice_len h
 clear h h1
 go_enter Try.func23, Try.ntmps23
 go_wp2_with fail
 refine H0.out.mono ?_
 rintro e w1 ⟨rfl, S1, b1⟩
 have lt1 := S1.lt
 rw [hsB] at S1 b1 lt1 ⊢
 replace R2 := R2.below b1 (by omega)
 replace R3 := R3.below b1 (by omega)
 have b01 : Below w.heap.size w w1 := bc.trans (b1.mono (by omega))
 have H1 := Lib.hid (spec_l21Bent_c w1 S1 (by omega) (by omega))
 clear hsA hsB bc b1 H0
 go_wp2_with fail
 refine H1.out.mono ?_
 rintro e w2 ⟨xs, ns, vl, vt, G, H, rfl, rep, rept, fr, frt, hl, sm, hn, S2, O2⟩
 have hs2 := O2.size
 replace R2 := row_o R2 O2 (by omega)
 replace R3 := row_o R3 O2 (by omega)
 have b02 := b01.trans (O2.below (by omega) (by simp))
 obtain ⟨Al, cl, rfl⟩ := slice_len rep
 obtain ⟨A6, c6, rfl⟩ := slice_len rept
 have R6 := Row.new w2 28 #[.slice A6 ns.length c6]
 replace R2 := R2.alloc (.cells #[.slice A6 ns.length c6] 28)
 replace R3 := R3.alloc (.cells #[.slice A6 ns.length c6] 28)
 have REPA := Lib.hid (rept.alloc (.cells #[.slice A6 ns.length c6] 28))
 have n2H : w.heap.size ∉ H := fun hin => by have := frt.2 _ hin; omega
 have n3H : w.heap.size + 1 ∉ H := fun hin => by have := frt.2 _ hin; omega
 have FRA := Lib.hid frt
 have repl := rep.alloc (.cells #[.slice A6 ns.length c6] 28)
 replace b02 := b02.alloc (by omega) (.cells #[.slice A6 ns.length c6] 28)
 have hlt2 : w2.heap.size < (w2.alloc (.cells #[.slice A6 ns.length c6] 28)).heap.size := R6.lt
 generalize hw3 : w2.alloc (.cells #[.slice A6 ns.length c6] 28) = w3 at R2 R3 R6 REPA repl b02 hlt2
 have H2 := Lib.hid (spec_ParseSymbols_c w3 repl (by omega) (fun c hc => by have := (sm c hc).2; omega))
 clear rep rept fr frt sm repl O2 S2 S1 H1
 go_wp2_with fail
 clear hw3
 refine H2.out.mono ?_
 rintro e w4 ⟨vb, I, rfl, rep, fr, b4⟩
 have hms := parseN_small xs
 obtain ⟨ms, hms'⟩ : ∃ ms, ms = parseN xs := ⟨_, rfl⟩
 rw [← hms'] at rep hms
 clear hms' H2
 obtain ⟨A7, c7, rfl⟩ := slice_len rep
 have hs4 := b4.size
 replace R2 := R2.later b4
 replace R3 := R3.later b4
 replace R6 := R6.later b4
 replace REPA := Lib.hid (REPA.out.below b4)
 replace b02 := b02.trans (b4.mono (by omega))
 have R7 := Row.new w4 28 #[.slice A7 ms.length c7]
 replace R2 := R2.alloc (.cells #[.slice A7 ms.length c7] 28)
 replace R3 := R3.alloc (.cells #[.slice A7 ms.length c7] 28)
 replace R6 := R6.alloc (.cells #[.slice A7 ms.length c7] 28)
 replace REPA := Lib.hid (REPA.out.alloc (.cells #[.slice A7 ms.length c7] 28))
 have REPB := Lib.hid (rep.alloc (.cells #[.slice A7 ms.length c7] 28))
 have n2I : w.heap.size ∉ I := fun hin => by have := fr.2 _ hin; omega
 have n3I : w.heap.size + 1 ∉ I := fun hin => by have := fr.2 _ hin; omega
 have FRB := Lib.hid fr
 replace b02 := b02.alloc (by omega) (.cells #[.slice A7 ms.length c7] 28)
 clear rep fr b4
 go_upto_region 4 with fail
 generalize w4.alloc (.cells #[.slice A7 ms.length c7] 28) = w5 at R2 R3 R6 R7 REPA REPB b02 ⊢
 generalize hb6 : w2.heap.size = b6 at R6 ⊢
 generalize hb7 : w4.heap.size = b7 at R7 ⊢
 have hS : (fun w' : World => w'.cell? ⟨b6, 0, none⟩ = some (.slice A6 ns.length c6) ∧ w'.cell? ⟨b7, 0, none⟩ = some (.slice A7 ms.length c7)) w5.drew := ⟨R6.c0, R7.c0⟩
 dsimp only at hS
 refine wp_region_held_drew (S := (fun w' : World => w'.cell? ⟨b6, 0, none⟩ = some (.slice A6 ns.length c6) ∧ w'.cell? ⟨b7, 0, none⟩ = some (.slice A7 ms.length c7))) (by kernel_rfl) hS (fun _ => ?_)
 refine tJ 0 hS ?_
 refine tJ 1 hS ?_
 have q2 := R2.c0
 have q3 := R3.c0
 have f2 := R2.frozen
 have f3 := R3.frozen
 refine rJ 2 fun K hK => ?_
 go_simp
 refine hK.out _ _ ⟨(R6.drew.far (p := ⟨w.heap.size, 0, none⟩) (by show b6 ≠ w.heap.size; omega) _).c0, (R7.drew.far (p := ⟨w.heap.size, 0, none⟩) (by show b7 ≠ w.heap.size; omega) _).c0⟩ (fun _ => ?_)
 clear hK K hS q2 q3 f2 f3
 replace R3 := (R3.far (p := ⟨w.heap.size, 0, none⟩) (by show w.heap.size + 1 ≠ w.heap.size; omega) (.slice A6 ns.length c6)).drew
 replace R6 := (R6.far (p := ⟨w.heap.size, 0, none⟩) (by show b6 ≠ w.heap.size; omega) (.slice A6 ns.length c6)).drew
 replace R7 := (R7.far (p := ⟨w.heap.size, 0, none⟩) (by show b7 ≠ w.heap.size; omega) (.slice A6 ns.length c6)).drew
 replace R2 := (R2.set 0 (.slice A6 ns.length c6)).drew
 replace REPA := Lib.hid (REPA.out.setCell (p := ⟨w.heap.size, 0, none⟩) n2H (.slice A6 ns.length c6)).drew
 replace REPB := Lib.hid (REPB.out.setCell (p := ⟨w.heap.size, 0, none⟩) n2I (.slice A6 ns.length c6)).drew
 replace b02 := (b02.setCell (p := ⟨w.heap.size, 0, none⟩) (Nat.le_refl _) (.slice A6 ns.length c6)).drew
 generalize (w5.setCell ⟨w.heap.size, 0, none⟩ (.slice A6 ns.length c6)).drew = w6 at R2 R3 R6 R7 REPA REPB b02 ⊢
 replace hS := (⟨R6.c0, R7.c0⟩ : w6.cell? ⟨b6, 0, none⟩ = some (.slice A6 ns.length c6) ∧ w6.cell? ⟨b7, 0, none⟩ = some (.slice A7 ms.length c7))
 have q2 := R2.c0
 have q3 := R3.c0
 have f3 := R3.frozen
 refine rJ 3 fun K hK => ?_
 go_simp
 refine hK.out _ _ ⟨(R6.far (p := ⟨w.heap.size + 1, 0, none⟩) (by show b6 ≠ w.heap.size + 1; omega) _).c0, (R7.far (p := ⟨w.heap.size + 1, 0, none⟩) (by show b7 ≠ w.heap.size + 1; omega) _).c0⟩ (fun _ => ?_)
 clear hK K hS q2 q3 f3
 refine wpAnyH_done (by kernel_rfl) ?_ _
 have d2 := (R2.far (p := ⟨w.heap.size + 1, 0, none⟩) (by show w.heap.size ≠ w.heap.size + 1; omega) (.slice A7 ms.length c7)).c0
 have d3 := (R3.set 0 (.slice A7 ms.length c7)).c0
 have NA := REPA.out.setCell (p := ⟨w.heap.size + 1, 0, none⟩) n3H (.slice A7 ms.length c7)
 have NB := REPB.out.setCell (p := ⟨w.heap.size + 1, 0, none⟩) n3I (.slice A7 ms.length c7)
 replace b02 := b02.setCell (p := ⟨w.heap.size + 1, 0, none⟩) (by show w.heap.size ≤ w.heap.size + 1; omega) (.slice A7 ms.length c7)
 clear R2 R3 R6 R7 REPA REPB
 go_wp2_with fail
 exact bodyPost_ret (v := .tuple #[.agg #[.slice A6 ns.length c6], .agg #[.slice A7 ms.length c7]]) (by simp [results, Try.results23, go_sem, d2, d3]) rfl ⟨ns, ms, _, _, H, I, rfl, NA, NB, ⟨FRA.out.1, fun x hx => by have := FRA.out.2 x hx; omega⟩, ⟨FRB.out.1, fun x hx => by have := FRB.out.2 x hx; omega⟩, hn, by omega, b02⟩
structure RdNum (xs : List PSymbol) (st : RdSt) : Prop where
 few : xs.length ≤ 8
 sy : ∀ s ∈ xs, boxIn (boxOf s)
 bx : ∀ b ∈ st.boxes, boxIn b
 dp : ∀ k (h : k < st.depth.length), 0 ≤ st.depth[k] ∧ st.depth[k] ≤ k + 1
 dl : st.depth.length ≤ 15
 cost : 0 ≤ st.cost ∧ st.cost ≤ 640000
def RJoin (e et : TypeId) (o ot : Bool) (xs : List PSymbol) (ns : List PNode) (vl vn : Value) (Fl Fn : List Nat) (gp gu gb gd : Nat) (st' : RdSt) (w : World) (en : Ending) (w' : World) : Prop :=
 (∃ v, en = .returned v) ∧ Only [gp, gu, gb, gd] w w' ∧ Rd e et o ot xs ns vl vn Fl Fn gp gu gb gd st' w'
theorem Row.farB {w : World} {g gb : Nat} {e : TypeId} {cs : List Value} (R : Row w g e cs) (k : Nat) (Y : PBox) (h : g ≠ gb) : Row ((((w.setCell ⟨gb, k * 4, none⟩ (.int .i64 Y.x1)).setCell ⟨gb, k * 4 + 1, none⟩ (.int .i64 Y.y1)).setCell ⟨gb, k * 4 + 2, none⟩ (.int .i64 Y.x2)).setCell ⟨gb, k * 4 + 3, none⟩ (.int .i64 Y.y2)) g e cs :=
 (((R.far (p := ⟨gb, _, none⟩) h _).far (p := ⟨gb, _, none⟩) h _).far (p := ⟨gb, _, none⟩) h _).far (p := ⟨gb, _, none⟩) h _
end Go.Proofs.Ytmopioaojdlnkaa
