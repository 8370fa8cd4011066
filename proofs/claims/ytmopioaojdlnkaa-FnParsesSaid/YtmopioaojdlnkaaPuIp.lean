/- What the laws of trees draw. Conditions: none. -/
import Derived.Test.YtmopioaojdlnkaaPuHp
import Derived.Test.YtmopioaojdlnkaaPsNp
import Derived.Laws.StructEq
import Derived.Test.YtmopioaojdlnkaaTreeIp
namespace Go.Proofs.Ytmopioaojdlnkaa
open Go Go.RowKit

def DrawnSyms (w : World) (en : Ending) (w' : World) : Prop :=
 ∃ (xs : List PSymbol) (v : Value) (G : List Nat), en = .returned v ∧ (pSymbols 50).rep true w' xs [v] G ∧ Fresh w.heap.size G ∧ xs.length ≤ 12 ∧ (∀ c ∈ xs, SymLe 6000 c) ∧ Below w.heap.size w w'
def DrawnTree (w : World) (en : Ending) (w' : World) : Prop :=
 ∃ (xs : List PSymbol) (ns : List PNode) (vl vt : Value) (G H : List Nat), en = .returned (.tuple #[vl, .agg #[vt]]) ∧ (pSymbols 50).rep true w' xs [vl] G ∧ (pNodes 76).rep true w' ns [vt] H ∧ Fresh w.heap.size G ∧ Fresh w.heap.size H ∧ xs.length ≤ 12 ∧ (∀ c ∈ xs, SymLe 6000 c) ∧ ns.length ≤ 16 ∧ Below w.heap.size w w'
theorem spec_DrawParseSymbols_c {e : TypeId} {code : List UInt8} {v : Value} {F : List Nat} (w : World) (h : (byte.slice e).rep false w code [v] F) (hc : code.length ≤ 4096) :
 Calls Try.prog 6 #[v] w (DrawnSyms w) := by
 have H0 := Lib.hid (l00From_c w h hc)
 obtain ⟨A, c, rfl⟩ := slice_len h
 clear h
 go_enter Try.func6, Try.ntmps6
 go_wp2_with fail
 refine H0.out.mono ?_
 rintro e w1 ⟨rfl, S1, b1⟩
 have lt1 := S1.lt
 have H1 := Lib.hid (spec_l21Draw_c w1 S1 (by omega) (by omega))
 go_wp2_with fail
 refine H1.out.mono ?_
 rintro e w2 ⟨xs, u, G, rfl, rep, fr, hl, sm, S2, O2⟩
 have REP := Lib.hid rep
 have SM := Lib.hid sm
 have FR := Lib.hid fr
 clear rep sm fr H0 H1
 go_wp2_with fail
 go_ret
 exact ⟨xs, u, G, rfl, REP.out, ⟨FR.out.1, fun x hx => by have := FR.out.2 x hx; omega⟩, hl, SM.out, b1.trans (O2.below (by omega) (by simp))⟩
theorem spec_DrawTreeCost_c {e : TypeId} {code : List UInt8} {v : Value} {F : List Nat} (w : World) (h : (byte.slice e).rep false w code [v] F) (hc : code.length ≤ 4096) :
 Calls Try.prog 14 #[v] w (DrawnTree w) := by
 have bc : Below w.heap.size w (w.alloc (.cells #[.slice none 0 0] 28)) := (Below.refl _ _).alloc (Nat.le_refl _) _
 have H0 := Lib.hid (l00From_c (w.alloc (.cells #[.slice none 0 0] 28)) (Ty.kept _ h (fun b hb => Below.heap_alloc w _ b (Ty.lt _ h b hb))) hc)
 have RT := Row.new w 28 #[.slice none 0 0]
 obtain ⟨A, c, rfl⟩ := slice_len h
 clear h
 go_enter Try.func14, Try.ntmps14
 go_wp2_with fail
 refine H0.out.mono ?_
 rintro e w1 ⟨rfl, S1, b1⟩
 have lt1 := S1.lt
 have hsA : (w.alloc (.cells #[.slice none 0 0] 28)).heap.size = w.heap.size + 1 := by simp only [World.alloc, Array.size_push]
 rw [hsA] at S1 b1 lt1 ⊢
 replace RT := RT.below b1 (by omega)
 have b01 : Below w.heap.size w w1 := bc.trans (b1.mono (by omega))
 have H1 := Lib.hid (spec_l21Bent_c w1 S1 (by omega) (by omega))
 clear hsA bc b1
 go_wp2_with fail
 refine H1.out.mono ?_
 rintro e w2 ⟨xs, ns, vl, vt, G, H, rfl, rep, rept, fr, frt, hl, sm, hn, S2, O2⟩
 obtain ⟨A2, c2, rfl⟩ := slice_len rept
 have REP := Lib.hid rep
 have REPT := Lib.hid rept
 have SM := Lib.hid sm
 have FR := Lib.hid fr
 have FRT := Lib.hid frt
 replace RT := row_o RT O2 (by omega)
 have nG : w.heap.size ∉ G := fun hin => by have := fr.2 _ hin; omega
 have nH : w.heap.size ∉ H := fun hin => by have := frt.2 _ hin; omega
 have r0 := RT.cell' (i := 0) rfl
 have rF := RT.frozen
 clear rep rept sm fr frt H0 H1
 go_wp2_with fail
 have RR := RT.set 0 (.slice A2 ns.length c2)
 have d0 := RR.cell' (i := 0) rfl
 refine bodyPost_ret (v := .tuple #[vl, .agg #[.slice A2 ns.length c2]]) (by simp [results, Try.results14, go_sem, d0]) rfl ⟨xs, ns, vl, _, G, H, rfl, REP.out.setCell (p := ⟨w.heap.size, 0, none⟩) nG _, REPT.out.setCell (p := ⟨w.heap.size, 0, none⟩) nH _, ⟨FR.out.1, fun x hx => by have := FR.out.2 x hx; omega⟩, ⟨FRT.out.1, fun x hx => by have := FRT.out.2 x hx; omega⟩, hl, SM.out, hn, ?_⟩
 exact (b01.trans (O2.below (by omega) (by simp))).setCell (Nat.le_refl _) _
end Go.Proofs.Ytmopioaojdlnkaa
namespace Go.Proofs.Ytmopioaojdlnkaa
open Go Go.RowKit

def GivesBb (b : Bool) (w : World) (en : Ending) (w' : World) : Prop := en = .returned (.bool b) ∧ Below w.heap.size w w'
theorem Node_neq (s t : PNode) (w : World) : (binOp .neq 76 (.agg #[.int .i64 s.kind, .int .i64 s.a, .int .i64 s.b, .int .i64 s.sign]) (.agg #[.int .i64 t.kind, .int .i64 t.a, .int .i64 t.b, .int .i64 t.sign])).run Try.prog w = .ok (.bool (!decide (s = t))) w := by
 have hS : Try.prog.underlying 76 = some (.struct (Try.prog.fieldsOf 76)) := by kernel_rfl
 have hp : Try.prog.stoodInHeld 76 = false := by kernel_rfl
 rw [run_neq_struct, show (10000 : Nat) = 9999 + 1 from rfl, run_equalIn_agg w 9999 76 _ _ hS hp]
 simp only [Program.fieldsOf, Try.underlying76]
 go_simp
 obtain ⟨x0, x1, x2, x3⟩ := s
 obtain ⟨y0, y1, y2, y3⟩ := t
 simp only [PNode.mk.injEq]
 by_cases h0 : x0 = y0 <;> by_cases h1 : x1 = y1 <;> by_cases h2 : x2 = y2 <;> by_cases h3 : x3 = y3 <;> simp [h0, h1, h2, h3]

set_option maxRecDepth 100000 in
set_option maxHeartbeats 1000000 in
theorem spec_SameTree_c {oa ob : Bool} {ea eb : TypeId} {xs ys : List PNode} {v u : Value} {F G : List Nat} (w : World) (h : (pNodes ea).rep oa w xs [v] F) (h' : (pNodes eb).rep ob w ys [u] G) (hx : xs.length ≤ 1000) (hy : ys.length ≤ 1000) :
 Calls Try.prog 11 #[.agg #[v], .agg #[u]] w (GivesBb (decide (xs = ys)) w) := by
 have h2 := (h.alloc (.cells #[v] 28)).alloc (.cells #[u] 28)
 have h2' := (h'.alloc (.cells #[v] 28)).alloc (.cells #[u] 28)
 have R2 := (Row.new w 28 #[v]).alloc (.cells #[u] 28)
 have R3 := Row.new (w.alloc (.cells #[v] 28)) 28 #[u]
 have hsA : (w.alloc (.cells #[v] 28)).heap.size = w.heap.size + 1 := by simp only [World.alloc, Array.size_push]
 have b0 : Below w.heap.size w ((w.alloc (.cells #[v] 28)).alloc (.cells #[u] 28)) := ((Below.refl _ _).alloc (Nat.le_refl _) _).alloc (by simp) _
 rw [hsA] at R3
 have r2 := R2.cell' (i := 0) rfl
 have r3 := R3.cell' (i := 0) rfl
 obtain ⟨A, c, rfl⟩ := slice_len h
 obtain ⟨B, d, rfl⟩ := slice_len h'
 obtain ⟨A1, c1, e1, hc1, hc2, hr⟩ := pNodes_open h2
 obtain ⟨B1, d1, e2, hd1, hd2, hs⟩ := pNodes_open h2'
 rw [Value.slice.injEq] at e1 e2
 obtain ⟨rfl, -, rfl⟩ := e1
 obtain ⟨rfl, -, rfl⟩ := e2
 clear h h' h2 h2' R2 R3 hsA
 go_enter Try.func11, Try.ntmps11
 go_upto_region 1 with fail
 generalize ((w.alloc (.cells #[.slice A xs.length c] 28)).alloc (.cells #[.slice B ys.length d] 28)) = W0 at r2 r3 b0 hr hs ⊢
 by_cases hl : xs.length = ys.length
 · have hne : ((xs.length : Int) != (ys.length : Int)) = false := by simp [hl]
   have HL := Lib.hid hl
   clear hl
   go_wp2_with fail
   go_loopw [5] (fun i wr => ∃ k : Nat, k ≤ xs.length ∧ i = .int .i64 k ∧ (∀ j (hj : j < xs.length) (hj' : j < ys.length), j < k → xs[j] = ys[j]) ∧ ∃ m, wr = W0.drewN m) (fun i _ => xs.length - (intOf i).toNat)
   case atStart => exact ⟨0, Nat.zero_le _, rfl, fun _ _ _ h => by omega, 0, rfl⟩
   case round =>
    obtain ⟨k, hk, rfl, hall, m, rfl⟩ := hrel
    by_cases hlt : k < xs.length
    · have hlt' : k < ys.length := by have := HL.out; omega
      obtain ⟨b, off, rfl, hbb, _, h0, h1, h2, h3, _⟩ := hr k hlt
      obtain ⟨b', off', rfl, hbb', _, g0, g1, g2, g3, _⟩ := hs k hlt'
      have HA := Lib.hid hall
      clear hr hs hall
      have hm : Try.prog.eqGuardType Try.prog.depth 76 = false := by kernel_rfl
      by_cases hkk : xs[k] = ys[k]
      · have hq := fun w => Node_neq xs[k] ys[k] w
        simp only [decide_eq_true hkk, Bool.not_true] at hq
        have HK := Lib.hid hkk
        clear hkk
        go_wp2_with fail
        go_quiet (fail)
        go_wp2_with fail
        go_roundw
        case rel =>
         refine ⟨k + 1, by omega, by go_num, fun j hj hj' hjk => ?_, _, by first | rfl | exact World.drewN_drewN _ _ _⟩
         by_cases e : j = k
         · subst e; exact HK.out
         · exact HA.out j hj hj' (by omega)
        case measure => simp [intOf]; omega
      · have hq := fun w => Node_neq xs[k] ys[k] w
        simp only [decide_eq_false hkk, Bool.not_false] at hq
        have HK := Lib.hid hkk
        clear hkk
        go_wp2_with fail
        go_quiet (fail)
        go_wp2_with fail
        go_ret
        have hne : ¬ xs = ys := fun e => by subst e; exact HK.out rfl
        exact ⟨by simp [hne], below_drewN (below_drewN b0 _) _⟩
    · obtain rfl : k = xs.length := by omega
      have heq : xs = ys := List.ext_getElem HL.out (fun j h1 h2 => hall j h1 h2 h1)
      clear hall
      go_wp2_with fail
      go_ret
      exact ⟨by simp [heq], below_drewN b0 _⟩
 · have hne : ((xs.length : Int) != (ys.length : Int)) = true := by rw [bne_iff_ne]; omega
   have hxy : ¬ xs = ys := fun e => hl (by rw [e])
   have HL := Lib.hid hxy
   clear hl hxy
   go_wp2_with fail
   go_ret
   exact ⟨by simp [HL.out], b0⟩

end Go.Proofs.Ytmopioaojdlnkaa
namespace Go.Proofs.Ytmopioaojdlnkaa
open Go Go.RowKit

/-- Numbers in the reader keep in bounds. -/
structure RdNum (xs : List PSymbol) (st : RdSt) : Prop where
 few : xs.length ≤ 8
 sy : ∀ s ∈ xs, boxIn (boxOf s)
 bx : ∀ b ∈ st.boxes, boxIn b
 dp : ∀ k (h : k < st.depth.length), 0 ≤ st.depth[k] ∧ st.depth[k] ≤ k + 1
 dl : st.depth.length ≤ 15
 cost : 0 ≤ st.cost ∧ st.cost ≤ 640000
/-- What join leaves. -/
def RJoin (e et : TypeId) (o ot : Bool) (xs : List PSymbol) (ns : List PNode) (vl vn : Value) (Fl Fn : List Nat) (gp gu gb gd : Nat) (st' : RdSt) (w : World) (en : Ending) (w' : World) : Prop :=
 (∃ v, en = .returned v) ∧ Only [gp, gu, gb, gd] w w' ∧ Rd e et o ot xs ns vl vn Fl Fn gp gu gb gd st' w'
theorem Row.farB {w : World} {g gb : Nat} {e : TypeId} {cs : List Value} (R : Row w g e cs) (k : Nat) (Y : PBox) (h : g ≠ gb) : Row ((((w.setCell ⟨gb, k * 4, none⟩ (.int .i64 Y.x1)).setCell ⟨gb, k * 4 + 1, none⟩ (.int .i64 Y.y1)).setCell ⟨gb, k * 4 + 2, none⟩ (.int .i64 Y.x2)).setCell ⟨gb, k * 4 + 3, none⟩ (.int .i64 Y.y2)) g e cs :=
 (((R.far (p := ⟨gb, _, none⟩) h _).far (p := ⟨gb, _, none⟩) h _).far (p := ⟨gb, _, none⟩) h _).far (p := ⟨gb, _, none⟩) h _
end Go.Proofs.Ytmopioaojdlnkaa
