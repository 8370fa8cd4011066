/- The type Stroke: the law's own mark over it. Conditions: none. -/
import Derived.Test.YtkfadfddhbpngaaGreatTyStrokev
namespace Go.Proofs.YtkfadfddhbpngaaGreat
open Go Go.RowKit

/-- The marks that strokes take. -/
def pointsIn (xs : List PStroke) : Nat := (xs.map fun l : PStroke => l.length * 3).sum
/-- The marks from number s on. -/
def markStrokes : List PStroke → Nat → List PStroke
 | [], _ => []
 | l :: r, s => markPPoint l.length s :: markStrokes r (s + l.length * 3)
theorem markStrokes_len : ∀ (xs : List PStroke) (s : Nat), (markStrokes xs s).length = xs.length
 | [], _ => rfl
 | l :: r, s => by simp [markStrokes, markStrokes_len r]
theorem pointsIn_append (xs ys : List PStroke) : pointsIn (xs ++ ys) = pointsIn xs + pointsIn ys := by simp [pointsIn]
theorem markStrokes_append : ∀ (xs ys : List PStroke) (s : Nat), markStrokes (xs ++ ys) s = markStrokes xs s ++ markStrokes ys (s + pointsIn xs)
 | [], _, _ => by simp [markStrokes, pointsIn]
 | l :: r, ys, s => by
  simp only [List.cons_append, markStrokes, markStrokes_append r ys]
  congr 2
  simp [pointsIn]; congr 1; omega
theorem pointsIn_take {xs : List PStroke} {k : Nat} (h : k < xs.length) : pointsIn (xs.take (k + 1)) = pointsIn (xs.take k) + xs[k].length * 3 := by
 rw [List.take_succ_eq_append_getElem h, pointsIn_append]; simp [pointsIn]
theorem pointsIn_le {xs : List PStroke} (k : Nat) : pointsIn (xs.take k) ≤ pointsIn xs := by
 have := pointsIn_append (xs.take k) (xs.drop k)
 rw [List.take_append_drop] at this; omega
theorem markStrokes_take {xs : List PStroke} {k : Nat} (s : Nat) (h : k < xs.length) : markStrokes (xs.take (k + 1)) s = markStrokes (xs.take k) s ++ [markPPoint xs[k].length (s + pointsIn (xs.take k))] := by
 rw [List.take_succ_eq_append_getElem h, markStrokes_append]; rfl
theorem markStrokes_get : ∀ {xs : List PStroke} {s k : Nat} (h : k < xs.length), (markStrokes xs s)[k]'(by rw [markStrokes_len]; exact h) = markPPoint xs[k].length (s + pointsIn (xs.take k))
 | l :: r, s, 0, _ => by simp [markStrokes, pointsIn]
 | l :: r, s, k + 1, h => by
  simp only [markStrokes, List.getElem_cons_succ, List.take_succ_cons]
  rw [markStrokes_get (by simpa using h)]
  congr 1
  simp [pointsIn]; omega

theorem markPointS_i {e : TypeId} {xs : List PPoint} {v : Value} {F : List Nat} (w : World) (h : (pPoints e).rep true w xs [v] F) (hx : xs.length ≤ 1048576) (n : Int) (s : Nat) (hn : n = (s : Int)) (hs0 : 0 < s) (hs : s ≤ 10000000) :
 Calls Tryz.prog 62 #[v, .int .i64 n] w fun e' w' => e' = .returned (.int .i64 ((s : Int) + (xs.length : Int) * 3)) ∧ (pPoints e).rep true w' (markPPoint xs.length s) [v] F ∧ Only F w w' := by
 subst hn; exact markPointS_c w h hx s hs0 hs
set_option maxRecDepth 100000 in
set_option maxHeartbeats 1000000 in
theorem markStrokeS_c {pe e : TypeId} {xs : List PStroke} {v : Value} {F : List Nat} (w : World) (h : (pStrokes pe e).rep true w xs [v] F) (hnd : F.Nodup) (hx : xs.length ≤ 1048576) (hxe : ∀ l ∈ xs, l.length ≤ 1048576) (s : Nat) (hs0 : 0 < s) (hs : s + pointsIn xs ≤ 10000000) :
 Calls Tryz.prog 132 #[v, .int .i64 s] w fun e' w' => e' = .returned (.int .i64 ((s + pointsIn xs : Nat) : Int)) ∧ (pStrokes pe e).rep true w' (markStrokes xs s) [v] F ∧ Only F w w' := by
 by_cases hn : xs.length = 0
 · obtain ⟨A, c, hv, hc1, hc2, hr⟩ := slice_open h
   have hxs : xs = [] := List.eq_nil_of_length_eq_zero hn
   subst hxs
   subst hv
   clear hn hr hx hc1
   go_enter Tryz.func132, Tryz.ntmps132
   go_wp2_with fail
   refine wp_loop_rounds 1 ?_; rw [rounds_succ]
   go_wp2_with fail
   go_ret
   exact ⟨ret_int (by simp [pointsIn]), h, Only.refl _ _⟩
 · obtain ⟨g, c, cs, rest, G, rfl, hl, hc, hrow, hrp, hlen, rfl⟩ := row_of_slice h (by omega)
   have hgl := hrow.lt
   have hgG : g ∉ G := (List.nodup_cons.1 hnd).1
   have hGG : G.Nodup := (List.nodup_cons.1 hnd).2
   clear h hnd
   go_enter Tryz.func132, Tryz.ntmps132
   go_wp2_with fail
   go_loopw [1, 5] (fun m i wr => ∃ k : Nat, k ≤ xs.length ∧ i = .int .i64 k ∧ m = .int .i64 ((s + pointsIn (xs.take k) : Nat) : Int) ∧ Row wr g e (cs ++ rest) ∧ repL (pStroke pe) true wr (markStrokes (xs.take k) s ++ xs.drop k) cs G ∧ Only (g :: G) w wr) (fun _ i _ => xs.length - (intOf i).toNat)
   case atStart => exact ⟨0, Nat.zero_le _, rfl, by simp [pointsIn], hrow, by simpa [markStrokes] using hrp, Only.refl _ _⟩
   case round =>
    obtain ⟨k, hk, rfl, rfl, hrk, hrl, hb⟩ := hrel
    have hbs := hb.size
    by_cases hlt : k < xs.length
    · have hwt := pointsIn_take hlt
      have hwk := pointsIn_le (xs := xs) k
      have hwk1 := pointsIn_le (xs := xs) (k + 1)
      have L1 := hxe _ (List.getElem_mem hlt)
      rw [List.drop_eq_getElem_cons hlt, ← List.singleton_append] at hrl
      obtain ⟨c1, c', F1, F', rfl, rfl, h1, h'⟩ := repL_split hrl
      obtain ⟨ck, c2, Fk, F2, rfl, rfl, hk', h2⟩ := repL_split h'
      have hrk' := repL_single.1 hk'
      obtain ⟨u1, rfl⟩ := pStroke_one hrk'
      have hpl : c1.length = k := by
       have := repL_len h1
       rw [markStrokes_len, List.length_take, Nat.min_eq_left (by omega)] at this
       rw [this]; exact Nat.mul_one k
      have h0 : wr.cell? ⟨g, k, none⟩ = some u1 := hrk.cell' (by rw [List.append_assoc, List.getElem?_append_right (by omega), hpl, Nat.sub_self]; rfl)
      have hgw : g < wr.heap.size := hrk.lt
      have N1 := List.nodup_append.1 hGG
      have N2 := List.nodup_append.1 N1.2.1
      have d1 : ∀ x ∈ F1, x ∉ Fk := fun x hx hx2 => N1.2.2 x hx x (by simp [hx2]) rfl
      have d2 : ∀ x ∈ F2, x ∉ Fk := fun x hx hx2 => N2.2.2 x hx2 x hx rfl
      have dg : g ∉ Fk := fun hx => hgG (by simp [hx])
      obtain ⟨A1, k1, rfl⟩ := slice_len hrk'
      have HM := Lib.hid (markStrokes_take s hlt)
      have HN := Lib.hid hn
      have HE := Lib.hid hlen
      have HP := Lib.hid hrp
      have HW := Lib.hid hrow
      have H1 := Lib.hid h1
      have H2 := Lib.hid h2
      have HK := Lib.hid hrk'
      have HRK := Lib.hid hrk
      have HPL := Lib.hid hpl
      have HG := Lib.hid hgG
      have HGG := Lib.hid hGG
      clear hrl h' hk' h1 h2 hrk' hn hlen hrp hrow N1 N2 hrk hpl hgG hGG
      go_wp2_with (go_at_call 62; refine (markPointS_i _ HK.out L1 _ (s + pointsIn (xs.take k)) (by omega) (by omega) (by omega)).mono ?_; rintro e' w1 ⟨rfl, r1, o1⟩)
      go_roundw
      case rel =>
       refine ⟨k + 1, by omega, by go_num, by rw [hwt]; go_num, ?_, ?_, hb.trans (o1.mono (by intro x hx; simp [hx]))⟩
       · have := o1.block g hgw dg
         exact (show w1.heap[g]? = _ from this.trans HRK.out)
       · rw [HM.out, List.append_assoc]
         exact repL_append (repL_only H1.out o1 d1) (repL_append (repL_single.2 r1) (repL_only H2.out o1 d2))
      case measure => simp [intOf]; omega
    · obtain rfl : k = xs.length := by omega
      have HN := Lib.hid hn
      clear hn
      go_wp2_with fail
      go_ret
      rw [List.drop_length, List.append_nil] at hrl
      rw [List.take_length] at hrl ⊢
      exact ⟨rfl, slice_of_room hrk hrl (markStrokes_len _ _) hl hc hlen, hb⟩

end Go.Proofs.YtkfadfddhbpngaaGreat
