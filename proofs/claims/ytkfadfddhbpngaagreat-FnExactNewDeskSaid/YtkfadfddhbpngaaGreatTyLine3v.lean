/- The type TextLine: the law's own mark and held over it. Conditions: none. -/
import Derived.Test.YtkfadfddhbpngaaGreatTyLinev
namespace Go.Proofs.YtkfadfddhbpngaaGreat
open Go Go.RowKit

/-- The words of all lines, counted. -/
def wordsIn (xs : List PLine) : Nat := (xs.map List.length).sum
/-- The marks from number s on. -/
def markLines : List PLine → Nat → List PLine
 | [], _ => []
 | l :: r, s => markS l.length s :: markLines r (s + l.length)
theorem markLines_len : ∀ (xs : List PLine) (s : Nat), (markLines xs s).length = xs.length
 | [], _ => rfl
 | l :: r, s => by simp [markLines, markLines_len r]
theorem wordsIn_append (xs ys : List PLine) : wordsIn (xs ++ ys) = wordsIn xs + wordsIn ys := by simp [wordsIn]
theorem markLines_append : ∀ (xs ys : List PLine) (s : Nat), markLines (xs ++ ys) s = markLines xs s ++ markLines ys (s + wordsIn xs)
 | [], _, _ => by simp [markLines, wordsIn]
 | l :: r, ys, s => by
  simp only [List.cons_append, markLines, markLines_append r ys]
  congr 2
  simp [wordsIn]; congr 1; omega
theorem wordsIn_take {xs : List PLine} {k : Nat} (h : k < xs.length) : wordsIn (xs.take (k + 1)) = wordsIn (xs.take k) + xs[k].length := by
 rw [List.take_succ_eq_append_getElem h, wordsIn_append]; simp [wordsIn]
theorem wordsIn_le {xs : List PLine} (k : Nat) : wordsIn (xs.take k) ≤ wordsIn xs := by
 have := wordsIn_append (xs.take k) (xs.drop k)
 rw [List.take_append_drop] at this; omega
theorem markLines_take {xs : List PLine} {k : Nat} (s : Nat) (h : k < xs.length) : markLines (xs.take (k + 1)) s = markLines (xs.take k) s ++ [markS xs[k].length (s + wordsIn (xs.take k))] := by
 rw [List.take_succ_eq_append_getElem h, markLines_append]; rfl
theorem markLines_get : ∀ {xs : List PLine} {s k : Nat} (h : k < xs.length), (markLines xs s)[k]'(by rw [markLines_len]; exact h) = markS xs[k].length (s + wordsIn (xs.take k))
 | l :: r, s, 0, _ => by simp [markLines, wordsIn]
 | l :: r, s, k + 1, h => by
  simp only [markLines, List.getElem_cons_succ, List.take_succ_cons]
  rw [markLines_get (by simpa using h)]
  congr 1
  simp [wordsIn]; omega

set_option maxRecDepth 100000 in
set_option maxHeartbeats 1000000 in
theorem markTextLineS_c {e : TypeId} {xs : List PLine} {v : Value} {F : List Nat} (w : World) (h : (pLines e).rep true w xs [v] F) (hnd : F.Nodup) (hx : xs.length ≤ 1048576) (hxe : ∀ l ∈ xs, l.length ≤ 1048576) (s : Nat) (hs0 : 0 < s) (hs : s + wordsIn xs ≤ 10000000) :
 Calls Tryz.prog 100 #[v, .int .i64 s] w fun e' w' => e' = .returned (.int .i64 ((s + wordsIn xs : Nat) : Int)) ∧ (pLines e).rep true w' (markLines xs s) [v] F ∧ Only F w w' := by
 by_cases hn : xs.length = 0
 · obtain ⟨A, c, hv, hc1, hc2, hr⟩ := slice_open h
   have hxs : xs = [] := List.eq_nil_of_length_eq_zero hn
   subst hxs
   subst hv
   clear hn hr hx hc1
   go_enter Tryz.func100, Tryz.ntmps100
   go_wp2_with fail
   refine wp_loop_rounds 1 ?_; rw [rounds_succ]
   go_wp2_with fail
   go_ret
   exact ⟨ret_int (by simp [wordsIn]), h, Only.refl _ _⟩
 · obtain ⟨g, c, cs, rest, G, rfl, hl, hc, hrow, hrp, hlen, rfl⟩ := row_of_slice h (by omega)
   have hgl := hrow.lt
   have hgG : g ∉ G := (List.nodup_cons.1 hnd).1
   have hGG : G.Nodup := (List.nodup_cons.1 hnd).2
   clear h hnd
   go_enter Tryz.func100, Tryz.ntmps100
   go_wp2_with fail
   go_loopw [1, 5] (fun m i wr => ∃ k : Nat, k ≤ xs.length ∧ i = .int .i64 k ∧ m = .int .i64 ((s + wordsIn (xs.take k) : Nat) : Int) ∧ Row wr g e (cs ++ rest) ∧ repL pLine true wr (markLines (xs.take k) s ++ xs.drop k) cs G ∧ Only (g :: G) w wr) (fun _ i _ => xs.length - (intOf i).toNat)
   case atStart => exact ⟨0, Nat.zero_le _, rfl, by simp [wordsIn], hrow, by simpa [markLines] using hrp, Only.refl _ _⟩
   case round =>
    obtain ⟨k, hk, rfl, rfl, hrk, hrl, hb⟩ := hrel
    have hbs := hb.size
    by_cases hlt : k < xs.length
    · have hwt := wordsIn_take hlt
      have hwk := wordsIn_le (xs := xs) k
      have hwk1 := wordsIn_le (xs := xs) (k + 1)
      have L1 := hxe _ (List.getElem_mem hlt)
      rw [List.drop_eq_getElem_cons hlt, ← List.singleton_append] at hrl
      obtain ⟨c1, c', F1, F', rfl, rfl, h1, h'⟩ := repL_split hrl
      obtain ⟨ck, c2, Fk, F2, rfl, rfl, hk', h2⟩ := repL_split h'
      have hrk' := repL_single.1 hk'
      obtain ⟨u1, rfl⟩ := pLine_one hrk'
      have hpl : c1.length = k := by
       have := repL_len h1
       rw [markLines_len, List.length_take, Nat.min_eq_left (by omega)] at this
       rw [this]; exact Nat.mul_one k
      have h0 : wr.cell? ⟨g, k, none⟩ = some u1 := hrk.cell' (by rw [List.append_assoc, List.getElem?_append_right (by omega), hpl, Nat.sub_self]; rfl)
      have hgw : g < wr.heap.size := hrk.lt
      have N1 := List.nodup_append.1 hGG
      have N2 := List.nodup_append.1 N1.2.1
      have d1 : ∀ x ∈ F1, x ∉ Fk := fun x hx hx2 => N1.2.2 x hx x (by simp [hx2]) rfl
      have d2 : ∀ x ∈ F2, x ∉ Fk := fun x hx hx2 => N2.2.2 x hx2 x hx rfl
      have dg : g ∉ Fk := fun hx => hgG (by simp [hx])
      obtain ⟨A1, k1, rfl⟩ := slice_len hrk'
      have HM := Lib.hid (markLines_take s hlt)
      have HN := Lib.hid hn
      have HE := Lib.hid hlen
      have HP := Lib.hid hrp
      have HW := Lib.hid hrow
      have H1 := Lib.hid h1
      have H2 := Lib.hid h2
      have HK := Lib.hid hrk'
      have HRK := Lib.hid hrk
      have HPL := Lib.hid hpl
      have HG := Lib.hid hgG
      have HGG := Lib.hid hGG
      clear hrl h' hk' h1 h2 hrk' hn hlen hrp hrow N1 N2 hrk hpl hgG hGG
      go_wp2_with (go_at_call 63; refine (markStringS_c _ HK.out L1 _ (by omega) (by omega)).mono ?_; rintro e' w1 ⟨rfl, r1, o1⟩)
      go_roundw
      case rel =>
       refine ⟨k + 1, by omega, by go_num, by rw [hwt]; go_num, ?_, ?_, hb.trans (o1.mono (by intro x hx; simp [hx]))⟩
       · have := o1.block g hgw dg
         exact (show w1.heap[g]? = _ from this.trans HRK.out)
       · rw [HM.out, List.append_assoc]
         exact repL_append (repL_only H1.out o1 d1) (repL_append (repL_single.2 r1) (repL_only H2.out o1 d2))
      case measure => simp [intOf]; omega
    · obtain rfl : k = xs.length := by omega
      have HN := Lib.hid hn
      clear hn
      go_wp2_with fail
      go_ret
      rw [List.drop_length, List.append_nil] at hrl
      rw [List.take_length] at hrl ⊢
      exact ⟨rfl, slice_of_room hrk hrl (markLines_len _ _) hl hc hlen, hb⟩

set_option maxRecDepth 100000 in
set_option maxHeartbeats 1000000 in
theorem heldTextLineS_c {o : Bool} {e : TypeId} {xs : List PLine} {v : Value} {F : List Nat} (w : World) (s : Nat) (h : (pLines e).rep o w (markLines xs s) [v] F) (hx : xs.length ≤ 1048576) (hxe : ∀ l ∈ xs, l.length ≤ 1048576) (hs0 : 0 < s) (hs : s + wordsIn xs ≤ 10000000) :
 Calls Tryz.prog 102 #[v, .int .i64 s] w fun e' w' => e' = .returned (.int .i64 ((s + wordsIn xs : Nat) : Int)) ∧ Below w.heap.size w w' := by
 obtain ⟨A, c, rfl, hc1, hc2, hr⟩ := pLines_open h
 rw [markLines_len] at hc1 ⊢
 have hr' : ∀ k (hk : k < xs.length), ∃ b off u Fk, A = some ⟨b, off, none⟩ ∧ b < w.heap.size ∧ (strs 9).rep o w (markS xs[k].length (s + wordsIn (xs.take k))) [u] Fk ∧ w.cell? ⟨b, off + k, none⟩ = some u := by
  intro k hk
  obtain ⟨b, off, u, Fk, hA, hb, _, hrep, _, hcell⟩ := hr k (by rw [markLines_len]; exact hk)
  rw [markLines_get hk] at hrep
  exact ⟨b, off, u, Fk, hA, hb, hrep, hcell⟩
 clear hr h
 go_enter Tryz.func102, Tryz.ntmps102
 go_wp2_with fail
 go_loopw [1, 5] (fun m i wr => ∃ k : Nat, k ≤ xs.length ∧ i = .int .i64 k ∧ m = .int .i64 ((s + wordsIn (xs.take k) : Nat) : Int) ∧ Below w.heap.size w wr) (fun _ i _ => xs.length - (intOf i).toNat)
 case atStart => exact ⟨0, Nat.zero_le _, rfl, by simp [wordsIn], Below.refl _ _⟩
 case round =>
  obtain ⟨k, hk, rfl, rfl, hb⟩ := hrel
  have hbs := hb.size
  by_cases hlt : k < xs.length
  · obtain ⟨b, off, u1, Fk, rfl, hbb, R1, h0⟩ := hr' k hlt
    have hwt := wordsIn_take hlt
    have hwk := wordsIn_le (xs := xs) k
    have hwk1 := wordsIn_le (xs := xs) (k + 1)
    have L1 := hxe _ (List.getElem_mem hlt)
    rw [← hb.cell (p := ⟨b, _, none⟩) hbb] at h0
    obtain ⟨A1, k1, rfl⟩ := slice_len R1
    have HR := Lib.hid (R1.below hb)
    clear hr' R1
    go_wp2_with (go_at_call 67; refine (heldStringS_c _ _ HR.out L1 (by omega) (by omega)).mono ?_; rintro e' w1 ⟨rfl, hb1⟩)
    go_roundw
    case rel => exact ⟨k + 1, by omega, by go_num, by rw [hwt]; go_num, hb.trans (hb1.mono hbs)⟩
    case measure => simp [intOf]; omega
  · obtain rfl : k = xs.length := by omega
    go_wp2_with fail
    go_ret
    rw [List.take_length]
    exact ⟨rfl, hb⟩
end Go.Proofs.YtkfadfddhbpngaaGreat
