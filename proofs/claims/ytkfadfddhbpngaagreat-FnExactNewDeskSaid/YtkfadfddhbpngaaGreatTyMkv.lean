/- The law's own mark and held over lists of templates, held over lists of strokes. Conditions: none. -/
import Derived.Test.YtkfadfddhbpngaaGreatTyTempv
import Derived.Test.YtkfadfddhbpngaaGreatTyStroke4v
import Derived.Test.YtkfadfddhbpngaaGreatTyEntryv
import Derived.Test.YtkfadfddhbpngaaGreatTyBigramv
namespace Go.Proofs.YtkfadfddhbpngaaGreat
open Go Go.RowKit


/-- The marks that templates take. -/
def tempsIn (xs : List PTemp) : Nat := (xs.map fun t : PTemp => 1 + t.feats.length * 3).sum
/-- The marks from number s on. -/
def markTemps : List PTemp → Nat → List PTemp
 | [], _ => []
 | t :: r, s => ⟨markB s, markPFeat t.feats.length (s + 1)⟩ :: markTemps r (s + (1 + t.feats.length * 3))
theorem markTemps_len : ∀ (xs : List PTemp) (s : Nat), (markTemps xs s).length = xs.length
 | [], _ => rfl
 | l :: r, s => by simp [markTemps, markTemps_len r]
theorem tempsIn_append (xs ys : List PTemp) : tempsIn (xs ++ ys) = tempsIn xs + tempsIn ys := by simp [tempsIn]
theorem markTemps_append : ∀ (xs ys : List PTemp) (s : Nat), markTemps (xs ++ ys) s = markTemps xs s ++ markTemps ys (s + tempsIn xs)
 | [], _, _ => by simp [markTemps, tempsIn]
 | l :: r, ys, s => by
  simp only [List.cons_append, markTemps, markTemps_append r ys]
  congr 2
  simp [tempsIn]; congr 1; omega
theorem tempsIn_take {xs : List PTemp} {k : Nat} (h : k < xs.length) : tempsIn (xs.take (k + 1)) = tempsIn (xs.take k) + (1 + xs[k].feats.length * 3) := by
 rw [List.take_succ_eq_append_getElem h, tempsIn_append]; simp [tempsIn]
theorem tempsIn_le {xs : List PTemp} (k : Nat) : tempsIn (xs.take k) ≤ tempsIn xs := by
 have := tempsIn_append (xs.take k) (xs.drop k)
 rw [List.take_append_drop] at this; omega
theorem markTemps_take {xs : List PTemp} {k : Nat} (s : Nat) (h : k < xs.length) : markTemps (xs.take (k + 1)) s = markTemps (xs.take k) s ++ [⟨markB (s + tempsIn (xs.take k)), markPFeat xs[k].feats.length (s + tempsIn (xs.take k) + 1)⟩] := by
 rw [List.take_succ_eq_append_getElem h, markTemps_append]; rfl
theorem markTemps_get : ∀ {xs : List PTemp} {s k : Nat} (h : k < xs.length), (markTemps xs s)[k]'(by rw [markTemps_len]; exact h) = ⟨markB (s + tempsIn (xs.take k)), markPFeat xs[k].feats.length (s + tempsIn (xs.take k) + 1)⟩
 | l :: r, s, 0, _ => by simp [markTemps, tempsIn]
 | l :: r, s, k + 1, h => by
  simp only [markTemps, List.getElem_cons_succ, List.take_succ_cons]
  rw [markTemps_get (by simpa using h)]
  have e : s + (1 + l.feats.length * 3) + tempsIn (r.take k) = s + tempsIn (l :: r.take k) := by simp [tempsIn]; omega
  rw [e]
theorem markFeatS_i {e : TypeId} {xs : List PFeat} {v : Value} {F : List Nat} (w : World) (h : (pFeats e).rep true w xs [v] F) (hx : xs.length ≤ 1048576) (n : Int) (s : Nat) (hn : n = (s : Int)) (hs0 : 0 < s) (hs : s ≤ 10000000) :
 Calls Tryz.prog 190 #[v, .int .i64 n] w fun e' w' => e' = .returned (.int .i64 ((s : Int) + (xs.length : Int) * 3)) ∧ (pFeats e).rep true w' (markPFeat xs.length s) [v] F ∧ Only F w w' := by
 subst hn; exact markFeatS_c w h hx s hs0 hs
theorem heldFeatS_i {o : Bool} {e : TypeId} {n : Nat} {v : Value} {F : List Nat} (w : World) (m : Int) (s : Nat) (hm : m = (s : Int)) (h : (pFeats e).rep o w (markPFeat n s) [v] F) (hx : n ≤ 1048576) (hs0 : 0 < s) (hs : s ≤ 10000000) :
 Calls Tryz.prog 222 #[v, .int .i64 m] w fun e' w' => e' = .returned (.int .i64 ((s : Int) + (n : Int) * 3)) ∧ Below w.heap.size w w' := by
 subst hm; exact heldFeatS_c w s h hx hs0 hs
set_option maxRecDepth 100000 in
set_option maxHeartbeats 1000000 in
theorem markTemplateS_c {pe e : TypeId} {xs : List PTemp} {v : Value} {F : List Nat} (w : World) (h : (pTemps pe e).rep true w xs [v] F) (hnd : F.Nodup) (hx : xs.length ≤ 1048576) (hxe : ∀ l ∈ xs, l.feats.length ≤ 1048576) (s : Nat) (hs0 : 0 < s) (hs : s + tempsIn xs ≤ 10000000) :
 Calls Tryz.prog 129 #[v, .int .i64 s] w fun e' w' => e' = .returned (.int .i64 ((s + tempsIn xs : Nat) : Int)) ∧ (pTemps pe e).rep true w' (markTemps xs s) [v] F ∧ Only F w w' := by
 by_cases hn : xs.length = 0
 · obtain ⟨A, c, hv, hc1, hc2, hr⟩ := slice_open h
   have hxs : xs = [] := List.eq_nil_of_length_eq_zero hn
   subst hxs
   subst hv
   clear hn hr hx hc1
   go_enter Tryz.func129, Tryz.ntmps129
   go_wp2_with fail
   refine wp_loop_rounds 1 ?_; rw [rounds_succ]
   go_wp2_with fail
   go_ret
   exact ⟨ret_int (by simp [tempsIn]), h, Only.refl _ _⟩
 · obtain ⟨g, c, cs, rest, G, rfl, hl, hc, hrow, hrp, hlen, rfl⟩ := row_of_slice h (by omega)
   have hgl := hrow.lt
   have hgG : g ∉ G := (List.nodup_cons.1 hnd).1
   have hGG : G.Nodup := (List.nodup_cons.1 hnd).2
   clear h hnd
   go_enter Tryz.func129, Tryz.ntmps129
   go_wp2_with fail
   go_loopw [1, 5] (fun m i wr => ∃ k : Nat, k ≤ xs.length ∧ i = .int .i64 k ∧ m = .int .i64 ((s + tempsIn (xs.take k) : Nat) : Int) ∧ ∃ cs', Row wr g e (cs' ++ rest) ∧ repL (pTemp pe) true wr (markTemps (xs.take k) s ++ xs.drop k) cs' G ∧ Only (g :: G) w wr) (fun _ i _ => xs.length - (intOf i).toNat)
   case atStart => exact ⟨0, Nat.zero_le _, rfl, by simp [tempsIn], cs, hrow, by simpa [markTemps] using hrp, Only.refl _ _⟩
   case round =>
    obtain ⟨k, hk, rfl, rfl, cs', hrk, hrl, hb⟩ := hrel
    have hbs := hb.size
    by_cases hlt : k < xs.length
    · have hwt := tempsIn_take hlt
      have hwk := tempsIn_le (xs := xs) k
      have hwk1 := tempsIn_le (xs := xs) (k + 1)
      have L1 := hxe _ (List.getElem_mem hlt)
      rw [List.drop_eq_getElem_cons hlt, ← List.singleton_append] at hrl
      obtain ⟨c1, c', F1, F', rfl, rfl, h1, h'⟩ := repL_split hrl
      obtain ⟨ck, c2, Fk, F2, rfl, rfl, hk', h2⟩ := repL_split h'
      have hrk' := repL_single.1 hk'
      obtain ⟨u1, rfl, hls, hru⟩ := pTemp_rep.1 hrk'
      have hpl : c1.length = k * 2 := by
       have := repL_len h1
       rw [markTemps_len, List.length_take, Nat.min_eq_left (by omega)] at this
       rw [this]; rfl
      rw [List.append_assoc] at hrk
      have h00 : wr.cell? ⟨g, k * 2, none⟩ = some (.string xs[k].label) := hrk.cell' (by rw [List.getElem?_append_right (by omega), hpl, Nat.sub_self]; rfl)
      have h01 : wr.cell? ⟨g, k * 2 + 1, none⟩ = some u1 := hrk.cell' (by rw [List.getElem?_append_right (by omega), hpl, Nat.add_sub_cancel_left]; rfl)
      have hfz := hrk.frozen
      have hgw : g < wr.heap.size := hrk.lt
      have N1 := List.nodup_append.1 hGG
      have N2 := List.nodup_append.1 N1.2.1
      have d1 : ∀ x ∈ F1, x ∉ Fk := fun x hx hx2 => N1.2.2 x hx x (by simp [hx2]) rfl
      have d2 : ∀ x ∈ F2, x ∉ Fk := fun x hx hx2 => N2.2.2 x hx2 x hx rfl
      have dg : g ∉ Fk := fun hx => hgG (by simp [hx])
      obtain ⟨A1, k1, rfl⟩ := slice_len hru
      have HM := Lib.hid (markTemps_take s hlt)
      have HN := Lib.hid hn
      have HE := Lib.hid hlen
      have HP := Lib.hid hrp
      have HW := Lib.hid hrow
      have H1 := Lib.hid h1
      have H2 := Lib.hid h2
      have HK := Lib.hid hru
      have HRK := Lib.hid hrk
      have HPL := Lib.hid hpl
      have HG := Lib.hid hgG
      have HGG := Lib.hid hGG
      have hgk : g ∉ F1 ++ (Fk ++ F2) := hgG
      clear hrl h' hk' h1 h2 hrk' hn hlen hrp hrow N1 N2 hrk hpl hgG hGG hru hls
      go_wp2_with fail
      refine (markText_i _ _ (by omega) (by omega)).mono ?_
      rintro e' w0 ⟨rfl, b0⟩
      have RW0 := HRK.out.later b0
      obtain ⟨⟨v0, hv0⟩, hf0⟩ := RW0.can (i := k * 2) (by simp [HPL.out])
      have R1 := RW0.put (i := k * 2) (j := 0) (by rw [HPL.out]; rfl) (.string (markB (s + tempsIn (xs.take k))))
      have h02 := R1.cell' (i := k * 2 + 1) (u := .slice A1 xs[k].feats.length k1) (by rw [List.getElem?_append_right (by rw [HPL.out]; omega), HPL.out, show k * 2 + 1 - k * 2 = 1 from by omega]; rfl)
      have hgF1 : g ∉ F1 := fun hx => hgk (by simp [hx])
      have hgF2 : g ∉ F2 := fun hx => hgk (by simp [hx])
      have HK1 := Lib.hid ((HK.out.below b0).setCell (p := ⟨g, k * 2, none⟩) dg (.string (markB (s + tempsIn (xs.take k)))))
      have HR1 := Lib.hid R1
      clear R1
      go_wp2_with fail
      refine (markFeatS_i _ HK1.out L1 _ (s + tempsIn (xs.take k) + 1) (by omega) (by omega) (by omega)).mono ?_
      rintro e' w1 ⟨rfl, r1, o1⟩
      clear h02
      go_wp2_with fail
      go_roundw
      case rel =>
       refine ⟨k + 1, by omega, by go_num, by rw [hwt]; go_num, c1 ++ ([.string (markB (s + tempsIn (xs.take k))), .slice A1 xs[k].feats.length k1] ++ c2), by rw [List.append_assoc]; exact HR1.out.onl o1 dg, ?_, ((hb.trans (Only.of_below b0)).set (p := ⟨g, k * 2, none⟩) (by simp) _).trans (o1.mono (by intro x hx; simp [hx]))⟩
       rw [HM.out, List.append_assoc]
       exact repL_append (repL_only (repL_set (repL_below H1.out b0) hgF1 _) o1 d1) (repL_append (repL_single.2 (pTemp_rep.2 ⟨_, rfl, by have := markB_size (s + tempsIn (xs.take k)); show (markB (s + tempsIn (xs.take k))).size ≤ 9223372036854775807; omega, r1⟩)) (repL_only (repL_set (repL_below H2.out b0) hgF2 _) o1 d2))
      case measure => simp [intOf]; omega
    · obtain rfl : k = xs.length := by omega
      have HN := Lib.hid hn
      clear hn
      go_wp2_with fail
      go_ret
      rw [List.drop_length, List.append_nil] at hrl
      rw [List.take_length] at hrl ⊢
      exact ⟨rfl, slice_of_room hrk hrl (markTemps_len _ _) hl hc (by rw [← hlen, List.length_append, List.length_append, repL_len hrl, repL_len hrp, markTemps_len]), hb⟩
set_option maxRecDepth 100000 in
set_option maxHeartbeats 1000000 in
theorem heldTemplateS_c {o : Bool} {pe e : TypeId} {xs : List PTemp} {v : Value} {F : List Nat} (w : World) (s : Nat) (h : (pTemps pe e).rep o w (markTemps xs s) [v] F) (hx : xs.length ≤ 1048576) (hxe : ∀ l ∈ xs, l.feats.length ≤ 1048576) (hs0 : 0 < s) (hs : s + tempsIn xs ≤ 10000000) :
 Calls Tryz.prog 191 #[v, .int .i64 s] w fun e' w' => e' = .returned (.int .i64 ((s + tempsIn xs : Nat) : Int)) ∧ Below w.heap.size w w' := by
 obtain ⟨A, c, rfl, hc1, hc2, hr⟩ := pTemps_open h
 rw [markTemps_len] at hc1 ⊢
 have hr' : ∀ k (hk : k < xs.length), ∃ b off u Fk, A = some ⟨b, off, none⟩ ∧ b < w.heap.size ∧ (pFeats pe).rep o w (markPFeat xs[k].feats.length (s + tempsIn (xs.take k) + 1)) [u] Fk ∧ w.cell? ⟨b, off + k * 2, none⟩ = some (.string (markB (s + tempsIn (xs.take k)))) ∧ w.cell? ⟨b, off + k * 2 + 1, none⟩ = some u := by
  intro k hk
  obtain ⟨b, off, u, Fk, hA, hb, _, _, hrep, _, c0, c1⟩ := hr k (by rw [markTemps_len]; exact hk)
  rw [markTemps_get hk] at hrep c0
  exact ⟨b, off, u, Fk, hA, hb, hrep, c0, c1⟩
 clear hr h
 go_enter Tryz.func191, Tryz.ntmps191
 go_wp2_with fail
 go_loopw [1, 5] (fun m i wr => ∃ k : Nat, k ≤ xs.length ∧ i = .int .i64 k ∧ m = .int .i64 ((s + tempsIn (xs.take k) : Nat) : Int) ∧ Below w.heap.size w wr) (fun _ i _ => xs.length - (intOf i).toNat)
 case atStart => exact ⟨0, Nat.zero_le _, rfl, by simp [tempsIn], Below.refl _ _⟩
 case round =>
  obtain ⟨k, hk, rfl, rfl, hb⟩ := hrel
  have hbs := hb.size
  by_cases hlt : k < xs.length
  · obtain ⟨b, off, u1, Fk, rfl, hbb, R1, h0, h1⟩ := hr' k hlt
    have hwt := tempsIn_take hlt
    have hwk := tempsIn_le (xs := xs) k
    have hwk1 := tempsIn_le (xs := xs) (k + 1)
    have L1 := hxe _ (List.getElem_mem hlt)
    have hbw : b < wr.heap.size := Nat.lt_of_lt_of_le hbb hbs
    rw [← hb.cell (p := ⟨b, _, none⟩) hbb] at h0 h1
    obtain ⟨A1, k1, rfl⟩ := slice_len R1
    have HR := Lib.hid (R1.below hb)
    have HO := Lib.hid hr'
    clear hr' R1
    have et : ((s : Int) + (tempsIn (xs.take k) : Int)).toNat = s + tempsIn (xs.take k) := by omega
    have gn : (ByteArray.toList (markB (s + tempsIn (xs.take k))) != ByteArray.toList (markB ((s : Int) + (tempsIn (xs.take k) : Int)).toNat)) = false := by rw [et]; simp
    go_wp2_with fail
    go_region_held3 (fun w' => w'.cell? ⟨b, off + k * 2, none⟩ = some (.string (markB (s + tempsIn (xs.take k))))) (first | exact h0 | exact (Below.cell (p := ⟨b, _, none⟩) b0 (by simpa using hbw)).trans h0) (first | (go_at_call 133; refine (markText_i _ _ (by omega) (by omega)).mono ?_; rintro e' w0 ⟨rfl, b0⟩))
    have q1 : w0.cell? ⟨b, off + k * 2 + 1, none⟩ = some (.slice A1 (markPFeat xs[k].feats.length (s + tempsIn (xs.take k) + 1)).length k1) := (Below.cell (p := ⟨b, _, none⟩) b0 (by simpa using hbw)).trans h1
    have bs0 := b0.size
    have HR0 := Lib.hid (HR.out.drew.below b0)
    clear h0 h1
    go_wp2_with fail
    refine (heldFeatS_i _ _ (s + tempsIn (xs.take k) + 1) (by omega) HR0.out L1 (by omega) (by omega)).mono ?_
    rintro e' w1 ⟨rfl, b1⟩
    have n1 : ¬ ((s + tempsIn (xs.take k) + 1 : Nat) : Int) + (xs[k].feats.length : Int) * 3 < 0 := by omega
    go_wp2_with fail
    go_roundw
    case rel => exact ⟨k + 1, by omega, by go_num, by rw [hwt]; go_num, bt (bt hb.drew b0) b1⟩
    case measure => simp [intOf]; omega
  · obtain rfl : k = xs.length := by omega
    go_wp2_with fail
    go_ret
    rw [List.take_length]
    exact ⟨rfl, hb⟩
theorem heldPointS_i {o : Bool} {e : TypeId} {n : Nat} {v : Value} {F : List Nat} (w : World) (m : Int) (s : Nat) (hm : m = (s : Int)) (h : (pPoints e).rep o w (markPPoint n s) [v] F) (hx : n ≤ 1048576) (hs0 : 0 < s) (hs : s ≤ 10000000) :
 Calls Tryz.prog 66 #[v, .int .i64 m] w fun e' w' => e' = .returned (.int .i64 ((s : Int) + (n : Int) * 3)) ∧ Below w.heap.size w w' := by
 subst hm; exact heldPointS_c w s h hx hs0 hs
set_option maxRecDepth 100000 in
set_option maxHeartbeats 1000000 in
theorem heldStrokeS_c {o : Bool} {pe e : TypeId} {xs : List PStroke} {v : Value} {F : List Nat} (w : World) (s : Nat) (h : (pStrokes pe e).rep o w (markStrokes xs s) [v] F) (hx : xs.length ≤ 1048576) (hxe : ∀ l ∈ xs, l.length ≤ 1048576) (hs0 : 0 < s) (hs : s + pointsIn xs ≤ 10000000) :
 Calls Tryz.prog 137 #[v, .int .i64 s] w fun e' w' => e' = .returned (.int .i64 ((s + pointsIn xs : Nat) : Int)) ∧ Below w.heap.size w w' := by
 obtain ⟨A, c, rfl, hc1, hc2, hr⟩ := pStrokes_open h
 rw [markStrokes_len] at hc1 ⊢
 have hr' : ∀ k (hk : k < xs.length), ∃ b off u Fk, A = some ⟨b, off, none⟩ ∧ b < w.heap.size ∧ (pPoints pe).rep o w (markPPoint xs[k].length (s + pointsIn (xs.take k))) [u] Fk ∧ w.cell? ⟨b, off + k, none⟩ = some u := by
  intro k hk
  obtain ⟨b, off, u, Fk, hA, hb, _, hrep, _, hcell⟩ := hr k (by rw [markStrokes_len]; exact hk)
  rw [markStrokes_get hk] at hrep
  exact ⟨b, off, u, Fk, hA, hb, hrep, hcell⟩
 clear hr h
 go_enter Tryz.func137, Tryz.ntmps137
 go_wp2_with fail
 go_loopw [1, 5] (fun m i wr => ∃ k : Nat, k ≤ xs.length ∧ i = .int .i64 k ∧ m = .int .i64 ((s + pointsIn (xs.take k) : Nat) : Int) ∧ Below w.heap.size w wr) (fun _ i _ => xs.length - (intOf i).toNat)
 case atStart => exact ⟨0, Nat.zero_le _, rfl, by simp [pointsIn], Below.refl _ _⟩
 case round =>
  obtain ⟨k, hk, rfl, rfl, hb⟩ := hrel
  have hbs := hb.size
  by_cases hlt : k < xs.length
  · obtain ⟨b, off, u1, Fk, rfl, hbb, R1, h0⟩ := hr' k hlt
    have hwt := pointsIn_take hlt
    have hwk := pointsIn_le (xs := xs) k
    have hwk1 := pointsIn_le (xs := xs) (k + 1)
    have L1 := hxe _ (List.getElem_mem hlt)
    rw [← hb.cell (p := ⟨b, _, none⟩) hbb] at h0
    obtain ⟨A1, k1, rfl⟩ := slice_len R1
    have HR := Lib.hid (R1.below hb)
    clear hr' R1
    go_wp2_with fail
    refine (heldPointS_i _ _ (s + pointsIn (xs.take k)) (by omega) HR.out L1 (by omega) (by omega)).mono ?_
    rintro e' w1 ⟨rfl, hb1⟩
    have n1 : ¬ ((s + pointsIn (xs.take k) : Nat) : Int) + (xs[k].length : Int) * 3 < 0 := by omega
    go_wp2_with fail
    go_roundw
    case rel => exact ⟨k + 1, by omega, by go_num, by rw [hwt]; go_num, hb.trans (hb1.mono hbs)⟩
    case measure => simp [intOf]; omega
  · obtain rfl : k = xs.length := by omega
    go_wp2_with fail
    go_ret
    rw [List.take_length]
    exact ⟨rfl, hb⟩
end Go.Proofs.YtkfadfddhbpngaaGreat
