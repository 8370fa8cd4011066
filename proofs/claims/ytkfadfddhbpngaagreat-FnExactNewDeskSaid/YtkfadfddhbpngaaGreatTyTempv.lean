/- The type Template: its data, how it lies in memory, and the law's own to, eq and sz over it. Conditions: none. -/
import Derived.Test.YtkfadfddhbpngaaGreatRows
import Derived.Test.YtkfadfddhbpngaaGreatTyFeatv
namespace Go.Proofs.YtkfadfddhbpngaaGreat
open Go Go.RowKit

structure PTemp where
 label : ByteArray
 feats : List PFeat
 deriving DecidableEq
def pTemp (ep : TypeId) : Ty PTemp := (str.prod (pFeats ep)).via fun t => (t.label, t.feats)
def pTemps (ep e : TypeId) : Ty (List PTemp) := (pTemp ep).slice e
theorem pTemp_rep {ep : TypeId} {o : Bool} {w : World} {t : PTemp} {cs : List Value} {F : List Nat} : (pTemp ep).rep o w t cs F ↔ ∃ v, cs = [.string t.label, v] ∧ t.label.size ≤ maxLen ∧ (pFeats ep).rep o w t.feats [v] F := by
 constructor
 · rintro ⟨c1, c2, F1, F2, rfl, rfl, ⟨rfl, rfl, h1⟩, h2⟩
   obtain ⟨A, c, ec, F0, F3, rfl, _⟩ := id h2
   exact ⟨_, rfl, h1, by simpa using h2⟩
 · rintro ⟨v, rfl, h1, h2⟩
   exact ⟨[.string t.label], [v], [], F, rfl, rfl, ⟨rfl, rfl, h1⟩, h2⟩
theorem pTemps_open {ep : TypeId} {o : Bool} {w : World} {e : TypeId} {xs : List PTemp} {v : Value} {F : List Nat} (h : (pTemps ep e).rep o w xs [v] F) :
 ∃ A c, v = .slice A xs.length c ∧ xs.length ≤ c ∧ c ≤ maxLen ∧ ∀ k (hk : k < xs.length), ∃ b off u Fk, A = some ⟨b, off, none⟩ ∧ b < w.heap.size ∧ b ∈ F ∧
  xs[k].label.size ≤ maxLen ∧ (pFeats ep).rep o w xs[k].feats [u] Fk ∧ (∀ x ∈ Fk, x ∈ F) ∧ w.cell? ⟨b, off + k * 2, none⟩ = some (.string xs[k].label) ∧ w.cell? ⟨b, off + k * 2 + 1, none⟩ = some u := by
 obtain ⟨A, c, hv, h1, h2, h3⟩ := slice_open h
 refine ⟨A, c, hv, h1, h2, fun k hk => ?_⟩
 obtain ⟨b, off, ck, Fk, hA, hb, hin, hr, hF, hc⟩ := h3 k hk
 obtain ⟨u, rfl, hl, hr2⟩ := pTemp_rep.1 hr
 exact ⟨b, off, u, Fk, hA, hb, hin, hl, hr2, hF, hc 0 _ rfl, by rw [Nat.add_assoc]; exact hc 1 _ rfl⟩

theorem Row.onl {w w' : World} {F : List Nat} {g : Nat} {e : TypeId} {cs : List Value} (h : Row w g e cs) (ho : Only F w w') (hg : g ∉ F) : Row w' g e cs := (ho.block g h.lt hg).trans h
theorem fresh_join {B N : Nat} {F G : List Nat} (h : Fresh B F) (hl : ∀ x ∈ F, x < N) (k : Fresh N G) (hB : B ≤ N) : Fresh B (F ++ G) :=
 ⟨List.nodup_append.2 ⟨h.1, k.1, fun x h1 y h2 e => by subst e; have := hl x h1; have := k.2 x h2; omega⟩, fun x hx => by
  rcases List.mem_append.1 hx with h1 | h1
  · exact h.2 x h1
  · have := k.2 x h1; omega⟩
set_option maxHeartbeats 400000 in
theorem eqTemplate_c {oa ob : Bool} {ea eb : TypeId} {l m : ByteArray} {xs ys : List PFeat} {v u : Value} {F G : List Nat} (w : World) (h : (pFeats ea).rep oa w xs [v] F) (h' : (pFeats eb).rep ob w ys [u] G) (hx : xs.length ≤ 1048576) (hy : ys.length ≤ 1048576) :
 Calls Tryz.prog 187 #[.agg #[.string l, v], .agg #[.string m, u]] w fun e w' => e = .returned (.bool (decide (l = m) && decide (xs = ys))) ∧ Below w.heap.size w w' := by
 have H := Lib.hid (fun w' (q : (pFeats ea).rep oa w' xs [v] F) (q' : (pFeats eb).rep ob w' ys [u] G) => eqFeatS_c w' q q' hx hy)
 have hb : Below w.heap.size w ((w.alloc (.cells #[.string l, v] 215)).alloc (.cells #[.string m, u] 215)) := ((Below.refl _ _).alloc (Nat.le_refl _) _).alloc (by simp) _
 have g : (!(l.toList == m.toList)) = !(decide (l = m)) := by rw [str_eq]
 generalize decide (l = m) = d at g ⊢
 generalize decide (xs = ys) = d' at H ⊢
 obtain ⟨A1, k1, rfl⟩ := slice_len h
 obtain ⟨A2, k2, rfl⟩ := slice_len h'
 cases d
 · go_enter Tryz.func187, Tryz.ntmps187
   go_wp2_with fail
   go_ret
   exact ⟨rfl, hb⟩
 · cases d'
   all_goals
    go_enter Tryz.func187, Tryz.ntmps187
    go_wp2_with fail
    refine (H.out _ ((h.alloc _).alloc _) ((h'.alloc _).alloc _)).mono ?_
    rintro e w1 ⟨rfl, b1⟩
    go_wp2_with fail
    go_ret
    exact ⟨rfl, hb.trans (b1.mono hb.size)⟩
set_option maxRecDepth 100000 in
set_option maxHeartbeats 1000000 in
theorem eqTemplateS_c {oa ob : Bool} {pa pb ea eb : TypeId} {xs ys : List PTemp} {v u : Value} {F G : List Nat} (w : World) (h : (pTemps pa ea).rep oa w xs [v] F) (h' : (pTemps pb eb).rep ob w ys [u] G) (hx : xs.length ≤ 1048576) (hy : ys.length ≤ 1048576) (hxe : ∀ l ∈ xs, l.feats.length ≤ 1048576) (hye : ∀ l ∈ ys, l.feats.length ≤ 1048576) :
 Calls Tryz.prog 126 #[v, u] w fun e w' => e = .returned (.bool (decide (xs = ys))) ∧ Below w.heap.size w w' := by
 obtain ⟨A, c, rfl, hc1, hc2, hr⟩ := pTemps_open h
 obtain ⟨B, d, rfl, hd1, hd2, hs⟩ := pTemps_open h'
 clear h h'
 by_cases hl : xs.length = ys.length
 · have hne : ((xs.length : Int) != (ys.length : Int)) = false := by simp [hl]
   have HL := Lib.hid hl
   clear hl
   go_enter Tryz.func126, Tryz.ntmps126
   go_wp2_with fail
   go_loopw [5] (fun i wr => ∃ k : Nat, k ≤ xs.length ∧ i = .int .i64 k ∧ (∀ j (hj : j < xs.length) (hj' : j < ys.length), j < k → xs[j] = ys[j]) ∧ Below w.heap.size w wr) (fun i _ => xs.length - (intOf i).toNat)
   case atStart => exact ⟨0, Nat.zero_le _, rfl, fun _ _ _ h => by omega, Below.refl _ _⟩
   case round =>
    obtain ⟨k, hk, rfl, hall, hb⟩ := hrel
    have hbs := hb.size
    by_cases hlt : k < xs.length
    · have hlt' : k < ys.length := by have := HL.out; omega
      obtain ⟨b, off, v1, F1, rfl, hbb, _, _, R1, _, h0, h1⟩ := hr k hlt
      obtain ⟨b', off', v2, F2, rfl, hbb', _, _, R2, _, g0, g1⟩ := hs k hlt'
      rw [← hb.cell (p := ⟨b, _, none⟩) hbb] at h0 h1
      rw [← hb.cell (p := ⟨b', _, none⟩) hbb'] at g0 g1
      have e2 : (xs[k] = ys[k]) = (xs[k].label = ys[k].label ∧ xs[k].feats = ys[k].feats) := by
       rw [eq_iff_iff]; constructor
       · intro h; rw [h]; exact ⟨rfl, rfl⟩
       · intro h; cases hx : xs[k]; cases hy : ys[k]; rw [hx, hy] at h; simpa using h
      have hd : (decide (xs[k].label = ys[k].label) && decide (xs[k].feats = ys[k].feats)) = decide (xs[k] = ys[k]) := by rw [← Bool.decide_and]; exact decide_eq_decide.2 (by rw [e2])
      have L1 := hxe _ (List.getElem_mem hlt)
      have L2 := hye _ (List.getElem_mem hlt')
      have C := fun (w' : World) (q1 : (pFeats pa).rep oa w' xs[k].feats [v1] F1) (q2 : (pFeats pb).rep ob w' ys[k].feats [v2] F2) => eqTemplate_c (l := xs[k].label) (m := ys[k].label) w' q1 q2 L1 L2
      rw [hd] at C
      have Q1 := Lib.hid (R1.below hb)
      have Q2 := Lib.hid (R2.below hb)
      have HA := Lib.hid hall
      obtain ⟨A1, k1, rfl⟩ := slice_len R1
      obtain ⟨A2, k2, rfl⟩ := slice_len R2
      clear hr hs R1 R2 e2 hd hall
      by_cases heq : xs[k] = ys[k]
      · rw [decide_eq_true heq] at C
        have HC := Lib.hid C
        have HK := Lib.hid heq
        clear C heq
        go_wp2_with fail
        go_still_tail 8, (by kernel_rfl)
        go_wp2_with (go_at_call 187; refine (HC.out _ Q1.out.drew Q2.out.drew).mono ?_; rintro e w1 ⟨rfl, b1⟩)
        go_roundw
        case rel => exact ⟨k + 1, by omega, by go_num, fun j hj hj' h => by
         rcases Nat.lt_or_eq_of_le (Nat.le_of_lt_succ h) with h | h
         · exact HA.out j hj hj' h
         · subst h; exact HK.out, hb.drew.trans (b1.mono hbs)⟩
        case measure => simp [intOf]; omega
      · rw [decide_eq_false heq] at C
        have HC := Lib.hid C
        have hne2 : ¬ xs = ys := fun e => heq (by subst e; rfl)
        have HN := Lib.hid hne2
        clear hne2 C heq
        go_wp2_with fail
        go_still_tail 8, (by kernel_rfl)
        go_wp2_with (go_at_call 187; refine (HC.out _ Q1.out.drew Q2.out.drew).mono ?_; rintro e w1 ⟨rfl, b1⟩)
        go_ret
        exact ⟨by simp [HN.out], hb.drew.trans (b1.mono hbs)⟩
    · obtain rfl : k = xs.length := by omega
      have heq : xs = ys := List.ext_getElem HL.out (fun j h1 h2 => hall j h1 h2 h1)
      have HE := Lib.hid heq
      clear heq hr hs
      go_wp2_with fail
      go_ret
      exact ⟨by simp [← HE.out], hb⟩
 · have hne : ((xs.length : Int) != (ys.length : Int)) = true := by rw [bne_iff_ne]; omega
   have hxy : ¬ xs = ys := fun e => hl (by rw [e])
   have HL := Lib.hid hxy
   clear hl hxy
   go_enter Tryz.func126, Tryz.ntmps126
   go_wp2_with fail
   go_ret
   exact ⟨by simp [HL.out], Below.refl _ _⟩
def szTemp (t : PTemp) : Nat := t.label.size + t.feats.length
def szTemps (xs : List PTemp) : Nat := xs.length + (xs.map szTemp).sum
theorem szTemps_each {xs : List PTemp} {n : Nat} (h : szTemps xs ≤ n) : xs.length ≤ n ∧ ∀ t ∈ xs, t.label.size ≤ n ∧ t.feats.length ≤ n := by
 unfold szTemps at h
 refine ⟨by omega, fun t ht => ?_⟩
 have : ∀ l : List Nat, ∀ x ∈ l, x ≤ l.sum := by
  intro l
  induction l with
  | nil => simp
  | cons a r ih =>
   intro x hx
   rw [List.sum_cons]
   rcases List.mem_cons.1 hx with rfl | hx
   · omega
   · have := ih x hx; omega
 have := this _ _ (List.mem_map.2 ⟨t, ht, rfl⟩ : szTemp t ∈ xs.map szTemp)
 have e : szTemp t = t.label.size + t.feats.length := rfl
 omega
end Go.Proofs.YtkfadfddhbpngaaGreat
