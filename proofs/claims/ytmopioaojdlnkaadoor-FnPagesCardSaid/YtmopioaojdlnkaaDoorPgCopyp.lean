/- Pages: lines in memory of their own. Conditions: none. -/
import Derived.Test.YtmopioaojdlnkaaDoorPgWordsp
namespace Go.Proofs.YtmopioaojdlnkaaDoor
open Go Go.RowKit
theorem repL_weak {α : Type} {T : Ty α} {o o' : Bool} {w : World} (hT : ∀ {a : α} {cs : List Value} {F : List Nat}, T.rep o w a cs F → T.rep o' w a cs F) : ∀ {xs : List α} {cs : List Value} {F : List Nat}, repL T o w xs cs F → repL T o' w xs cs F
 | [], _, _, h => h
 | _ :: _, _, _, ⟨c1, c2, F1, F2, e1, e2, h1, h2⟩ => ⟨c1, c2, F1, F2, e1, e2, hT h1, repL_weak hT h2⟩
theorem str_flat {o o' : Bool} {w : World} {xs : List ByteArray} {cs : List Value} {G : List Nat} (h : repL str o w xs cs G) : repL str o' w xs cs [] := by
 obtain ⟨rfl, rfl⟩ := repL_strs_inv h
 exact repL_weak (T := str) (o := o) (o' := o') (fun h => h) h
theorem pStep_flat {o o' : Bool} {w : World} {xs : List PStep} {cs : List Value} {G : List Nat} (h : repL pStep o w xs cs G) : repL pStep o' w xs cs [] := by
 obtain ⟨rfl, rfl⟩ := repL_pStep_inv h
 exact repL_weak (T := pStep) (o := o) (o' := o') (fun h => h) h
def Gives {α : Type} (T : Ty α) (a : α) (w : World) (e : Ending) (w' : World) : Prop := ∃ u F, e = .returned u ∧ T.rep true w' a [u] F ∧ Fresh w.heap.size F ∧ Below w.heap.size w w'
theorem below_only' {B : Nat} {a b c : World} {F : List Nat} (h : Below B a b) (ho : Only F b c) (hF : ∀ x ∈ F, B ≤ x) (hB : B ≤ b.heap.size) : Below B a c := h.trans (ho.below hB hF)
set_option maxRecDepth 100000 in
set_option maxHeartbeats 1000000 in
theorem impl_copyLines_c {o : Bool} {e : TypeId} {xs : List PLine} {v : Value} {F : List Nat} (w : World) (h : (pLines e).rep o w xs [v] F) (hx : xs.length ≤ 1048576) (hw : ∀ l ∈ xs, l.length ≤ 1048576) :
 Calls Tryd.prog 45 #[v] w (Gives (pLines 56) xs w) := by
 obtain ⟨A, c, rfl, hc1, hc2, hr⟩ := pLines_open h
 clear h
 go_enter Tryd.func45, Tryd.ntmps45
 go_wp2_with fail
 go_loopw [3, 8] (fun sv i wr => ∃ (k : Nat) (u : Value) (G : List Nat), k ≤ xs.length ∧ i = .int .i64 k ∧ u = sv ∧ (pLines 56).rep true wr (xs.take k) [u] G ∧ Fresh w.heap.size G ∧ Below w.heap.size w wr) (fun _ i _ => xs.length - (intOf i).toNat)
 case atStart => exact ⟨0, _, [], Nat.zero_le _, rfl, rfl, slice_nil _ _ _ _, Fresh.nil _, Below.refl _ _⟩
 case round =>
  obtain ⟨k, u, G, hk, rfl, rfl, hrep, hfr, hb⟩ := hrel
  have hbs := hb.size
  by_cases hlt : k < xs.length
  · obtain ⟨b, off, u1, Fk, rfl, hbb, _, hrk, _, h0⟩ := hr k hlt
    rw [← hb.cell (p := ⟨b, _, none⟩) hbb] at h0
    have hwk := hw _ (List.getElem_mem hlt)
    have RK := Lib.hid (hrk.below hb)
    have HP := Lib.hid hrep
    have HF := Lib.hid hfr
    obtain ⟨A', c', rfl, hl1, hl2, _⟩ := slice_open hrk
    have hlen : ((xs.take k).length : Nat) = k := by rw [List.length_take]; omega
    have HL := Lib.hid hlen
    clear hr hrk hrep hfr hlen
    go_wp2_with fail
    refine (Clone_Str _ (RK.out.alloc _) hwk str_flat).mono ?_
    rintro e w1 ⟨u2, G2, rfl, r2, f2, b2⟩
    obtain ⟨A2, c2, rfl⟩ := slice_len r2
    have hz := b2.size
    simp only [World.size_alloc] at hz
    have RP := (HP.out.alloc (.cells #[.slice A' xs[k].length c'] 56)).below b2
    have f2' : ∀ x ∈ G2, wr.heap.size + 1 ≤ x := fun x hx => by have := f2.2 x hx; simpa using this
    have hnd : (G ++ G2).Nodup := List.nodup_append.2 ⟨HF.out.1, f2.1, fun x h1 y h2 e => by
     subst e
     have := HP.out.blocks x h1; have := f2' x h2; omega⟩
    have hfr2 : Fresh w.heap.size (G ++ G2) := ⟨hnd, fun x hx => by
     rcases List.mem_append.1 hx with h | h
     · exact HF.out.2 x h
     · have := f2' x h; omega⟩
    have HR := Lib.hid RP
    have HY := Lib.hid r2
    have HN := Lib.hid hnd
    have HQ := Lib.hid hfr2
    clear RP r2 hnd hfr2
    have hbz : Below w.heap.size w w1 := (hb.alloc hbs _).trans (b2.mono (by simp; omega))
    have hbzs := hbz.size
    go_wp2_with (at_builtin; go_loud (refine wpList_append_rep (T := pLine) (e := 56) (ys := [xs[k]]) rfl (.tmp 12) (.tmp 17) rfl Tryd.underlying24 Tryd.infoLine rfl (by decide) rfl (HR.out.alloc _) rfl (repL_single.2 (HY.out.alloc _)) (cellsAt_new _ _ _) (by simp) HN.out (by rw [HL.out]; simp [maxLen]; omega) (by rw [HL.out]; simp; omega) ?_); intro v2 w2 F2 r3 o3 q3)
    go_roundw
    case rel =>
     refine ⟨k + 1, v2, F2, by omega, by go_num, rfl, ?_, q3 _ HQ.out (by simp; omega), below_only' (hbz.alloc hbzs _) o3 HF.out.2 (by simp; omega)⟩
     rw [List.take_succ_eq_append_getElem hlt]
     exact r3
    case measure => simp [intOf]; omega
  · obtain rfl : k = xs.length := by omega
    rw [List.take_length] at hrep
    have HP := Lib.hid hrep
    clear hrep hr
    go_wp2_with fail
    go_ret
    exact ⟨_, G, rfl, HP.out, hfr, hb⟩
theorem slice_src {α : Type} {T : Ty α} {e : TypeId} {o : Bool} {w : World} {xs : List α} {A : Option Addr} {n c : Nat} {F : List Nat} (h : (T.slice e).rep o w xs [.slice A n c] F) : ∃ ec G, repL T o w xs ec G ∧ CellsAt w A ec ∧ (∀ b ∈ G, b ∈ F) := by
 obtain ⟨A', c', ec, F0, F1, hv, rfl, hl, hc, hr, hlt, ha, _⟩ := h
 simp only [List.cons.injEq, and_true, Value.slice.injEq] at hv
 obtain ⟨rfl, rfl, rfl⟩ := hv
 refine ⟨ec, F1, hr, fun hp => ?_, fun b hb => by simp [hb]⟩
 have hl2 := repL_len hr
 have h0 : 0 < xs.length := by
  rcases Nat.eq_zero_or_pos xs.length with h | h
  · rw [h, Nat.zero_mul] at hl2; omega
  · exact h
 obtain ⟨b, off, h1, _, h2⟩ := ha h0
 exact ⟨b, off, h1, h2⟩
theorem CellsAt.below {w w' : World} {A : Option Addr} {ec : List Value} (h : CellsAt w A ec) (hb : Below w.heap.size w w') : CellsAt w' A ec := fun hp => by
 obtain ⟨b, off, h1, h2⟩ := h hp
 refine ⟨b, off, h1, fun j u hu => ?_⟩
 have h3 := h2 j u hu
 exact (hb.cell (p := ⟨b, off + j, none⟩) (World.block_lt_of_cell? w _ h3)).trans h3
theorem CellsAt.alloc {w : World} {A : Option Addr} {ec : List Value} (h : CellsAt w A ec) (x : Obj) : CellsAt (w.alloc x) A ec := h.below ((Below.refl _ _).alloc (Nat.le_refl _) x)
theorem CellsAt.drew {w : World} {A : Option Addr} {ec : List Value} (h : CellsAt w A ec) : CellsAt w.drew A ec := h
theorem repL_alloc {α : Type} {T : Ty α} {o : Bool} {w : World} {xs : List α} {cs : List Value} {F : List Nat} (h : repL T o w xs cs F) (x : Obj) : repL T o (w.alloc x) xs cs F := repL_below h ((Below.refl _ _).alloc (Nat.le_refl _) x)
theorem empty_is {α : Type} (T : Ty α) (e : TypeId) (w : World) : (T.slice e).rep true (w.alloc (.cells #[] e)) [] [.slice (some ⟨w.heap.size, 0, none⟩) 0 0] [w.heap.size] := slice_of_row (xs := []) (Row.new w _ _) ⟨rfl, rfl⟩ (by simp [maxLen])
theorem fresh_app {B : Nat} {w : World} {F G : List Nat} (hF : Fresh B F) (hlt : ∀ b ∈ F, b < w.heap.size) (hG : Fresh w.heap.size G) (hB : B ≤ w.heap.size) : Fresh B (F ++ G) :=
 ⟨List.nodup_append.2 ⟨hF.1, hG.1, fun x h1 y h2 e => by subst e; have := hlt x h1; have := hG.2 x h2; omega⟩, fun x hx => by
  rcases List.mem_append.1 hx with h | h
  · exact hF.2 x h
  · have := hG.2 x h; omega⟩
set_option maxRecDepth 100000 in
set_option maxHeartbeats 1000000 in
theorem spec_l27Copy_c {o : Bool} {e : TypeId} {xs : List PLine} {v : Value} {F : List Nat} (w : World) (h : (pLines e).rep o w xs [v] F) (hx : xs.length ≤ 1048576) (hw : ∀ l ∈ xs, l.length ≤ 1048576) :
 Calls Tryd.prog 81 #[v] w (Gives (pLines 56) xs w) := by
 obtain ⟨A, c, rfl, hc1, hc2, hr⟩ := pLines_open h
 clear h
 go_enter Tryd.func81, Tryd.ntmps81
 go_wp2_with fail
 go_loopw [3, 4] (fun sv i wr => ∃ (k : Nat) (u : Value) (G : List Nat), k ≤ xs.length ∧ i = .int .i64 k ∧ u = sv ∧ (pLines 56).rep true wr (xs.take k) [u] G ∧ Fresh w.heap.size G ∧ Below w.heap.size w wr) (fun _ i _ => xs.length - (intOf i).toNat)
 case atStart => exact ⟨0, _, [w.heap.size], Nat.zero_le _, rfl, rfl, empty_is pLine _ _, ⟨by simp, by simp⟩, (Below.refl _ _).alloc (Nat.le_refl _) _⟩
 case round =>
  obtain ⟨k, u, G, hk, rfl, rfl, hrep, hfr, hb⟩ := hrel
  have hbs := hb.size
  by_cases hlt : k < xs.length
  · obtain ⟨b, off, u1, Fk, rfl, hbb, _, hrk, _, h0⟩ := hr k hlt
    rw [← hb.cell (p := ⟨b, _, none⟩) hbb] at h0
    have hwk := hw _ (List.getElem_mem hlt)
    have hrk2 := hrk.below hb
    obtain ⟨A', c', rfl, hl1, hl2, _⟩ := slice_open hrk2
    obtain ⟨ec, Gs, hs1, hs2, _⟩ := slice_src hrk2
    have hlen : ((xs.take k).length : Nat) = k := by rw [List.length_take]; omega
    have HL := Lib.hid hlen
    have HP := Lib.hid hrep
    have HF := Lib.hid hfr
    have HS1 := Lib.hid (str_flat (o' := true) hs1)
    have HS2 := Lib.hid hs2
    have HA := Lib.hid hrk2
    have hbw : b < wr.heap.size := by omega
    clear hr hrk hrep hfr hlen hs1 hs2 hrk2
    go_wp2_with (first
     | (at_builtin; refine wpList_append_rep (T := str) (e := 9) (ys := xs[k]) rfl (.tmp 13) (.tmp 18) rfl Tryd.underlying52 Tryd.infoStr rfl (by decide) rfl (empty_is str _ _) rfl (repL_alloc HS1.out _) (HS2.out.alloc _) trivial (by simp) (by simp [maxLen]; omega) (by simp; omega) ?_; intro v2 w2 F2 r2 o2 q2; obtain ⟨A2, c2, rfl⟩ := slice_len r2; have hz := o2.size; have hb12 : Below wr.heap.size wr w2 := ((Below.refl _ _).alloc (Nat.le_refl _) _).trans (o2.below (by simp) (by simp)); have RP := Lib.hid (HP.out.below hb12); have HFA := Lib.hid (fresh_app HF.out HP.out.blocks (q2 wr.heap.size ⟨by simp, by simp⟩ (by simp)) hbs); have R2 := Lib.hid r2; clear r2)
     | (at_builtin; refine wpList_append_rep (T := pLine) (e := 56) (ys := [xs[k]]) rfl (.tmp 12) (.tmp 21) rfl Tryd.underlying24 Tryd.infoLine rfl (by decide) rfl (RP.out.alloc _) rfl (repL_single.2 (R2.out.alloc _)) (cellsAt_new _ _ _) trivial HFA.out.1 (by rw [HL.out]; simp [maxLen]; omega) (by rw [HL.out]; simp; omega) ?_; intro v3 w3 F3 r3 o3 q3))
    go_roundw
    case rel =>
     simp only [World.size_alloc] at hz
     refine ⟨k + 1, v3, F3, by omega, by go_num, rfl, ?_, q3 _ HFA.out (by simp; omega), ?_⟩
     · rw [List.take_succ_eq_append_getElem hlt]
       exact r3
     · exact below_only' ((hb.trans (hb12.mono hbs)).alloc (by omega) _) o3 HF.out.2 (by simp; omega)
    case measure => simp [intOf]; omega
  · obtain rfl : k = xs.length := by omega
    rw [List.take_length] at hrep
    have HP := Lib.hid hrep
    clear hrep hr
    go_wp2_with fail
    go_ret
    exact ⟨_, G, rfl, HP.out, hfr, hb⟩
end Go.Proofs.YtmopioaojdlnkaaDoor
