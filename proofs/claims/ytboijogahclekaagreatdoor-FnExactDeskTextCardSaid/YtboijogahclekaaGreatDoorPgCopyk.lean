/- Pages: lines in memory of their own. Conditions: none. -/
import Derived.Test.YtboijogahclekaaGreatDoorFindk
import Derived.Test.YtboijogahclekaaGreatDoorAppendk
namespace Go.Proofs.YtboijogahclekaaGreatDoor
open Go Go.RowKit
theorem repL_weak {α : Type} {T : Ty α} {o o' : Bool} {w : World} (hT : ∀ {a : α} {cs : List Value} {F : List Nat}, T.rep o w a cs F → T.rep o' w a cs F) : ∀ {xs : List α} {cs : List Value} {F : List Nat}, repL T o w xs cs F → repL T o' w xs cs F
 | [], _, _, h => h
 | _ :: _, _, _, ⟨c1, c2, F1, F2, e1, e2, h1, h2⟩ => ⟨c1, c2, F1, F2, e1, e2, hT h1, repL_weak hT h2⟩
theorem str_flat {o o' : Bool} {w : World} {xs : List ByteArray} {cs : List Value} {G : List Nat} (h : repL str o w xs cs G) : repL str o' w xs cs [] := by
 obtain ⟨rfl, rfl⟩ := repL_strs_inv h
 exact repL_weak (T := str) (o := o) (o' := o') (fun h => h) h
def Gives {α : Type} (T : Ty α) (a : α) (w : World) (e : Ending) (w' : World) : Prop := ∃ u F, e = .returned u ∧ T.rep true w' a [u] F ∧ Fresh w.heap.size F ∧ Below w.heap.size w w'
theorem below_only' {B : Nat} {a b c : World} {F : List Nat} (h : Below B a b) (ho : Only F b c) (hF : ∀ x ∈ F, B ≤ x) (hB : B ≤ b.heap.size) : Below B a c := h.trans (ho.below hB hF)
set_option maxRecDepth 100000 in
set_option maxHeartbeats 1000000 in
theorem impl_copyLines_c {o : Bool} {e : TypeId} {xs : List PLine} {v : Value} {F : List Nat} (w : World) (h : (pLines e).rep o w xs [v] F) (hx : xs.length ≤ 1048576) (hw : ∀ l ∈ xs, l.length ≤ 1048576) :
 Calls Tryz.prog 150 #[v] w (Gives (pLines 159) xs w) := by
 obtain ⟨A, c, rfl, hc1, hc2, hr⟩ := pLines_open h
 clear h
 go_enter Tryz.func150, Tryz.ntmps150
 go_wp2_with fail
 go_loopw [3, 8] (fun sv i wr => ∃ (k : Nat) (u : Value) (G : List Nat), k ≤ xs.length ∧ i = .int .i64 k ∧ u = sv ∧ (pLines 159).rep true wr (xs.take k) [u] G ∧ Fresh w.heap.size G ∧ Below w.heap.size w wr) (fun _ i _ => xs.length - (intOf i).toNat)
 case atStart => exact ⟨0, _, [], Nat.zero_le _, rfl, rfl, slice_nil _ _ _ _, Fresh.nil _, Below.refl _ _⟩
 case round =>
  obtain ⟨k, u, G, hk, rfl, rfl, hrep, hfr, hb⟩ := hrel
  have hbs := hb.size
  by_cases hlt : k < xs.length
  · obtain ⟨b, off, u1, Fk, rfl, hbb, _, hrk, _, h0⟩ := hr k hlt
    rw [← hb.cell (p := ⟨b, _, none⟩) hbb] at h0
    have hwk := hw _ (List.getElem_mem hlt)
    have RK := Lib.hid (hrk.below hb)
    have HP := Lib.hid hrep
    have HF := Lib.hid hfr
    obtain ⟨A', c', rfl, hl1, hl2, _⟩ := slice_open hrk
    have hlen : ((xs.take k).length : Nat) = k := by rw [List.length_take]; omega
    have HL := Lib.hid hlen
    clear hr hrk hrep hfr hlen
    go_wp2_with fail
    refine (Clone_Str _ (RK.out.alloc _) hwk str_flat).mono ?_
    rintro e w1 ⟨u2, G2, rfl, r2, f2, b2⟩
    obtain ⟨A2, c2, rfl⟩ := slice_len r2
    have hz := b2.size
    simp only [World.size_alloc] at hz
    have RP := (HP.out.alloc (.cells #[.slice A' xs[k].length c'] 159)).below b2
    have f2' : ∀ x ∈ G2, wr.heap.size + 1 ≤ x := fun x hx => by have := f2.2 x hx; simpa using this
    have hnd : (G ++ G2).Nodup := List.nodup_append.2 ⟨HF.out.1, f2.1, fun x h1 y h2 e => by
     subst e
     have := HP.out.blocks x h1; have := f2' x h2; omega⟩
    have hfr2 : Fresh w.heap.size (G ++ G2) := ⟨hnd, fun x hx => by
     rcases List.mem_append.1 hx with h | h
     · exact HF.out.2 x h
     · have := f2' x h; omega⟩
    have HR := Lib.hid RP
    have HY := Lib.hid r2
    have HN := Lib.hid hnd
    have HQ := Lib.hid hfr2
    clear RP r2 hnd hfr2
    have hbz : Below w.heap.size w w1 := (hb.alloc hbs _).trans (b2.mono (by simp; omega))
    have hbzs := hbz.size
    go_wp2_with (at_builtin; go_loud (refine wpList_append_rep (T := pLine) (e := 159) (ys := [xs[k]]) rfl (.tmp 12) (.tmp 17) rfl Tryz.underlying68 Tryz.infoLine rfl (by decide) rfl (HR.out.alloc _) rfl (repL_single.2 (HY.out.alloc _)) (cellsAt_new _ _ _) (by simp) HN.out (by rw [HL.out]; simp [maxLen]; omega) (by rw [HL.out]; simp; omega) ?_); intro v2 w2 F2 r3 o3 q3)
    go_roundw
    case rel =>
     refine ⟨k + 1, v2, F2, by omega, by go_num, rfl, ?_, q3 _ HQ.out (by simp; omega), below_only' (hbz.alloc hbzs _) o3 HF.out.2 (by simp; omega)⟩
     rw [List.take_succ_eq_append_getElem hlt]
     exact r3
    case measure => simp [intOf]; omega
  · obtain rfl : k = xs.length := by omega
    rw [List.take_length] at hrep
    have HP := Lib.hid hrep
    clear hrep hr
    go_wp2_with fail
    go_ret
    exact ⟨_, G, rfl, HP.out, hfr, hb⟩
theorem slice_src {α : Type} {T : Ty α} {e : TypeId} {o : Bool} {w : World} {xs : List α} {A : Option Addr} {n c : Nat} {F : List Nat} (h : (T.slice e).rep o w xs [.slice A n c] F) : ∃ ec G, repL T o w xs ec G ∧ CellsAt w A ec ∧ (∀ b ∈ G, b ∈ F) := by
 obtain ⟨A', c', ec, F0, F1, hv, rfl, hl, hc, hr, hlt, ha, _⟩ := h
 simp only [List.cons.injEq, and_true, Value.slice.injEq] at hv
 obtain ⟨rfl, rfl, rfl⟩ := hv
 refine ⟨ec, F1, hr, fun hp => ?_, fun b hb => by simp [hb]⟩
 have hl2 := repL_len hr
 have h0 : 0 < xs.length := by
  rcases Nat.eq_zero_or_pos xs.length with h | h
  · rw [h, Nat.zero_mul] at hl2; omega
  · exact h
 obtain ⟨b, off, h1, _, h2⟩ := ha h0
 exact ⟨b, off, h1, h2⟩
theorem CellsAt.below {w w' : World} {A : Option Addr} {ec : List Value} (h : CellsAt w A ec) (hb : Below w.heap.size w w') : CellsAt w' A ec := fun hp => by
 obtain ⟨b, off, h1, h2⟩ := h hp
 refine ⟨b, off, h1, fun j u hu => ?_⟩
 have h3 := h2 j u hu
 exact (hb.cell (p := ⟨b, off + j, none⟩) (World.block_lt_of_cell? w _ h3)).trans h3
theorem CellsAt.alloc {w : World} {A : Option Addr} {ec : List Value} (h : CellsAt w A ec) (x : Obj) : CellsAt (w.alloc x) A ec := h.below ((Below.refl _ _).alloc (Nat.le_refl _) x)
theorem CellsAt.drew {w : World} {A : Option Addr} {ec : List Value} (h : CellsAt w A ec) : CellsAt w.drew A ec := h
theorem repL_alloc {α : Type} {T : Ty α} {o : Bool} {w : World} {xs : List α} {cs : List Value} {F : List Nat} (h : repL T o w xs cs F) (x : Obj) : repL T o (w.alloc x) xs cs F := repL_below h ((Below.refl _ _).alloc (Nat.le_refl _) x)
theorem empty_is {α : Type} (T : Ty α) (e : TypeId) (w : World) : (T.slice e).rep true (w.alloc (.cells #[] e)) [] [.slice (some ⟨w.heap.size, 0, none⟩) 0 0] [w.heap.size] := slice_of_row (xs := []) (Row.new w _ _) ⟨rfl, rfl⟩ (by simp [maxLen])
theorem fresh_app {B : Nat} {w : World} {F G : List Nat} (hF : Fresh B F) (hlt : ∀ b ∈ F, b < w.heap.size) (hG : Fresh w.heap.size G) (hB : B ≤ w.heap.size) : Fresh B (F ++ G) :=
 ⟨List.nodup_append.2 ⟨hF.1, hG.1, fun x h1 y h2 e => by subst e; have := hlt x h1; have := hG.2 x h2; omega⟩, fun x hx => by
  rcases List.mem_append.1 hx with h | h
  · exact hF.2 x h
  · have := hG.2 x h; omega⟩
set_option maxRecDepth 100000 in
set_option maxHeartbeats 1000000 in
theorem spec_l27Copy_c {o : Bool} {e : TypeId} {xs : List PLine} {v : Value} {F : List Nat} (w : World) (h : (pLines e).rep o w xs [v] F) (hx : xs.length ≤ 1048576) (hw : ∀ l ∈ xs, l.length ≤ 1048576) :
 Calls Tryz.prog 139 #[v] w (Gives (pLines 159) xs w) := by
 obtain ⟨A, c, rfl, hc1, hc2, hr⟩ := pLines_open h
 clear h
 go_enter Tryz.func139, Tryz.ntmps139
 go_wp2_with fail
 go_loopw [3, 4] (fun sv i wr => ∃ (k : Nat) (u : Value) (G : List Nat), k ≤ xs.length ∧ i = .int .i64 k ∧ u = sv ∧ (pLines 159).rep true wr (xs.take k) [u] G ∧ Fresh w.heap.size G ∧ Below w.heap.size w wr) (fun _ i _ => xs.length - (intOf i).toNat)
 case atStart => exact ⟨0, _, [w.heap.size], Nat.zero_le _, rfl, rfl, empty_is pLine _ _, ⟨by simp, by simp⟩, (Below.refl _ _).alloc (Nat.le_refl _) _⟩
 case round =>
  obtain ⟨k, u, G, hk, rfl, rfl, hrep, hfr, hb⟩ := hrel
  have hbs := hb.size
  by_cases hlt : k < xs.length
  · obtain ⟨b, off, u1, Fk, rfl, hbb, _, hrk, _, h0⟩ := hr k hlt
    rw [← hb.cell (p := ⟨b, _, none⟩) hbb] at h0
    have hwk := hw _ (List.getElem_mem hlt)
    have hrk2 := hrk.below hb
    obtain ⟨A', c', rfl, hl1, hl2, _⟩ := slice_open hrk2
    obtain ⟨ec, Gs, hs1, hs2, _⟩ := slice_src hrk2
    have hlen : ((xs.take k).length : Nat) = k := by rw [List.length_take]; omega
    have HL := Lib.hid hlen
    have HP := Lib.hid hrep
    have HF := Lib.hid hfr
    have HS1 := Lib.hid (str_flat (o' := true) hs1)
    have HS2 := Lib.hid hs2
    have HA := Lib.hid hrk2
    have hbw : b < wr.heap.size := by omega
    clear hr hrk hrep hfr hlen hs1 hs2 hrk2
    go_wp2_with (first
     | (at_builtin; refine wpList_append_rep (T := str) (e := 9) (ys := xs[k]) rfl (.tmp 13) (.tmp 18) rfl Tryz.underlying39 Tryz.infoStr rfl (by decide) rfl (empty_is str _ _) rfl (repL_alloc HS1.out _) (HS2.out.alloc _) trivial (by simp) (by simp [maxLen]; omega) (by simp; omega) ?_; intro v2 w2 F2 r2 o2 q2; obtain ⟨A2, c2, rfl⟩ := slice_len r2; have hz := o2.size; have hb12 : Below wr.heap.size wr w2 := ((Below.refl _ _).alloc (Nat.le_refl _) _).trans (o2.below (by simp) (by simp)); have RP := Lib.hid (HP.out.below hb12); have HFA := Lib.hid (fresh_app HF.out HP.out.blocks (q2 wr.heap.size ⟨by simp, by simp⟩ (by simp)) hbs); have R2 := Lib.hid r2; clear r2)
     | (at_builtin; refine wpList_append_rep (T := pLine) (e := 159) (ys := [xs[k]]) rfl (.tmp 12) (.tmp 21) rfl Tryz.underlying68 Tryz.infoLine rfl (by decide) rfl (RP.out.alloc _) rfl (repL_single.2 (R2.out.alloc _)) (cellsAt_new _ _ _) trivial HFA.out.1 (by rw [HL.out]; simp [maxLen]; omega) (by rw [HL.out]; simp; omega) ?_; intro v3 w3 F3 r3 o3 q3))
    go_roundw
    case rel =>
     simp only [World.size_alloc] at hz
     refine ⟨k + 1, v3, F3, by omega, by go_num, rfl, ?_, q3 _ HFA.out (by simp; omega), ?_⟩
     · rw [List.take_succ_eq_append_getElem hlt]
       exact r3
     · exact below_only' ((hb.trans (hb12.mono hbs)).alloc (by omega) _) o3 HF.out.2 (by simp; omega)
    case measure => simp [intOf]; omega
  · obtain rfl : k = xs.length := by omega
    rw [List.take_length] at hrep
    have HP := Lib.hid hrep
    clear hrep hr
    go_wp2_with fail
    go_ret
    exact ⟨_, G, rfl, HP.out, hfr, hb⟩
theorem slice_form {α : Type} {T : Ty α} {e : TypeId} {o : Bool} {w : World} {xs : List α} {v : Value} {F : List Nat} (h : (T.slice e).rep o w xs [v] F) : ∃ A n c, v = .slice A n c := by
 obtain ⟨A, c, rfl⟩ := slice_len h
 exact ⟨_, _, _, rfl⟩
section
variable {P : Program} {α : Type} {T : Ty α} {t e : TypeId} {z : Value} {bytes : Nat} {w : World} {xs ys : List α} {v : Value} {F Fy : List Nat} {A : Option Addr} {c : Nat} {ec : List Value}
theorem step_append_repX {ops : Array Oper} {o : Oper} {a : Act} {K : Act → World → Prop} {Q : Exit → Act → World → Prop} {E : Prop} (hgd : o.guard = none) (s x : Operand)
 (ho : o.op = .call { callee := .builtin .append, args := #[s, x], argTypes := #[t, t] })
 (ht : P.underlying t = some (.slice e)) (hi : (P.info? e).map (fun i => (i.zero, i.size, i.bytes)) = some (some z, T.size, bytes)) (hz : z.cells.size = T.size) (h0 : 0 < T.size)
 (hs : a.eval s = v) (hr : (T.slice e).rep true w xs [v] F) (hx : a.eval x = .slice A ys.length c) (hy : repL T true w ys ec Fy) (hat : CellsAt w A ec) (hnd : (F ++ Fy).Nodup)
 (h63 : xs.length + ys.length ≤ maxLen) (hb : (xs.length + ys.length) * bytes ≤ 140737488355328)
 (h : ∀ v' w' F', (T.slice e).rep true w' (xs ++ ys) [v'] F' → Only F w w' → (∀ B, Fresh B (F ++ Fy) → B ≤ w.heap.size → Fresh B F') → ((∀ b ∈ F', b ∈ F ++ Fy ∨ w.heap.size ≤ b) ∧ Only v.ownBlock.toList w w' ∧ ∀ b ∈ v'.ownBlock.toList, b ∈ v.ownBlock.toList ∨ w.heap.size ≤ b) → K (a.put o.dst v') w') :
 if Region.wanted o (yielded ops a.tmps) = true then Oper.wp P o a w K Q else E := by
 have hw : Region.wanted o (yielded ops a.tmps) = true := by simp [Region.wanted, hgd]
 rw [if_pos hw]
 obtain ⟨v', w', F', hrun, h2, h3, h4, h5⟩ := run_append_repX (P := P) (c := c) o.type ht hi hz h0 hr hy hat trivial hnd h63 hb
 unfold Oper.wp
 simp [execOp, ho, resolve, invoke, builtin, hs, hx, hrun, Result.andThen]
 exact h v' w' F' h2 h3 h4 h5
end
section
variable {α : Type} {T : Ty α} {e : TypeId} {w w' : World} {xs ys : List α} {v u : Value} {F G G1 Gk G2 Gy : List Nat} {g c k : Nat} {c1 c2 cs rest : List Value} {ck : Value}
theorem own_open (hS : T.size = 1) (h : (T.slice e).rep true w xs [v] F) (hk : k < xs.length) :
 ∃ g c c1 ck c2 rest G1 Gk G2, v = .slice (some ⟨g, 0, none⟩) xs.length c ∧ xs.length ≤ c ∧ c ≤ maxLen ∧ Row w g e (c1 ++ (ck :: (c2 ++ rest))) ∧ c1.length = k ∧ (c1 ++ (ck :: (c2 ++ rest))).length = c ∧
  repL T true w (xs.take k) c1 G1 ∧ T.rep true w xs[k] [ck] Gk ∧ repL T true w (xs.drop (k + 1)) c2 G2 ∧ F = g :: (G1 ++ (Gk ++ G2)) := by
 obtain ⟨g, c, cs, rest, G, hv, hl, hc, hrow, hrp, hlen, rfl⟩ := row_of_slice h (by omega)
 obtain ⟨c1, ckl, c2, G1, Gk, G2, rfl, rfl, hl1, hlk, hp1, hpk, hp2⟩ := repL_get hrp k hk
 rw [hS] at hlk hl1 hlen
 obtain ⟨ck, rfl⟩ : ∃ ck, ckl = [ck] := List.length_eq_one_iff.1 hlk
 refine ⟨g, c, c1, ck, c2, rest, G1, Gk, G2, hv, hl, hc, by simpa using hrow, by omega, by simpa using hlen, hp1, hpk, hp2, rfl⟩
theorem own_set (hS : T.size = 1) (hk : k < xs.length) {y : α} (hrow : Row w g e (c1 ++ (ck :: (c2 ++ rest)))) (hl1 : c1.length = k) (hlen : (c1 ++ (ck :: (c2 ++ rest))).length = c)
 (hl : xs.length ≤ c) (hc : c ≤ maxLen) (hp1 : repL T true w (xs.take k) c1 G1) (hy : T.rep true w y [u] Gy) (hp2 : repL T true w (xs.drop (k + 1)) c2 G2) (hg : g ∉ G1 ++ (Gy ++ G2)) :
 (T.slice e).rep true (w.setCell ⟨g, k, none⟩ u) (xs.set k y) [.slice (some ⟨g, 0, none⟩) xs.length c] (g :: (G1 ++ (Gy ++ G2))) := by
 have hr := hrow.put (j := 0) (i := k) (by omega) u
 rw [List.set_cons_zero] at hr
 have hr2 : Row (w.setCell ⟨g, k, none⟩ u) g e ((c1 ++ (u :: c2)) ++ rest) := by simpa using hr
 have n1 : g ∉ G1 := fun hin => hg (by simp [hin])
 have n2 : g ∉ Gy := fun hin => hg (by simp [hin])
 have n3 : g ∉ G2 := fun hin => hg (by simp [hin])
 have e1 : xs.set k y = xs.take k ++ y :: xs.drop (k + 1) := List.set_eq_take_append_cons_drop .. |>.trans (by rw [if_pos hk])
 rw [e1]
 have hrp : repL T true (w.setCell ⟨g, k, none⟩ u) (xs.take k ++ y :: xs.drop (k + 1)) (c1 ++ (u :: c2)) (G1 ++ (Gy ++ G2)) :=
  repL_append (repL_set hp1 n1 _) ⟨[u], c2, Gy, G2, rfl, rfl, hy.setCell n2 _, repL_set hp2 n3 _⟩
 refine slice_of_room hr2 hrp (by simp only [List.length_append, List.length_take, List.length_cons, List.length_drop]; omega) hl hc ?_
 rw [hS, Nat.mul_one, ← hlen]; simp
theorem own_keep (hS : T.size = 1) (hk : k < xs.length) {y : α} (hrow : Row w g e (c1 ++ (ck :: (c2 ++ rest)))) (hl1 : c1.length = k) (hlen : (c1 ++ (ck :: (c2 ++ rest))).length = c)
 (hl : xs.length ≤ c) (hc : c ≤ maxLen) (hp1 : repL T true w (xs.take k) c1 G1) (hy : T.rep true w y [ck] Gy) (hp2 : repL T true w (xs.drop (k + 1)) c2 G2) :
 (T.slice e).rep true w (xs.set k y) [.slice (some ⟨g, 0, none⟩) xs.length c] (g :: (G1 ++ (Gy ++ G2))) := by
 have hr2 : Row w g e ((c1 ++ (ck :: c2)) ++ rest) := by simpa using hrow
 have e1 : xs.set k y = xs.take k ++ y :: xs.drop (k + 1) := List.set_eq_take_append_cons_drop .. |>.trans (by rw [if_pos hk])
 rw [e1]
 have hrp : repL T true w (xs.take k ++ y :: xs.drop (k + 1)) (c1 ++ (ck :: c2)) (G1 ++ (Gy ++ G2)) := repL_append hp1 ⟨[ck], c2, Gy, G2, rfl, rfl, hy, hp2⟩
 refine slice_of_room hr2 hrp (by simp only [List.length_append, List.length_take, List.length_cons, List.length_drop]; omega) hl hc ?_
 rw [hS, Nat.mul_one, ← hlen]; simp
theorem row_take (h : Row w g e (cs ++ rest)) (n : Nat) : CellsAt w (some ⟨g, 0, none⟩) (cs.take n) := fun _ => ⟨g, 0, rfl, fun j u hu => by
 rw [Nat.zero_add]
 refine h.cell' ?_
 have hj := (List.getElem?_eq_some_iff.1 hu).1
 rw [List.length_take] at hj
 rw [List.getElem?_append_left (by omega)]
 rw [List.getElem?_take] at hu
 split at hu
 · exact hu
 · cases hu⟩
theorem row_drop (h : Row w g e (cs ++ rest)) (n : Nat) (hc : (cs ++ rest).length = c) (hn : n ≤ cs.length) : ∃ AD : Addr, (if c = n then (some ⟨g, 0, none⟩ : Option Addr) else some ⟨g, n, none⟩) = some AD ∧ CellsAt w (some AD) (cs.drop n) := by
 by_cases hcn : c = n
 · refine ⟨⟨g, 0, none⟩, by rw [if_pos hcn], fun hp => ?_⟩
   rw [List.length_append] at hc
   rw [List.length_drop] at hp; omega
 · refine ⟨⟨g, n, none⟩, by rw [if_neg hcn], fun _ => ⟨g, n, rfl, fun j u hu => h.cell' ?_⟩⟩
   have hj := (List.getElem?_eq_some_iff.1 hu).1
   rw [List.length_drop] at hj
   rw [List.getElem?_append_left (by omega)]
   rwa [List.getElem?_drop] at hu
theorem own_cases (h : (T.slice e).rep true w xs [v] F) : (v = .slice none 0 0 ∧ xs = []) ∨
 ∃ g c cs rest G, v = .slice (some ⟨g, 0, none⟩) xs.length c ∧ xs.length ≤ c ∧ c ≤ maxLen ∧ Row w g e (cs ++ rest) ∧ repL T true w xs cs G ∧ (cs ++ rest).length = c * T.size ∧ F = g :: G := by
 have h' := h
 obtain ⟨A, c, ec, F0, F1, hv, rfl, hl, hc, hr, hlt, ha, ho⟩ := h
 obtain ⟨h1, h2⟩ := ho rfl
 rcases h1.2 with ⟨h3, hn⟩ | ⟨g, cap, cur, h3, _⟩
 · simp only [List.cons.injEq, and_true] at hv
   exact .inl ⟨hv.trans h3, List.eq_nil_of_length_eq_zero hn⟩
 · rw [h3] at h1
   obtain ⟨rest, hrow, _, hlen, _, _⟩ := Row.of_owns h1
   injection h3 with e1 _ e2
   subst e1; subst e2
   refine .inr ⟨g, c, ec, rest, F1, by simpa using hv, hl, hc, hrow, hr, hlen, ?_⟩
   rw [h2]; simp [Value.ownBlock]
theorem part_take (hS : T.size = 1) (hrow : Row w g e (cs ++ rest)) (hr : repL T true w xs cs G) (hk : k ≤ xs.length) (hl : xs.length ≤ c) (hc : c ≤ maxLen) : ∃ F', (T.slice e).rep false w (xs.take k) [.slice (some ⟨g, 0, none⟩) k c] F' ∧ ∀ b ∈ F', b ∈ g :: G := by
 obtain ⟨Fa, Fb, rfl, h1, h2⟩ := repL_at hr k hk
 have hlk : (xs.take k).length = k := by rw [List.length_take]; omega
 rw [hS, Nat.mul_one] at h1
 refine ⟨[g] ++ Fa, ⟨some ⟨g, 0, none⟩, c, _, [g], Fa, by rw [hlk], rfl, by omega, hc, repL_read h1, by simpa using hrow.lt, fun hn => ⟨g, 0, rfl, by simp, fun j u hu => ?_⟩, fun h => by cases h⟩, by simp; intro b hb; simp [hb]⟩
 obtain ⟨b, off, e1, e2⟩ := row_take hrow k (by have := (List.getElem?_eq_some_iff.1 hu).1; omega)
 injection e1 with e1; injection e1 with e3 e4 _; subst e3; subst e4
 exact e2 j u hu
theorem part_drop (hS : T.size = 1) (hrow : Row w g e (cs ++ rest)) (hcc : (cs ++ rest).length = c) (hr : repL T true w xs cs G) (hk : k ≤ xs.length) (hl : xs.length ≤ c) (hc : c ≤ maxLen) : ∃ AD F', (if c = k then (some ⟨g, 0, none⟩ : Option Addr) else some ⟨g, k, none⟩) = some AD ∧ (T.slice e).rep false w (xs.drop k) [.slice (some AD) (xs.length - k) (c - k)] F' ∧ ∀ b ∈ F', b ∈ g :: G := by
 obtain ⟨Fa, Fb, rfl, h1, h2⟩ := repL_at hr k hk
 have hlk : (xs.drop k).length = xs.length - k := by rw [List.length_drop]
 have hcl : cs.length = xs.length := by have := repL_len hr; rw [hS, Nat.mul_one] at this; exact this
 rw [hS, Nat.mul_one] at h2
 obtain ⟨AD, hif, hat⟩ := row_drop (c := c) hrow k hcc (by omega)
 refine ⟨AD, [g] ++ Fb, hif, ⟨some AD, c - k, _, [g], Fb, by rw [hlk], rfl, by omega, by omega, repL_read h2, by simpa using hrow.lt, fun hn => ?_, fun h => by cases h⟩, by simp; intro b hb; simp [hb]⟩
 have hkn : ¬ c = k := by omega
 rw [if_neg hkn] at hif
 injection hif with hif
 subst hif
 refine ⟨g, k, rfl, by simp, fun j u hu => ?_⟩
 obtain ⟨b, off, e1, e2⟩ := hat (by have := (List.getElem?_eq_some_iff.1 hu).1; omega)
 injection e1 with e1; injection e1 with e3 e4 _; subst e3; subst e4
 exact e2 j u hu
end
theorem own_parts {w : World} {e : TypeId} {g c n : Nat} {c1 c2 rest : List Value} {ck : Value} (hrow : Row w g e (c1 ++ (ck :: (c2 ++ rest)))) (hl1 : c1.length = n) (hlen : (c1 ++ (ck :: (c2 ++ rest))).length = c) :
 CellsAt w (some ⟨g, 0, none⟩) c1 ∧ ∃ AD : Addr, (if c = n + 1 then (some ⟨g, 0, none⟩ : Option Addr) else some ⟨g, n + 1, none⟩) = some AD ∧ CellsAt w (some AD) c2 := by
 have h : Row w g e ((c1 ++ (ck :: c2)) ++ rest) := by simpa using hrow
 have ht := row_take h n
 rw [List.take_left' hl1] at ht
 obtain ⟨AD, h1, h2⟩ := row_drop (c := c) h (n + 1) (by simpa using hlen) (by simp; omega)
 rw [show (c1 ++ ck :: c2).drop (n + 1) = c2 from by rw [← List.drop_drop, List.drop_left' hl1]; rfl] at h2
 exact ⟨ht, AD, h1, h2⟩
theorem nodup_app {F G : List Nat} (hF : F.Nodup) (hG : G.Nodup) (h : ∀ x, x ∈ F → x ∈ G → False) : (F ++ G).Nodup := List.nodup_append.2 ⟨hF, hG, fun x h1 _ h2 e => h x h1 (e ▸ h2)⟩
end Go.Proofs.YtboijogahclekaaGreatDoor
