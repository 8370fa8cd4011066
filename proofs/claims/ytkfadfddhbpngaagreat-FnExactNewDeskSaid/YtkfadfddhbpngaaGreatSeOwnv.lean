/- Setups in memory of their own: copyTemplate, copyStore, copySetup of the program. Conditions: none. -/
import Derived.Test.YtkfadfddhbpngaaGreatTkv
import Derived.Test.YtkfadfddhbpngaaGreatSeIsv
import Derived.Test.YtkfadfddhbpngaaGreatSlOpsv
import Derived.Test.YtkfadfddhbpngaaGreatTakeCallv
import Derived.Test.YtkfadfddhbpngaaGreatPgImplv
namespace Go.Proofs.YtkfadfddhbpngaaGreat
open Go Go.RowKit
abbrev zo121_5_0 : Oper := { dst := some 16, op := .fieldAddr 52 (.tmp 3) 1, type := 0, pos := "l11_templates.go:55", after := #[], guard := none }
abbrev zo121_5_2 : Oper := { dst := some 18, op := .load 215 (.tmp 5), type := 215, pos := "l11_templates.go:55", after := #[], guard := none }
abbrev zo121_5_3 : Oper := { dst := some 19, op := .call { callee := .value (.func 185), args := #[.tmp 18], argTypes := #[215] }, type := 215, pos := "l11_templates.go:55", after := #[{ on := 2, ground := .data }], guard := none }
abbrev zo121_5_4 : Oper := { dst := some 20, op := .buildSlice 50 1 #[(0, .tmp 19)], type := 50, pos := "l11_templates.go:55", after := #[{ on := 3, ground := .data }], guard := none }
abbrev zo121_5_5 : Oper := { dst := some 21, op := .call { callee := .builtin .append, args := #[.tmp 17, .tmp 20], argTypes := #[50, 50] }, type := 50, pos := "l11_templates.go:55", after := #[{ on := 1, ground := .data }, { on := 4, ground := .data }, { on := 3, ground := .chain }], guard := none }
abbrev zo121_5_6 : Oper := { dst := some 22, op := .fieldAddr 52 (.tmp 3) 1, type := 0, pos := "l11_templates.go:55", after := #[{ on := 0, ground := .phase }, { on := 1, ground := .phase }, { on := 2, ground := .phase }, { on := 3, ground := .phase }, { on := 4, ground := .phase }, { on := 5, ground := .phase }], guard := none }
abbrev zo121_5_7 : Oper := { dst := none, op := .store 50 (.tmp 22) (.tmp 21), type := 0, pos := "l11_templates.go:55", after := #[{ on := 6, ground := .data }, { on := 5, ground := .data }, { on := 5, ground := .chain }, { on := 0, ground := .phase }, { on := 1, ground := .phase }, { on := 2, ground := .phase }, { on := 3, ground := .phase }, { on := 4, ground := .phase }, { on := 5, ground := .phase }], guard := none }
abbrev zo121_5_1 : Oper := { dst := some 17, op := .load 50 (.tmp 16), type := 50, pos := "l11_templates.go:55", after := #[{ on := 0, ground := .data }], guard := none }

theorem Row.atN (w : World) (e : TypeId) (cs : List Value) {n : Nat} (hn : n = w.heap.size) : Row (w.alloc (.cells cs.toArray e)) n e cs := by
 subst hn; exact Row.new w e cs.toArray
theorem Tryz.infoFeat : (Tryz.prog.info? 224).map (fun i => (i.zero, i.size, i.bytes)) = some (some (.agg #[.int .i64 0, .int .i64 0, .int .i64 0]), pFeat.size, 24) := by kernel_rfl
theorem Tryz.infoEntry : (Tryz.prog.info? 183).map (fun i => (i.zero, i.size, i.bytes)) = some (some (.agg #[.string .empty, .int .i64 0]), pEntry.size, 24) := by kernel_rfl
theorem Tryz.infoBigram : (Tryz.prog.info? 186).map (fun i => (i.zero, i.size, i.bytes)) = some (some (.agg #[.string .empty, .string .empty, .int .i64 0]), pBigram.size, 40) := by kernel_rfl
theorem Tryz.infoTemp : (Tryz.prog.info? 215).map (fun i => (i.zero, i.size, i.bytes)) = some (some (.agg #[.string .empty, .slice none 0 0]), (pTemp 224).size, 40) := by kernel_rfl
theorem pFeat_flat {o o' : Bool} {w : World} {xs : List PFeat} {cs : List Value} {G : List Nat} (h : repL pFeat o w xs cs G) : repL pFeat o' w xs cs [] := by
 obtain ⟨rfl, rfl⟩ := repL_pFeat_inv h
 exact repL_weak (T := pFeat) (o := o) (o' := o') (fun h => h) h
theorem pEntry_flat {o o' : Bool} {w : World} {xs : List PEntry} {cs : List Value} {G : List Nat} (h : repL pEntry o w xs cs G) : repL pEntry o' w xs cs [] := by
 obtain ⟨rfl, rfl⟩ := repL_pEntry_inv h
 exact repL_weak (T := pEntry) (o := o) (o' := o') (fun h => h) h
theorem pBigram_flat {o o' : Bool} {w : World} {xs : List PBigram} {cs : List Value} {G : List Nat} (h : repL pBigram o w xs cs G) : repL pBigram o' w xs cs [] := by
 obtain ⟨rfl, rfl⟩ := repL_pBigram_inv h
 exact repL_weak (T := pBigram) (o := o) (o' := o') (fun h => h) h
set_option maxRecDepth 100000 in
set_option maxHeartbeats 400000 in
/-- slices.Clone at impl.Feat. -/
theorem Clone_Feat {o : Bool} {e : TypeId} {xs : List (PFeat)} {v : Value} {F : List Nat} (w : World) (h : ((pFeat).slice e).rep o w xs [v] F) (hx : xs.length ≤ 1048576) (hflat : ∀ {w : World} {cs : List Value} {G : List Nat}, repL (pFeat) o w xs cs G → repL (pFeat) true w xs cs []) :
 Calls Tryz.prog 220 #[v] w fun e' w' => ∃ u G, e' = .returned u ∧ ((pFeat).slice 224).rep true w' xs [u] G ∧ Fresh w.heap.size G ∧ Below w.heap.size w w' := by
 obtain ⟨A, c, ec, F0, F1, hv, rfl, hl, hc, hr, hlt, ha, _⟩ := h
 simp only [List.cons.injEq, and_true] at hv
 subst hv
 have HA := Lib.hid ha
 clear ha
 unfold maxLen at hc
 cases A with
 | none =>
  have hxs : xs = [] := by
   by_cases h0 : 0 < xs.length
   · obtain ⟨b, off, h1, _⟩ := HA.out h0; cases h1
   · exact List.eq_nil_of_length_eq_zero (by omega)
  have HX := Lib.hid hxs
  clear hxs
  have hnil := fun w => Lib.run_eql_slice_nil (P := Tryz.prog) w 213 224 none xs.length c 0 0 Tryz.underlying213
  go_enter Tryz.func220, Tryz.ntmps220
  go_wp2_with fail
  go_ret
  exact ⟨_, [], rfl, by rw [HX.out]; exact slice_nil _ _ _ _, Fresh.nil _, Below.refl _ _⟩
 | some a =>
  have hat : CellsAt (w.alloc (.cells #[] 224)) (some a) ec := fun hp => by
   have hl2 := repL_len hr
   have h0 : 0 < xs.length := by
    rcases Nat.eq_zero_or_pos xs.length with h | h
    · rw [h, Nat.zero_mul] at hl2; omega
    · exact h
   obtain ⟨b, off, h1, hb, h2⟩ := HA.out h0
   exact ⟨b, off, h1, fun j u hu => (World.cell?_of_block (w := w) (Below.heap_alloc w _ b (hlt b hb))).trans (h2 j u hu)⟩
  have hr0 : ((pFeat).slice 224).rep true (w.alloc (.cells #[] 224)) [] [.slice (some ⟨w.heap.size, 0, none⟩) 0 0] [w.heap.size] := slice_of_row (xs := []) (Row.new w _ _) ⟨rfl, rfl⟩ (by simp [maxLen])
  have hy := hflat (w := w.alloc (.cells #[] 224)) (repL_kept hr (fun b hb => Below.heap_alloc w _ b (repL_lt hr b hb)))
  have HC := Lib.hid hat
  have HR := Lib.hid hr0
  have HY := Lib.hid hy
  clear hat hr0 hr hflat hy
  have hnil := fun w => Lib.run_eql_slice_nil (P := Tryz.prog) w 213 224 (some a) xs.length c 0 0 Tryz.underlying213
  go_enter Tryz.func220, Tryz.ntmps220
  go_wp2_with (at_builtin; refine wpList_append_rep (T := pFeat) (e := 224) (ys := xs) rfl (.tmp 5) (.tmp 6) rfl Tryz.underlying213 Tryz.infoFeat rfl (by decide) rfl HR.out rfl HY.out HC.out (by simp) (by simp) (by simp [maxLen]; omega) (by simp; omega) ?_; intro v2 w2 F2 r2 o2 q2)
  go_ret
  refine ⟨_, F2, rfl, r2, q2 _ ⟨by simp, by simp⟩ (by simp), ?_⟩
  exact ((Below.refl _ _).alloc (Nat.le_refl _) _).trans (o2.below (by simp) (by simp))

set_option maxRecDepth 100000 in
set_option maxHeartbeats 400000 in
/-- slices.Clone at impl.Entry. -/
theorem Clone_Entry {o : Bool} {e : TypeId} {xs : List (PEntry)} {v : Value} {F : List Nat} (w : World) (h : ((pEntry).slice e).rep o w xs [v] F) (hx : xs.length ≤ 1048576) (hflat : ∀ {w : World} {cs : List Value} {G : List Nat}, repL (pEntry) o w xs cs G → repL (pEntry) true w xs cs []) :
 Calls Tryz.prog 122 #[v] w fun e' w' => ∃ u G, e' = .returned u ∧ ((pEntry).slice 183).rep true w' xs [u] G ∧ Fresh w.heap.size G ∧ Below w.heap.size w w' := by
 obtain ⟨A, c, ec, F0, F1, hv, rfl, hl, hc, hr, hlt, ha, _⟩ := h
 simp only [List.cons.injEq, and_true] at hv
 subst hv
 have HA := Lib.hid ha
 clear ha
 unfold maxLen at hc
 cases A with
 | none =>
  have hxs : xs = [] := by
   by_cases h0 : 0 < xs.length
   · obtain ⟨b, off, h1, _⟩ := HA.out h0; cases h1
   · exact List.eq_nil_of_length_eq_zero (by omega)
  have HX := Lib.hid hxs
  clear hxs
  have hnil := fun w => Lib.run_eql_slice_nil (P := Tryz.prog) w 54 183 none xs.length c 0 0 Tryz.underlying54
  go_enter Tryz.func122, Tryz.ntmps122
  go_wp2_with fail
  go_ret
  exact ⟨_, [], rfl, by rw [HX.out]; exact slice_nil _ _ _ _, Fresh.nil _, Below.refl _ _⟩
 | some a =>
  have hat : CellsAt (w.alloc (.cells #[] 183)) (some a) ec := fun hp => by
   have hl2 := repL_len hr
   have h0 : 0 < xs.length := by
    rcases Nat.eq_zero_or_pos xs.length with h | h
    · rw [h, Nat.zero_mul] at hl2; omega
    · exact h
   obtain ⟨b, off, h1, hb, h2⟩ := HA.out h0
   exact ⟨b, off, h1, fun j u hu => (World.cell?_of_block (w := w) (Below.heap_alloc w _ b (hlt b hb))).trans (h2 j u hu)⟩
  have hr0 : ((pEntry).slice 183).rep true (w.alloc (.cells #[] 183)) [] [.slice (some ⟨w.heap.size, 0, none⟩) 0 0] [w.heap.size] := slice_of_row (xs := []) (Row.new w _ _) ⟨rfl, rfl⟩ (by simp [maxLen])
  have hy := hflat (w := w.alloc (.cells #[] 183)) (repL_kept hr (fun b hb => Below.heap_alloc w _ b (repL_lt hr b hb)))
  have HC := Lib.hid hat
  have HR := Lib.hid hr0
  have HY := Lib.hid hy
  clear hat hr0 hr hflat hy
  have hnil := fun w => Lib.run_eql_slice_nil (P := Tryz.prog) w 54 183 (some a) xs.length c 0 0 Tryz.underlying54
  go_enter Tryz.func122, Tryz.ntmps122
  go_wp2_with (at_builtin; refine wpList_append_rep (T := pEntry) (e := 183) (ys := xs) rfl (.tmp 5) (.tmp 6) rfl Tryz.underlying54 Tryz.infoEntry rfl (by decide) rfl HR.out rfl HY.out HC.out (by simp) (by simp) (by simp [maxLen]; omega) (by simp; omega) ?_; intro v2 w2 F2 r2 o2 q2)
  go_ret
  refine ⟨_, F2, rfl, r2, q2 _ ⟨by simp, by simp⟩ (by simp), ?_⟩
  exact ((Below.refl _ _).alloc (Nat.le_refl _) _).trans (o2.below (by simp) (by simp))

set_option maxRecDepth 100000 in
set_option maxHeartbeats 400000 in
/-- slices.Clone at impl.Bigram. -/
theorem Clone_Bigram {o : Bool} {e : TypeId} {xs : List (PBigram)} {v : Value} {F : List Nat} (w : World) (h : ((pBigram).slice e).rep o w xs [v] F) (hx : xs.length ≤ 1048576) (hflat : ∀ {w : World} {cs : List Value} {G : List Nat}, repL (pBigram) o w xs cs G → repL (pBigram) true w xs cs []) :
 Calls Tryz.prog 123 #[v] w fun e' w' => ∃ u G, e' = .returned u ∧ ((pBigram).slice 186).rep true w' xs [u] G ∧ Fresh w.heap.size G ∧ Below w.heap.size w w' := by
 obtain ⟨A, c, ec, F0, F1, hv, rfl, hl, hc, hr, hlt, ha, _⟩ := h
 simp only [List.cons.injEq, and_true] at hv
 subst hv
 have HA := Lib.hid ha
 clear ha
 unfold maxLen at hc
 cases A with
 | none =>
  have hxs : xs = [] := by
   by_cases h0 : 0 < xs.length
   · obtain ⟨b, off, h1, _⟩ := HA.out h0; cases h1
   · exact List.eq_nil_of_length_eq_zero (by omega)
  have HX := Lib.hid hxs
  clear hxs
  have hnil := fun w => Lib.run_eql_slice_nil (P := Tryz.prog) w 57 186 none xs.length c 0 0 Tryz.underlying57
  go_enter Tryz.func123, Tryz.ntmps123
  go_wp2_with fail
  go_ret
  exact ⟨_, [], rfl, by rw [HX.out]; exact slice_nil _ _ _ _, Fresh.nil _, Below.refl _ _⟩
 | some a =>
  have hat : CellsAt (w.alloc (.cells #[] 186)) (some a) ec := fun hp => by
   have hl2 := repL_len hr
   have h0 : 0 < xs.length := by
    rcases Nat.eq_zero_or_pos xs.length with h | h
    · rw [h, Nat.zero_mul] at hl2; omega
    · exact h
   obtain ⟨b, off, h1, hb, h2⟩ := HA.out h0
   exact ⟨b, off, h1, fun j u hu => (World.cell?_of_block (w := w) (Below.heap_alloc w _ b (hlt b hb))).trans (h2 j u hu)⟩
  have hr0 : ((pBigram).slice 186).rep true (w.alloc (.cells #[] 186)) [] [.slice (some ⟨w.heap.size, 0, none⟩) 0 0] [w.heap.size] := slice_of_row (xs := []) (Row.new w _ _) ⟨rfl, rfl⟩ (by simp [maxLen])
  have hy := hflat (w := w.alloc (.cells #[] 186)) (repL_kept hr (fun b hb => Below.heap_alloc w _ b (repL_lt hr b hb)))
  have HC := Lib.hid hat
  have HR := Lib.hid hr0
  have HY := Lib.hid hy
  clear hat hr0 hr hflat hy
  have hnil := fun w => Lib.run_eql_slice_nil (P := Tryz.prog) w 57 186 (some a) xs.length c 0 0 Tryz.underlying57
  go_enter Tryz.func123, Tryz.ntmps123
  go_wp2_with (at_builtin; refine wpList_append_rep (T := pBigram) (e := 186) (ys := xs) rfl (.tmp 5) (.tmp 6) rfl Tryz.underlying57 Tryz.infoBigram rfl (by decide) rfl HR.out rfl HY.out HC.out (by simp) (by simp) (by simp [maxLen]; omega) (by simp; omega) ?_; intro v2 w2 F2 r2 o2 q2)
  go_ret
  refine ⟨_, F2, rfl, r2, q2 _ ⟨by simp, by simp⟩ (by simp), ?_⟩
  exact ((Below.refl _ _).alloc (Nat.le_refl _) _).trans (o2.below (by simp) (by simp))

set_option maxRecDepth 100000 in
set_option maxHeartbeats 1000000 in
theorem impl_copyTemplate_c {o : Bool} {e : TypeId} {l : ByteArray} {xs : List PFeat} {v : Value} {F : List Nat} (w : World) (h : (pFeats e).rep o w xs [v] F) (hx : xs.length ≤ 1048576) :
 Calls Tryz.prog 185 #[.agg #[.string l, v]] w fun e' w' => ∃ u G, e' = .returned (.agg #[.string l, u]) ∧ (pFeats 224).rep true w' xs [u] G ∧ Fresh w.heap.size G ∧ Below w.heap.size w w' := by
 obtain ⟨A, c, rfl⟩ := slice_len h
 have R := (Row.new w 215 #[.string l, .slice A xs.length c]).alloc (.cells #[.string { data := #[] }, .slice none 0 0] 215)
 have O := Row.new (w.alloc (.cells #[.string l, .slice A xs.length c] 215)) 215 #[.string { data := #[] }, .slice none 0 0]
 simp only [World.size_alloc] at O
 have bb : Below w.heap.size w ((w.alloc (.cells #[.string l, .slice A xs.length c] 215)).alloc (.cells #[.string { data := #[] }, .slice none 0 0] 215)) := ((Below.refl _ _).alloc (Nat.le_refl _) _).alloc (by simp) _
 replace h := (h.alloc (.cells #[.string l, .slice A xs.length c] 215)).alloc (.cells #[.string { data := #[] }, .slice none 0 0] 215)
 go_enter Tryz.func185, Tryz.ntmps185
 go_wp2_with fail
 go_region_held3 (fun w' => w'.cell? ⟨w.heap.size, 0, none⟩ = some (.string l) ∧ w'.cell? ⟨w.heap.size, 1, none⟩ = some (.slice A xs.length c)) (first | exact ⟨R.drew.cell' (i := 0) rfl, R.drew.cell' (i := 1) rfl⟩ | exact ⟨R1.cell' (i := 0) rfl, R1.cell' (i := 1) rfl⟩ | exact ⟨((R1.far (p := ⟨w.heap.size + 1, 0, none⟩) (by simp) _).far (p := ⟨w.heap.size + 1, 1, none⟩) (by simp) _).cell' (i := 0) rfl, ((R1.far (p := ⟨w.heap.size + 1, 0, none⟩) (by simp) _).far (p := ⟨w.heap.size + 1, 1, none⟩) (by simp) _).cell' (i := 1) rfl⟩) (first | (go_at_call 220; refine (Clone_Feat _ h.drew hx pFeat_flat).mono ?_; rintro e w1 ⟨u, G, rfl, r, f, b⟩; obtain ⟨Au, ku, rfl⟩ := slice_len r; have R1 := R.drew.later b; have O1 := O.drew.later b; have o0 := O1.cell' (i := 0) rfl; have o1 := O1.cell' (i := 1) rfl; have of := O1.frozen))
 have ng : w.heap.size + 1 ∉ G := fun hx => by have := f.2 _ hx; simp at this; omega
 have bs := b.size
 have TF := (O1.set 0 (.string l)).set 1 (.slice Au xs.length ku)
 have e0 := TF.cell' (i := 0) rfl
 have e1 := TF.cell' (i := 1) rfl
 go_wp2_with fail
 refine bodyPost_ret (v := .agg #[.string l, .slice Au xs.length ku]) (by simp only [results, Tryz.results185]; go_simp) rfl ⟨_, G, rfl, (r.setCell (by exact ng) _).setCell (by exact ng) _, f.mono (by simp; omega), ((bb.drew.trans (b.mono (by simp; omega))).setCell (by simp) _).setCell (by simp) _⟩
set_option maxRecDepth 100000 in
set_option maxHeartbeats 2000000 in
theorem impl_copyStore_c {o : Bool} {pe e : TypeId} {n : Int} {xs : List PTemp} {v : Value} {F : List Nat} (w : World) (h : (pTemps pe e).rep o w xs [v] F) (hx : xs.length ≤ 1048576) (hxe : ∀ l ∈ xs, l.feats.length ≤ 1048576) :
 Calls Tryz.prog 121 #[.agg #[.int .i64 n, v]] w fun e' w' => ∃ u G, e' = .returned (.agg #[.int .i64 n, u]) ∧ (pTemps 224 215).rep true w' xs [u] G ∧ Fresh w.heap.size G ∧ Below w.heap.size w w' := by
 obtain ⟨A, c, rfl, hc1, hc2, hr⟩ := pTemps_open h
 clear h
 go_enter Tryz.func121, Tryz.ntmps121
 go_wp2_with fail
 go_loopw [12] (fun i wr => ∃ (k : Nat) (u : Value) (G : List Nat), k ≤ xs.length ∧ i = .int .i64 k ∧ Row wr (w.heap.size + 1) 52 [.int .i64 0, .slice none 0 0] ∧ Row wr (w.heap.size + 1 + 1) 52 [.int .i64 n, u] ∧ (pTemps 224 215).rep true wr (xs.take k) [u] G ∧ Fresh (w.heap.size + 1 + 1 + 1) G ∧ Below w.heap.size w wr) (fun i _ => xs.length - (intOf i).toNat)
 case atStart => exact ⟨0, _, [], Nat.zero_le _, rfl, (Row.atN _ _ _ (by simp)).alloc _, Row.atN _ _ _ (by simp), slice_nil _ _ _ _, Fresh.nil _, (((Below.refl _ _).alloc (Nat.le_refl _) _).alloc (by simp) _).alloc (by simp; omega) _⟩
 case round =>
  obtain ⟨k, u, G, hk, rfl, RO, RS, hrep, hfr, hb⟩ := hrel
  have hbs := hb.size
  by_cases hlt : k < xs.length
  · obtain ⟨b, off, u1, Fk, rfl, hbb, _, hls, hrk, _, h0, h1⟩ := hr k hlt
    rw [← hb.cell (p := ⟨b, _, none⟩) hbb] at h0 h1
    have hwk := hxe _ (List.getElem_mem hlt)
    have lS := RS.lt
    have lO := RO.lt
    have hrk2 := hrk.below hb
    obtain ⟨A', c', rfl⟩ := slice_len hrk2
    obtain ⟨Au, nu, ku, rfl⟩ := slice_form hrep
    have hlen : ((xs.take k).length : Nat) = k := by rw [List.length_take]; omega
    have HL := Lib.hid hlen
    have HP := Lib.hid hrep
    have HF := Lib.hid hfr
    have RK := Lib.hid hrk2
    have HLS := Lib.hid hls
    clear hr hrk hrep hfr hlen hrk2 hls
    go_wp2_with fail
    have RT0 := (Row.new wr 215 #[.string xs[k].label, .slice A' xs[k].feats.length c']).drew
    have RS0 := (RS.alloc (.cells #[.string xs[k].label, .slice A' xs[k].feats.length c'] 215)).drew
    have RO0 := (RO.alloc (.cells #[.string xs[k].label, .slice A' xs[k].feats.length c'] 215)).drew
    have hS : (fun w' : World => w'.cell? ⟨wr.heap.size, 0, none⟩ = some (.string xs[k].label) ∧ w'.cell? ⟨wr.heap.size, 1, none⟩ = some (.slice A' xs[k].feats.length c')) (wr.alloc (.cells #[.string xs[k].label, .slice A' xs[k].feats.length c'] 215)).drew := ⟨RT0.cell' (i := 0) rfl, RT0.cell' (i := 1) rfl⟩
    dsimp only at hS
    refine wp_region_held_drew (S := (fun w' : World => w'.cell? ⟨wr.heap.size, 0, none⟩ = some (.string xs[k].label) ∧ w'.cell? ⟨wr.heap.size, 1, none⟩ = some (.slice A' xs[k].feats.length c'))) (by kernel_rfl) hS (fun _ => ?_)
    refine tK (i := 0) (oi := zo121_5_0) (v := ?_) rfl (by kernel_rfl) (fun _ _ _ h => h) (Or.inl ⟨rfl, ?_⟩) hS ?_
    rotate_left
    · (intro w' hS'; (try dsimp only at hS'); dsimp only [zo121_5_0]; go_simp; try with_reducible rfl)
    simp only [Act.put, pA, pB, pC]
    refine tK (i := 2) (oi := zo121_5_2) (v := ?_) rfl (by kernel_rfl) (fun _ _ _ h => h) (Or.inl ⟨rfl, ?_⟩) hS ?_
    rotate_left
    · (intro w' hS'; (try dsimp only at hS'); dsimp only [zo121_5_2]; go_simp; try with_reducible rfl)
    simp only [Act.put, pA, pB, pC]
    refine wpAnyH_ready (rs := [1, 3]) (by kernel_rfl) (by simp) ?_
    refine AllReadyH.cons (o := { dst := some 17, op := .load 50 (.tmp 16), type := 50, pos := "l11_templates.go:55", after := #[{ on := 0, ground := .data }], guard := none }) rfl (fun K hK => ?_) (AllReadyH.cons (o := { dst := some 19, op := .call { callee := .value (.func 185), args := #[.tmp 18], argTypes := #[215] }, type := 215, pos := "l11_templates.go:55", after := #[{ on := 2, ground := .data }], guard := none }) rfl (fun K hK => ?_) .nil)
    · skip
      have f1 := RS0.cell' (i := 1) rfl
      go_simp
      refine hK.out _ _ hS (fun _ => ?_)
      clear hK K f1
      refine wpAnyH_ready (rs := [3]) (by kernel_rfl) (by simp) ?_
      refine AllReadyH.cons (o := zo121_5_3) rfl (fun K hK => ?_) .nil
      refine step_call 185 #[.tmp 18] _ rfl rfl #[.agg #[.string xs[k].label, .slice A' xs[k].feats.length c']] Tryz.call185 (by go_simp) (impl_copyTemplate_c (l := xs[k].label) _ (RK.out.alloc (.cells #[.string xs[k].label, .slice A' xs[k].feats.length c'] 215)).drew hwk) ?_
      rintro e w1 ⟨u2, G2, rfl, r2, f2, b2⟩
      obtain ⟨A2, c2, rfl⟩ := slice_len r2
      refine ⟨_, rfl, ?_⟩
      have z2 := b2.size
      simp only [World.size_alloc, World.size_drew] at z2
      have RT1 := RT0.later b2
      have RS1 := RS0.later b2
      have RO1 := RO0.later b2
      have HG2 := Lib.hid (fresh_app HF.out (fun x hx => by have := HP.out.blocks x hx; simp; omega) f2 (by simp; omega))
      have HB1 := Lib.hid ((hb.alloc hbs (.cells #[.string xs[k].label, .slice A' xs[k].feats.length c'] 215)).drew.trans (b2.mono (by simp; omega)))
      replace hS : (fun w' : World => w'.cell? ⟨wr.heap.size, 0, none⟩ = some (.string xs[k].label) ∧ w'.cell? ⟨wr.heap.size, 1, none⟩ = some (.slice A' xs[k].feats.length c')) w1 := ⟨RT1.cell' (i := 0) rfl, RT1.cell' (i := 1) rfl⟩
      dsimp only at hS
      refine hK.out _ _ ?_ (fun hHeld => ?_)
      · exact hS
      clear hK K hHeld
      simp only [Act.put, pA, pB, pC]
      refine wpAnyH_ready (rs := [4]) (by kernel_rfl) (by simp) ?_
      refine AllReadyH.cons (o := zo121_5_4) rfl (fun K hK => ?_) .nil
      go_simp
      have RT2 := RT1.alloc (.cells #[.string xs[k].label, .slice A2 xs[k].feats.length c2] 215)
      have RS2 := RS1.alloc (.cells #[.string xs[k].label, .slice A2 xs[k].feats.length c2] 215)
      have RO2 := RO1.alloc (.cells #[.string xs[k].label, .slice A2 xs[k].feats.length c2] 215)
      replace hS : (fun w' : World => w'.cell? ⟨wr.heap.size, 0, none⟩ = some (.string xs[k].label) ∧ w'.cell? ⟨wr.heap.size, 1, none⟩ = some (.slice A' xs[k].feats.length c')) (w1.alloc (.cells #[.string xs[k].label, .slice A2 xs[k].feats.length c2] 215)) := ⟨RT2.cell' (i := 0) rfl, RT2.cell' (i := 1) rfl⟩
      refine hK.out _ _ hS (fun _ => ?_)
      clear hK K
      dsimp only at hS
      refine wpAnyH_ready (rs := [5]) (by kernel_rfl) (by simp) ?_
      refine AllReadyH.cons (o := zo121_5_5) rfl (fun K hK => ?_) .nil
      refine step_append_repX (T := pTemp 224) (e := 215) (xs := xs.take k) (ys := [xs[k]]) (ec := [.string xs[k].label, .slice A2 xs[k].feats.length c2]) rfl (.tmp 17) (.tmp 20) (by rfl) Tryz.underlying50 Tryz.infoTemp rfl (by decide) (by rfl) ((((HP.out.alloc (.cells #[.string xs[k].label, .slice A' xs[k].feats.length c'] 215)).drew).below b2).alloc _) (by rfl) (repL_single.2 (pTemp_rep.2 ⟨_, rfl, HLS.out, r2.alloc _⟩)) (cellsAt_new _ _ _) (by simpa using HG2.out.1) (by rw [HL.out]; simp [maxLen]; omega) (by rw [HL.out]; simp; omega) ?_
      intro v2 w3 F2 r3 o3 q3 x3
      obtain ⟨Av, nv, kv, rfl⟩ := slice_form r3
      have os := o3.size
      simp only [World.size_alloc] at os
      have ngS : w.heap.size + 1 + 1 ∉ G := fun hx => by have := HF.out.2 _ hx; omega
      have ngO : w.heap.size + 1 ∉ G := fun hx => by have := HF.out.2 _ hx; omega
      have ngT : wr.heap.size ∉ G := fun hx => by have := HP.out.blocks _ hx; omega
      have RT3 := RT2.onl o3 ngT
      have RS3 := RS2.onl o3 ngS
      have RO3 := RO2.onl o3 ngO
      have F3 := q3 (w.heap.size + 1 + 1 + 1) (by simpa using HG2.out) (by simp; omega)
      have hb3 := (HB1.out.alloc (by omega) (.cells #[.string xs[k].label, .slice A2 xs[k].feats.length c2] 215)).trans (o3.below (by simp; omega) (fun x hx => by have := HF.out.2 x hx; omega))
      replace hS : (fun w' : World => w'.cell? ⟨wr.heap.size, 0, none⟩ = some (.string xs[k].label) ∧ w'.cell? ⟨wr.heap.size, 1, none⟩ = some (.slice A' xs[k].feats.length c')) w3 := ⟨RT3.cell' (i := 0) rfl, RT3.cell' (i := 1) rfl⟩
      refine hK.out _ _ hS (fun _ => ?_)
      clear hK K
      dsimp only at hS
      refine tK (i := 6) (oi := zo121_5_6) (v := ?_) rfl (by kernel_rfl) (fun _ _ _ h => h) (Or.inl ⟨rfl, ?_⟩) hS ?_
      rotate_left
      · (intro w' hS'; (try dsimp only at hS'); dsimp only [zo121_5_6]; go_simp; try with_reducible rfl)
      simp only [Act.put, pA, pB, pC]
      refine wpAnyH_ready (rs := [7]) (by kernel_rfl) (by simp) ?_
      refine AllReadyH.cons (o := zo121_5_7) rfl (fun K hK => ?_) .nil
      have f1 := RS3.cell' (i := 1) rfl
      have ff := RS3.frozen
      go_simp
      have RS4 := RS3.set 1 (.slice Av nv kv)
      have RO4 := RO3.far (p := ⟨w.heap.size + 1 + 1, 1, none⟩) (by simp) (.slice Av nv kv)
      have RT4 := RT3.far (p := ⟨w.heap.size + 1 + 1, 1, none⟩) (by simp; omega) (.slice Av nv kv)
      have ngF : w.heap.size + 1 + 1 ∉ F2 := fun hx => by have := F3.2 _ hx; omega
      have HR4 := Lib.hid (r3.setCell (p := ⟨w.heap.size + 1 + 1, 1, none⟩) (by exact ngF) (.slice Av nv kv))
      have HB4 := Lib.hid (hb3.setCell (p := ⟨w.heap.size + 1 + 1, 1, none⟩) (by simp; omega) (.slice Av nv kv))
      refine hK.out _ _ ⟨RT4.cell' (i := 0) rfl, RT4.cell' (i := 1) rfl⟩ (fun _ => ?_)
      clear hK K
      refine wpAnyH_done (by kernel_rfl) ?_ _
      clear f1 ff RT0 RT1 RT2 RT3 RT4 RS0 RS1 RS2 RS3 RO0 RO1 RO2 RO3 hS
      go_wp2_with fail
      go_roundw
      case rel =>
       refine ⟨k + 1, .slice Av nv kv, F2, by omega, by go_num, RO4, RS4, ?_, F3, HB4.out⟩
       rw [List.take_succ_eq_append_getElem hlt]
       exact HR4.out
      case measure => simp [intOf]; omega
    · skip
      refine step_call 185 #[.tmp 18] _ rfl rfl #[.agg #[.string xs[k].label, .slice A' xs[k].feats.length c']] Tryz.call185 (by go_simp) (impl_copyTemplate_c (l := xs[k].label) _ (RK.out.alloc (.cells #[.string xs[k].label, .slice A' xs[k].feats.length c'] 215)).drew hwk) ?_
      rintro e w1 ⟨u2, G2, rfl, r2, f2, b2⟩
      obtain ⟨A2, c2, rfl⟩ := slice_len r2
      refine ⟨_, rfl, ?_⟩
      have z2 := b2.size
      simp only [World.size_alloc, World.size_drew] at z2
      have RT1 := RT0.later b2
      have RS1 := RS0.later b2
      have RO1 := RO0.later b2
      have HG2 := Lib.hid (fresh_app HF.out (fun x hx => by have := HP.out.blocks x hx; simp; omega) f2 (by simp; omega))
      have HB1 := Lib.hid ((hb.alloc hbs (.cells #[.string xs[k].label, .slice A' xs[k].feats.length c'] 215)).drew.trans (b2.mono (by simp; omega)))
      replace hS : (fun w' : World => w'.cell? ⟨wr.heap.size, 0, none⟩ = some (.string xs[k].label) ∧ w'.cell? ⟨wr.heap.size, 1, none⟩ = some (.slice A' xs[k].feats.length c')) w1 := ⟨RT1.cell' (i := 0) rfl, RT1.cell' (i := 1) rfl⟩
      dsimp only at hS
      refine hK.out _ _ ?_ (fun hHeld => ?_)
      · exact hS
      clear hK K hHeld
      simp only [Act.put, pA, pB, pC]
      refine wpAnyH_ready (rs := [1, 4]) (by kernel_rfl) (by simp) ?_
      refine AllReadyH.cons (o := { dst := some 17, op := .load 50 (.tmp 16), type := 50, pos := "l11_templates.go:55", after := #[{ on := 0, ground := .data }], guard := none }) rfl (fun K hK => ?_) (AllReadyH.cons (o := { dst := some 20, op := .buildSlice 50 1 #[(0, .tmp 19)], type := 50, pos := "l11_templates.go:55", after := #[{ on := 3, ground := .data }], guard := none }) rfl (fun K hK => ?_) .nil)
      · skip
        have f1 := RS1.cell' (i := 1) rfl
        go_simp
        refine hK.out _ _ hS (fun _ => ?_)
        clear hK K f1
        refine wpAnyH_ready (rs := [4]) (by kernel_rfl) (by simp) ?_
        refine AllReadyH.cons (o := zo121_5_4) rfl (fun K hK => ?_) .nil
        go_simp
        have RT2 := RT1.alloc (.cells #[.string xs[k].label, .slice A2 xs[k].feats.length c2] 215)
        have RS2 := RS1.alloc (.cells #[.string xs[k].label, .slice A2 xs[k].feats.length c2] 215)
        have RO2 := RO1.alloc (.cells #[.string xs[k].label, .slice A2 xs[k].feats.length c2] 215)
        replace hS : (fun w' : World => w'.cell? ⟨wr.heap.size, 0, none⟩ = some (.string xs[k].label) ∧ w'.cell? ⟨wr.heap.size, 1, none⟩ = some (.slice A' xs[k].feats.length c')) (w1.alloc (.cells #[.string xs[k].label, .slice A2 xs[k].feats.length c2] 215)) := ⟨RT2.cell' (i := 0) rfl, RT2.cell' (i := 1) rfl⟩
        refine hK.out _ _ hS (fun _ => ?_)
        clear hK K
        dsimp only at hS
        refine wpAnyH_ready (rs := [5]) (by kernel_rfl) (by simp) ?_
        refine AllReadyH.cons (o := zo121_5_5) rfl (fun K hK => ?_) .nil
        refine step_append_repX (T := pTemp 224) (e := 215) (xs := xs.take k) (ys := [xs[k]]) (ec := [.string xs[k].label, .slice A2 xs[k].feats.length c2]) rfl (.tmp 17) (.tmp 20) (by rfl) Tryz.underlying50 Tryz.infoTemp rfl (by decide) (by rfl) ((((HP.out.alloc (.cells #[.string xs[k].label, .slice A' xs[k].feats.length c'] 215)).drew).below b2).alloc _) (by rfl) (repL_single.2 (pTemp_rep.2 ⟨_, rfl, HLS.out, r2.alloc _⟩)) (cellsAt_new _ _ _) (by simpa using HG2.out.1) (by rw [HL.out]; simp [maxLen]; omega) (by rw [HL.out]; simp; omega) ?_
        intro v2 w3 F2 r3 o3 q3 x3
        obtain ⟨Av, nv, kv, rfl⟩ := slice_form r3
        have os := o3.size
        simp only [World.size_alloc] at os
        have ngS : w.heap.size + 1 + 1 ∉ G := fun hx => by have := HF.out.2 _ hx; omega
        have ngO : w.heap.size + 1 ∉ G := fun hx => by have := HF.out.2 _ hx; omega
        have ngT : wr.heap.size ∉ G := fun hx => by have := HP.out.blocks _ hx; omega
        have RT3 := RT2.onl o3 ngT
        have RS3 := RS2.onl o3 ngS
        have RO3 := RO2.onl o3 ngO
        have F3 := q3 (w.heap.size + 1 + 1 + 1) (by simpa using HG2.out) (by simp; omega)
        have hb3 := (HB1.out.alloc (by omega) (.cells #[.string xs[k].label, .slice A2 xs[k].feats.length c2] 215)).trans (o3.below (by simp; omega) (fun x hx => by have := HF.out.2 x hx; omega))
        replace hS : (fun w' : World => w'.cell? ⟨wr.heap.size, 0, none⟩ = some (.string xs[k].label) ∧ w'.cell? ⟨wr.heap.size, 1, none⟩ = some (.slice A' xs[k].feats.length c')) w3 := ⟨RT3.cell' (i := 0) rfl, RT3.cell' (i := 1) rfl⟩
        refine hK.out _ _ hS (fun _ => ?_)
        clear hK K
        dsimp only at hS
        refine tK (i := 6) (oi := zo121_5_6) (v := ?_) rfl (by kernel_rfl) (fun _ _ _ h => h) (Or.inl ⟨rfl, ?_⟩) hS ?_
        rotate_left
        · (intro w' hS'; (try dsimp only at hS'); dsimp only [zo121_5_6]; go_simp; try with_reducible rfl)
        simp only [Act.put, pA, pB, pC]
        refine wpAnyH_ready (rs := [7]) (by kernel_rfl) (by simp) ?_
        refine AllReadyH.cons (o := zo121_5_7) rfl (fun K hK => ?_) .nil
        have f1 := RS3.cell' (i := 1) rfl
        have ff := RS3.frozen
        go_simp
        have RS4 := RS3.set 1 (.slice Av nv kv)
        have RO4 := RO3.far (p := ⟨w.heap.size + 1 + 1, 1, none⟩) (by simp) (.slice Av nv kv)
        have RT4 := RT3.far (p := ⟨w.heap.size + 1 + 1, 1, none⟩) (by simp; omega) (.slice Av nv kv)
        have ngF : w.heap.size + 1 + 1 ∉ F2 := fun hx => by have := F3.2 _ hx; omega
        have HR4 := Lib.hid (r3.setCell (p := ⟨w.heap.size + 1 + 1, 1, none⟩) (by exact ngF) (.slice Av nv kv))
        have HB4 := Lib.hid (hb3.setCell (p := ⟨w.heap.size + 1 + 1, 1, none⟩) (by simp; omega) (.slice Av nv kv))
        refine hK.out _ _ ⟨RT4.cell' (i := 0) rfl, RT4.cell' (i := 1) rfl⟩ (fun _ => ?_)
        clear hK K
        refine wpAnyH_done (by kernel_rfl) ?_ _
        clear f1 ff RT0 RT1 RT2 RT3 RT4 RS0 RS1 RS2 RS3 RO0 RO1 RO2 RO3 hS
        go_wp2_with fail
        go_roundw
        case rel =>
         refine ⟨k + 1, .slice Av nv kv, F2, by omega, by go_num, RO4, RS4, ?_, F3, HB4.out⟩
         rw [List.take_succ_eq_append_getElem hlt]
         exact HR4.out
        case measure => simp [intOf]; omega
      · skip
        go_simp
        have RT2 := RT1.alloc (.cells #[.string xs[k].label, .slice A2 xs[k].feats.length c2] 215)
        have RS2 := RS1.alloc (.cells #[.string xs[k].label, .slice A2 xs[k].feats.length c2] 215)
        have RO2 := RO1.alloc (.cells #[.string xs[k].label, .slice A2 xs[k].feats.length c2] 215)
        replace hS : (fun w' : World => w'.cell? ⟨wr.heap.size, 0, none⟩ = some (.string xs[k].label) ∧ w'.cell? ⟨wr.heap.size, 1, none⟩ = some (.slice A' xs[k].feats.length c')) (w1.alloc (.cells #[.string xs[k].label, .slice A2 xs[k].feats.length c2] 215)) := ⟨RT2.cell' (i := 0) rfl, RT2.cell' (i := 1) rfl⟩
        refine hK.out _ _ hS (fun _ => ?_)
        clear hK K
        dsimp only at hS
        refine wpAnyH_ready (rs := [1]) (by kernel_rfl) (by simp) ?_
        refine AllReadyH.cons (o := zo121_5_1) rfl (fun K hK => ?_) .nil
        have f1 := RS2.cell' (i := 1) rfl
        go_simp
        refine hK.out _ _ hS (fun _ => ?_)
        clear hK K f1
        refine wpAnyH_ready (rs := [5]) (by kernel_rfl) (by simp) ?_
        refine AllReadyH.cons (o := zo121_5_5) rfl (fun K hK => ?_) .nil
        refine step_append_repX (T := pTemp 224) (e := 215) (xs := xs.take k) (ys := [xs[k]]) (ec := [.string xs[k].label, .slice A2 xs[k].feats.length c2]) rfl (.tmp 17) (.tmp 20) (by rfl) Tryz.underlying50 Tryz.infoTemp rfl (by decide) (by rfl) ((((HP.out.alloc (.cells #[.string xs[k].label, .slice A' xs[k].feats.length c'] 215)).drew).below b2).alloc _) (by rfl) (repL_single.2 (pTemp_rep.2 ⟨_, rfl, HLS.out, r2.alloc _⟩)) (cellsAt_new _ _ _) (by simpa using HG2.out.1) (by rw [HL.out]; simp [maxLen]; omega) (by rw [HL.out]; simp; omega) ?_
        intro v2 w3 F2 r3 o3 q3 x3
        obtain ⟨Av, nv, kv, rfl⟩ := slice_form r3
        have os := o3.size
        simp only [World.size_alloc] at os
        have ngS : w.heap.size + 1 + 1 ∉ G := fun hx => by have := HF.out.2 _ hx; omega
        have ngO : w.heap.size + 1 ∉ G := fun hx => by have := HF.out.2 _ hx; omega
        have ngT : wr.heap.size ∉ G := fun hx => by have := HP.out.blocks _ hx; omega
        have RT3 := RT2.onl o3 ngT
        have RS3 := RS2.onl o3 ngS
        have RO3 := RO2.onl o3 ngO
        have F3 := q3 (w.heap.size + 1 + 1 + 1) (by simpa using HG2.out) (by simp; omega)
        have hb3 := (HB1.out.alloc (by omega) (.cells #[.string xs[k].label, .slice A2 xs[k].feats.length c2] 215)).trans (o3.below (by simp; omega) (fun x hx => by have := HF.out.2 x hx; omega))
        replace hS : (fun w' : World => w'.cell? ⟨wr.heap.size, 0, none⟩ = some (.string xs[k].label) ∧ w'.cell? ⟨wr.heap.size, 1, none⟩ = some (.slice A' xs[k].feats.length c')) w3 := ⟨RT3.cell' (i := 0) rfl, RT3.cell' (i := 1) rfl⟩
        refine hK.out _ _ hS (fun _ => ?_)
        clear hK K
        dsimp only at hS
        refine tK (i := 6) (oi := zo121_5_6) (v := ?_) rfl (by kernel_rfl) (fun _ _ _ h => h) (Or.inl ⟨rfl, ?_⟩) hS ?_
        rotate_left
        · (intro w' hS'; (try dsimp only at hS'); dsimp only [zo121_5_6]; go_simp; try with_reducible rfl)
        simp only [Act.put, pA, pB, pC]
        refine wpAnyH_ready (rs := [7]) (by kernel_rfl) (by simp) ?_
        refine AllReadyH.cons (o := zo121_5_7) rfl (fun K hK => ?_) .nil
        have f1 := RS3.cell' (i := 1) rfl
        have ff := RS3.frozen
        go_simp
        have RS4 := RS3.set 1 (.slice Av nv kv)
        have RO4 := RO3.far (p := ⟨w.heap.size + 1 + 1, 1, none⟩) (by simp) (.slice Av nv kv)
        have RT4 := RT3.far (p := ⟨w.heap.size + 1 + 1, 1, none⟩) (by simp; omega) (.slice Av nv kv)
        have ngF : w.heap.size + 1 + 1 ∉ F2 := fun hx => by have := F3.2 _ hx; omega
        have HR4 := Lib.hid (r3.setCell (p := ⟨w.heap.size + 1 + 1, 1, none⟩) (by exact ngF) (.slice Av nv kv))
        have HB4 := Lib.hid (hb3.setCell (p := ⟨w.heap.size + 1 + 1, 1, none⟩) (by simp; omega) (.slice Av nv kv))
        refine hK.out _ _ ⟨RT4.cell' (i := 0) rfl, RT4.cell' (i := 1) rfl⟩ (fun _ => ?_)
        clear hK K
        refine wpAnyH_done (by kernel_rfl) ?_ _
        clear f1 ff RT0 RT1 RT2 RT3 RT4 RS0 RS1 RS2 RS3 RO0 RO1 RO2 RO3 hS
        go_wp2_with fail
        go_roundw
        case rel =>
         refine ⟨k + 1, .slice Av nv kv, F2, by omega, by go_num, RO4, RS4, ?_, F3, HB4.out⟩
         rw [List.take_succ_eq_append_getElem hlt]
         exact HR4.out
        case measure => simp [intOf]; omega
  · obtain rfl : k = xs.length := by omega
    rw [List.take_length] at hrep
    obtain ⟨Au, ku, rfl⟩ := slice_len hrep
    have lS := RS.lt
    have ng1 : w.heap.size + 1 ∉ G := fun hx => by have := hfr.2 _ hx; omega
    have s0 := RS.cell' (i := 0) rfl
    have s1 := RS.cell' (i := 1) rfl
    have o0 := RO.cell' (i := 0) rfl
    have o1 := RO.cell' (i := 1) rfl
    have of := RO.frozen
    have TF := (RO.set 0 (.int .i64 n)).set 1 (.slice Au xs.length ku)
    have e0 := TF.cell' (i := 0) rfl
    have e1 := TF.cell' (i := 1) rfl
    have HP := Lib.hid hrep
    clear hrep hr
    go_wp2_with fail
    refine bodyPost_ret (v := .agg #[.int .i64 n, .slice Au xs.length ku]) (by simp only [results, Tryz.results121]; go_simp) rfl ⟨_, G, rfl, (HP.out.setCell (by exact ng1) _).setCell (by exact ng1) _, hfr.mono (by omega), (hb.setCell (by simp) _).setCell (by simp) _⟩
end Go.Proofs.YtkfadfddhbpngaaGreat
