/- What laws draw: symbols and a tree. Conditions: none. -/
import Derived.Test.YtmopioaojdlnkaaTkt
import Derived.Test.YtmopioaojdlnkaaPuGt
import Derived.Test.YtmopioaojdlnkaaPsMt
namespace Go.Proofs.Ytmopioaojdlnkaa
open Go Go.RowKit
def TreeDrawn (B g m : Nat) (code : List UInt8) (w : World) (en : Ending) (w' : World) : Prop :=
 ∃ (xs : List PSymbol) (ns : List PNode) (vl vt : Value) (G H : List Nat), en = .returned (.tuple #[vl, .agg #[vt]]) ∧ (pSymbols 50).rep true w' xs [vl] G ∧ (pNodes 76).rep true w' ns [vt] H ∧ Fresh w.heap.size G ∧ Fresh w.heap.size H ∧ xs.length ≤ 12 ∧ (∀ c ∈ xs, SymLe 6000 c) ∧ ns.length ≤ 16 ∧ SrcIs B g code m w' ∧ Only [g] w w'
theorem parseN_small (xs : List PSymbol) : (parseN xs).length ≤ 15 := by
 unfold parseN
 split
 · rename_i h
   unfold parseC at h
   split at h
   · rename_i hs
     split at h
     · exact absurd h (by decide)
     · rename_i hm
       have h8 : xs.length ≤ 8 := by
        unfold symsOkB at hs
        rw [Bool.and_eq_true, decide_eq_true_iff] at hs
        exact hs.2
       have ht := (best_is h8 hm).1
       unfold treeB at ht
       simp only [Bool.and_eq_true, decide_eq_true_eq] at ht
       exact ht.1.2
   · exact absurd h (by decide)
 · simp
theorem Row.atJ {w : World} {g : Nat} {e : TypeId} {cs rest : List Value} {i j : Nat} {u : Value} (h : Row w g e (cs ++ rest)) (hi : i = cs.length + j) (hu : rest[j]? = some u) : w.cell? ⟨g, i, none⟩ = some u :=
 h.cell' (by rw [List.getElem?_append_right (by omega), show i - cs.length = j from by omega]; exact hu)
set_option maxRecDepth 100000 in
set_option maxHeartbeats 8000000 in
theorem spec_l21Bent_c {B g m : Nat} {code : List UInt8} (w : World) (h : SrcIs B g code m w) (hm : m ≤ 400000) (hB : B ≤ w.heap.size) :
 Calls Try.prog 37 #[.pointer (some ⟨g, 0, none⟩)] w (TreeDrawn B g (m + 210) code w) := by
 have hgw := h.lt
 have RT := Row.new w 28 #[.slice none 0 0]
 have O0 : Only [g] w (w.alloc (.cells #[.slice none 0 0] 28)) := Only.of_below ((Below.refl _ _).alloc (Nat.le_refl _) _)
 have H1 := Lib.hid (spec_l21Draw_c _ (h.alloc (.cells #[.slice none 0 0] 28)) (by omega) (by simp; omega))
 clear h
 go_enter Try.func37, Try.ntmps37
 go_wp2_with fail
 refine H1.out.mono ?_
 rintro e w1 ⟨xs, vl, G, rfl, rep, fr, hl, sm, S1, O1⟩
 replace RT := row_o RT O1 (by omega)
 have hs1 := O1.size
 simp only [World.alloc, Array.size_push] at hs1
 have hs1' : w.heap.size < w1.heap.size := by omega
 clear hs1
 have frW : Fresh w.heap.size G := ⟨fr.1, fun x hx => by have h := fr.2 x hx; simp only [World.alloc, Array.size_push] at h; omega⟩
 have nGO : w.heap.size ∉ G := fun hin => by have h := fr.2 _ hin; simp only [World.alloc, Array.size_push] at h; omega
 have hgG : g ∉ G := fun hin => by have := frW.2 g hin; omega
 replace O1 := O0.trans O1
 have H2 := Lib.hid (spec_l20Ok_c w1 rep (by omega) (fun c hc => by have := (sm c hc).2; omega))
 have REPS := Lib.hid rep
 have FR := Lib.hid frW
 have HSM := Lib.hid sm
 obtain ⟨A, c, rfl⟩ := slice_len rep
 obtain ⟨vl, hvl⟩ : ∃ v, v = Value.slice A xs.length c := ⟨_, rfl⟩
 rw [← hvl] at H2 REPS ⊢
 clear rep fr frW sm H1 O0 hvl
 go_wp2_with fail
 refine H2.out.mono ?_
 rintro e w2 ⟨rfl, b2⟩
 replace RT := RT.later b2
 replace REPS := Lib.hid (REPS.out.below b2)
 replace S1 := S1.below b2
 replace O1 := O1.trans (Only.of_below b2)
 have hs2 := b2.size
 replace hs1' : w.heap.size < w2.heap.size := by omega
 clear hs2 H2
 cases hok : symsOkB xs
 · have z := hok
   have RT0 := RT.c0
   have RTF := RT.frozen
   have N0 := REPS.out.setCell (p := ⟨w.heap.size, 0, none⟩) nGO (.slice (some ⟨w2.heap.size, 0, none⟩) 1 1)
   have SS0 := S1.far (p := ⟨w.heap.size, 0, none⟩) hB (.slice (some ⟨w2.heap.size, 0, none⟩) 1 1)
   have OO0 := O1.set_new (p := ⟨w.heap.size, 0, none⟩) (Nat.le_refl _) (.slice (some ⟨w2.heap.size, 0, none⟩) 1 1)
   have RT1 := RT.set 0 (.slice (some ⟨w2.heap.size, 0, none⟩) 1 1)
   clear S1 O1
   go_wp2_with fail
   have ez : (w2.setCell ⟨w.heap.size, 0, none⟩ (.slice (some ⟨w2.heap.size, 0, none⟩) 1 1)).heap.size = w2.heap.size := by simp only [World.setCell, Array.size_modify]
   have RN := Row.new (w2.setCell ⟨w.heap.size, 0, none⟩ (.slice (some ⟨w2.heap.size, 0, none⟩) 1 1)) 76 #[.int .i64 0, .int .i64 0, .int .i64 0, .int .i64 0]
   rw [ez] at RN
   have d0 := (RT1.alloc (.cells #[.int .i64 0, .int .i64 0, .int .i64 0, .int .i64 0] 76)).c0
   have NT := slice_of_row (xs := [(⟨0, 0, 0, 0⟩ : PNode)]) RN (repL_pNode [(⟨0, 0, 0, 0⟩ : PNode)] (fun s hs => by simp only [List.mem_singleton] at hs; subst hs; unfold pNodeOk I64; dsimp only; omega)) (by simp [maxLen])
   exact bodyPost_ret (v := .tuple #[vl, .agg #[.slice (some ⟨w2.heap.size, 0, none⟩) 1 1]]) (by simp [results, Try.results37, go_sem, d0]) rfl ⟨xs, [⟨0, 0, 0, 0⟩], _, _, G, _, rfl, N0.alloc _, NT, FR.out, ⟨by simp, fun x hx => by simp only [List.mem_singleton] at hx; omega⟩, hl, HSM.out, by simp, (SS0.alloc _).more (by omega), OO0.alloc _⟩
 · have z := hok
   have H3 := Lib.hid (spec_ParseSymbols_c w2 REPS.out (by omega) (fun c hc => by have := (HSM.out c hc).2; omega))
   go_wp2_with fail
   refine H3.out.mono ?_
   rintro e w3 ⟨vt, H, rfl, rep, fr, b3⟩
   have hns := parseN_small xs
   obtain ⟨ns, hnsd⟩ : ∃ ns, ns = parseN xs := ⟨_, rfl⟩
   rw [← hnsd] at rep hns
   clear hnsd
   obtain ⟨A', c', rfl⟩ := slice_len rep
   replace RT := RT.later b3
   have REPS0 := REPS
   replace REPS := Lib.hid (REPS.out.below b3)
   replace S1 := S1.below b3
   replace O1 := O1.trans (Only.of_below b3)
   have hs3 := b3.size
   have frH : Fresh w.heap.size H := ⟨fr.1, fun x hx => by have := fr.2 x hx; omega⟩
   have nHO : w.heap.size ∉ H := fun hin => by have := fr.2 _ hin; omega
   have nGH : ∀ b ∈ H, b ∉ G := fun b hb hin => by
    have h1 := fr.2 b hb
    have h2 := (pSymbols _).lt REPS0.out b hin
    omega
   have hgH : g ∉ H := fun hin => by have := fr.2 _ hin; omega
   have hlH : ∀ b ∈ H, b < w3.heap.size := fun b hb => (pNodes _).lt rep b hb
   have nbG : w3.heap.size ∉ G := fun hin => by have := (pSymbols _).lt REPS.out _ hin; omega
   replace nbG := Lib.hid nbG
   have R5 := Row.new w3 28 #[.slice A' ns.length c']
   replace RT := RT.alloc (.cells #[.slice A' ns.length c'] 28)
   replace REPS := Lib.hid (REPS.out.alloc (.cells #[.slice A' ns.length c'] 28))
   have REPT := Lib.hid (rep.alloc (.cells #[.slice A' ns.length c'] 28))
   replace S1 := S1.alloc (.cells #[.slice A' ns.length c'] 28)
   replace O1 := O1.alloc (.cells #[.slice A' ns.length c'] 28)
   have FRH := Lib.hid frH
   clear rep fr H3 frH REPS0
   go_upto_region 5 with fail
   generalize hw4 : w3.alloc (.cells #[.slice A' ns.length c'] 28) = w4 at RT R5 REPS REPT S1 O1 ⊢
   have hb5 : w3.heap.size < w4.heap.size := R5.lt
   replace hs1' : w.heap.size < w3.heap.size := by omega
   generalize w3.heap.size = b5 at R5 hlH hb5 hs1' nbG ⊢
   clear hw4 hs3 b3 b2
   by_cases hn0 : ns.length = 0
   · have z5 : ((ns.length : Int) == 0) = true := by simp only [beq_iff_eq]; omega
     clear hn0
     have r0 := R5.c0
     go_upto_region 6 with fail
     have hS : (fun w' : World => w'.cell? ⟨b5, 0, none⟩ = some (.slice A' ns.length c')) w4.drew := R5.c0
     dsimp only at hS
     refine wp_region_held_drew (S := (fun w' : World => w'.cell? ⟨b5, 0, none⟩ = some (.slice A' ns.length c'))) (by kernel_rfl) hS (fun _ => ?_)
     refine tJ 0 hS ?_
     refine tJ 1 hS ?_
     refine tJ 2 hS ?_
     have q0 := RT.c0
     have qF := RT.frozen
     refine rJ 3 fun K hK => ?_
     go_simp
     refine hK.out _ _ ((Row.far R5 (p := ⟨w.heap.size, 0, none⟩) (by show b5 ≠ w.heap.size; omega) _).c0) (fun _ => ?_)
     clear hK K hS q0 qF
     refine wpAnyH_done (by kernel_rfl) ?_ _
     have RR := RT.set 0 (.slice A' ns.length c')
     have d0 := RR.c0
     have NS := (REPS.out.setCell (p := ⟨w.heap.size, 0, none⟩) nGO (.slice A' ns.length c')).drew
     have NT := (REPT.out.setCell (p := ⟨w.heap.size, 0, none⟩) nHO (.slice A' ns.length c')).drew
     have SS := (S1.far (p := ⟨w.heap.size, 0, none⟩) hB (.slice A' ns.length c')).drew'
     have OO := (O1.set_new (p := ⟨w.heap.size, 0, none⟩) (Nat.le_refl _) (.slice A' ns.length c')).drew
     clear RR RT R5 REPS S1 O1
     go_wp2_with fail
     refine bodyPost_ret (v := .tuple #[vl, .agg #[.slice A' ns.length c']]) (by simp [results, Try.results37, go_sem, d0]) rfl ⟨xs, ns, _, _, G, _, rfl, NS, NT, FR.out, FRH.out, hl, HSM.out, by omega, SS.more (by omega), OO⟩
   · have z5 : ((ns.length : Int) == 0) = false := by simp only [beq_eq_false_iff_ne]; omega
     have r0 := R5.c0
     have H5 := Lib.hid (src_pick_c w4 S1 (by omega) (ns.length : Int) (by omega))
     clear S1
     go_wp2_with fail
     refine H5.out.mono ?_
     rintro e w5 ⟨⟨r, rr0, rr1, rfl⟩, S5, O5⟩
     obtain ⟨a, rfl⟩ : ∃ a : Nat, r = (a : Int) := ⟨r.toNat, by omega⟩
     have ha : a < ns.length := by omega
     clear rr0 rr1 H5 r0
     replace RT := row_o RT O5 (by omega)
     replace R5 := row_o R5 O5 (by omega)
     replace REPS := Lib.hid (REPS.out.only O5 (fun b hb hin => by simp at hin; subst hin; exact hgG hb))
     replace REPT := Lib.hid (REPT.out.only O5 (fun b hb hin => by simp at hin; subst hin; exact hgH hb))
     replace O5 := O1.trans O5
     clear O1
     have hs5 := O5.size
     obtain ⟨gN, cN, csN, restN, GN, hvN, hlN, hcN, hrow, hrp, hlenN, hGN⟩ := row_of_slice REPT.out (by omega)
     obtain ⟨rfl, rfl⟩ := repL_pNode_inv hrp
     have OKN := Lib.hid (pNodes_ok REPT.out)
     rw [Value.slice.injEq] at hvN
     obtain ⟨rfl, -, rfl⟩ := hvN
     subst hGN
     have hg5N : gN ≠ w.heap.size := fun h => nHO (by rw [h]; simp)
     have hgNb := hlH gN (by simp)
     have hwN := FRH.out.2 gN (by simp)
     have nGN := Lib.hid (nGH gN (by simp))
     have hgN5 : gN ≠ g := fun h => hgH (by rw [h]; simp)
     have r0 := R5.c0
     have H6 := Lib.hid (src_pick_c w5 S5 (by omega) 14 (by omega))
     clear S5
     go_wp2_with fail
     refine H6.out.mono ?_
     rintro e w6 ⟨⟨k, k0, k1, rfl⟩, S6, O6⟩
     replace RT := row_o RT O6 (by omega)
     replace R5 := row_o R5 O6 (by omega)
     have RN0 := row_o hrow O6 hgN5
     replace REPS := Lib.hid (REPS.out.only O6 (fun b hb hin => by simp at hin; subst hin; exact hgG hb))
     replace REPT := Lib.hid (REPT.out.only O6 (fun b hb hin => by simp at hin; subst hin; exact hgH hb))
     replace O6 := O5.trans O6
     clear O5 hrow H6 r0
     obtain ⟨as', nd, bs, hsp, hla⟩ : ∃ as' nd bs, Hid (ns = as' ++ nd :: bs) ∧ Hid (as'.length = a) := ⟨ns.take a, ns[a], ns.drop (a + 1), Lib.hid (by simp), Lib.hid (by rw [List.length_take]; omega)⟩
     have RN : Row w6 gN 76 (as'.flatMap pNodeCells ++ (.int .i64 nd.kind :: .int .i64 nd.a :: .int .i64 nd.b :: .int .i64 nd.sign :: (bs.flatMap pNodeCells ++ restN))) := by
      have h := RN0
      rw [hsp.out] at h
      simp only [List.flatMap_append, List.flatMap_cons, pNodeCells, List.append_assoc, List.cons_append, List.nil_append] at h
      exact h
     have HLN := Lib.hid hlenN
     clear RN0 hlenN hrp
     have hlenN := HLN
     clear HLN
     have kk : k = 0 ∨ k = 1 ∨ k = 2 ∨ k = 3 ∨ k = 4 ∨ k = 5 ∨ 6 ≤ k := by omega
     rcases kk with hk | hk | hk | hk | hk | hk | h6
     · subst hk
       clear REPT
       have HP := Lib.hid (src_pick_c w6 S6 (by omega) 8 (by omega))
       clear S6
       go_wp2_with fail
       refine HP.out.mono ?_
       rintro e w7 ⟨⟨q, q0, q1, rfl⟩, S7, O7⟩
       replace RT := row_o RT O7 (by omega)
       replace R5 := row_o R5 O7 (by omega)
       replace RN := row_o RN O7 hgN5
       replace REPS := Lib.hid (REPS.out.only O7 (fun b hb hin => by simp at hin; subst hin; exact hgG hb))
       replace O7 := O6.trans O7
       clear O6 HP
       have e1 := IntWalk.i64_in (q - 1) (by omega)
       have c0 := RN.atJ (i := a * 4) (j := 0) (by rw [pNodeCells_len, hla.out]; try omega) rfl
       have cF := RN.frozen
       go_upto_region 22 with fail
       have RN2 := RN.put (j := 0) (i := a * 4) (by rw [pNodeCells_len, hla.out]; try omega) (.int .i64 (q - 1))
       have RN3 : Row (w7.setCell ⟨gN, a * 4, none⟩ (.int .i64 (q - 1))) gN 76 ((as' ++ (⟨q - 1, nd.a, nd.b, nd.sign⟩ : PNode) :: bs).flatMap pNodeCells ++ restN) := by
        simp only [List.flatMap_append, List.flatMap_cons, pNodeCells, List.append_assoc, List.cons_append, List.nil_append]
        exact RN2
       replace RT := RT.far (p := ⟨gN, a * 4, none⟩) (Ne.symm hg5N) (.int .i64 (q - 1))
       replace R5 := R5.far (p := ⟨gN, a * 4, none⟩) (by show b5 ≠ gN; omega) (.int .i64 (q - 1))
       replace REPS := Lib.hid (REPS.out.setCell (p := ⟨gN, a * 4, none⟩) nGN.out (.int .i64 (q - 1)))
       replace S7 := S7.far (p := ⟨gN, a * 4, none⟩) (by show B ≤ gN; omega) (.int .i64 (q - 1))
       replace O7 := O7.set_new (p := ⟨gN, a * 4, none⟩) hwN (.int .i64 (q - 1))
       clear RN RN2 c0 cF
       generalize w7.setCell ⟨gN, a * 4, none⟩ (.int .i64 (q - 1)) = w8 at RT R5 RN3 REPS S7 O7 ⊢
       have hokN : ∀ s ∈ (as' ++ (⟨q - 1, nd.a, nd.b, nd.sign⟩ : PNode) :: bs), pNodeOk s := fun s hs => by
        have hsp' := hsp.out
        rcases List.mem_append.1 hs with hs | hs
        · exact OKN.out s (by rw [hsp']; exact List.mem_append.2 (.inl hs))
        · rcases List.mem_cons.1 hs with hs | hs
          · have hnd := OKN.out nd (by rw [hsp']; simp)
            unfold pNodeOk I64 at hnd
            subst hs; unfold pNodeOk I64; dsimp only; omega
          · exact OKN.out s (by rw [hsp']; simp [hs])
       have hsp' := hsp.out
       have hlnN : (as' ++ (⟨q - 1, nd.a, nd.b, nd.sign⟩ : PNode) :: bs).length = ns.length := by rw [hsp']; simp
       have RNL : ((as' ++ (⟨q - 1, nd.a, nd.b, nd.sign⟩ : PNode) :: bs).flatMap pNodeCells ++ restN).length = c' * pNode.size := by
        have h := hlenN.out
        rw [List.length_append, pNodeCells_len] at h ⊢
        rw [hlnN]; exact h
       have REPT := Lib.hid (slice_of_room (T := pNode) RN3 (repL_pNode (as' ++ (⟨q - 1, nd.a, nd.b, nd.sign⟩ : PNode) :: bs) hokN) hlnN hlN hcN RNL)
       have LNN := Lib.hid hlnN
       clear hsp' hokN hlnN RNL RN3
       go_upto_region 22 with fail
       have hS : (fun w' : World => w'.cell? ⟨b5, 0, none⟩ = some (.slice (some ⟨gN, 0, none⟩) ns.length c')) w8.drew := R5.c0
       dsimp only at hS
       refine wp_region_held_drew (S := (fun w' : World => w'.cell? ⟨b5, 0, none⟩ = some (.slice (some ⟨gN, 0, none⟩) ns.length c'))) (by kernel_rfl) hS (fun _ => ?_)
       refine tJ 0 hS ?_
       refine tJ 1 hS ?_
       refine tJ 2 hS ?_
       have q0 := RT.c0
       have qF := RT.frozen
       refine rJ 3 fun K hK => ?_
       go_simp
       refine hK.out _ _ ((Row.far R5 (p := ⟨w.heap.size, 0, none⟩) (by show b5 ≠ w.heap.size; omega) _).c0) (fun _ => ?_)
       clear hK K hS q0 qF
       refine wpAnyH_done (by kernel_rfl) ?_ _
       have RR := RT.set 0 (.slice (some ⟨gN, 0, none⟩) ns.length c')
       have d0 := RR.c0
       have NS := (REPS.out.setCell (p := ⟨w.heap.size, 0, none⟩) nGO (.slice (some ⟨gN, 0, none⟩) ns.length c')).drew
       have NT := (REPT.out.setCell (p := ⟨w.heap.size, 0, none⟩) nHO (.slice (some ⟨gN, 0, none⟩) ns.length c')).drew
       have SS := (S7.far (p := ⟨w.heap.size, 0, none⟩) hB (.slice (some ⟨gN, 0, none⟩) ns.length c')).drew'
       have OO := (O7.set_new (p := ⟨w.heap.size, 0, none⟩) (Nat.le_refl _) (.slice (some ⟨gN, 0, none⟩) ns.length c')).drew
       clear RR RT R5 REPS S7 O7
       go_wp2_with fail
       refine bodyPost_ret (v := .tuple #[vl, .agg #[.slice (some ⟨gN, 0, none⟩) ns.length c']]) (by simp [results, Try.results37, go_sem, d0]) rfl ⟨xs, (as' ++ (⟨q - 1, nd.a, nd.b, nd.sign⟩ : PNode) :: bs), _, _, G, _, rfl, NS, NT, FR.out, FRH.out, hl, HSM.out, by have := LNN.out; omega, SS.more (by omega), OO⟩
     · subst hk
       clear REPT
       have HP := Lib.hid (src_pick_c w6 S6 (by omega) 9 (by omega))
       clear S6
       go_wp2_with fail
       refine HP.out.mono ?_
       rintro e w7 ⟨⟨q, q0, q1, rfl⟩, S7, O7⟩
       replace RT := row_o RT O7 (by omega)
       replace R5 := row_o R5 O7 (by omega)
       replace RN := row_o RN O7 hgN5
       replace REPS := Lib.hid (REPS.out.only O7 (fun b hb hin => by simp at hin; subst hin; exact hgG hb))
       replace O7 := O6.trans O7
       clear O6 HP
       have e1 := IntWalk.i64_in (q - 1) (by omega)
       have c0 := RN.atJ (i := a * 4 + 1) (j := 1) (by rw [pNodeCells_len, hla.out]; try omega) rfl
       have cF := RN.frozen
       go_upto_region 22 with fail
       have RN2 := RN.put (j := 1) (i := a * 4 + 1) (by rw [pNodeCells_len, hla.out]; try omega) (.int .i64 (q - 1))
       have RN3 : Row (w7.setCell ⟨gN, a * 4 + 1, none⟩ (.int .i64 (q - 1))) gN 76 ((as' ++ (⟨nd.kind, q - 1, nd.b, nd.sign⟩ : PNode) :: bs).flatMap pNodeCells ++ restN) := by
        simp only [List.flatMap_append, List.flatMap_cons, pNodeCells, List.append_assoc, List.cons_append, List.nil_append]
        exact RN2
       replace RT := RT.far (p := ⟨gN, a * 4 + 1, none⟩) (Ne.symm hg5N) (.int .i64 (q - 1))
       replace R5 := R5.far (p := ⟨gN, a * 4 + 1, none⟩) (by show b5 ≠ gN; omega) (.int .i64 (q - 1))
       replace REPS := Lib.hid (REPS.out.setCell (p := ⟨gN, a * 4 + 1, none⟩) nGN.out (.int .i64 (q - 1)))
       replace S7 := S7.far (p := ⟨gN, a * 4 + 1, none⟩) (by show B ≤ gN; omega) (.int .i64 (q - 1))
       replace O7 := O7.set_new (p := ⟨gN, a * 4 + 1, none⟩) hwN (.int .i64 (q - 1))
       clear RN RN2 c0 cF
       generalize w7.setCell ⟨gN, a * 4 + 1, none⟩ (.int .i64 (q - 1)) = w8 at RT R5 RN3 REPS S7 O7 ⊢
       have hokN : ∀ s ∈ (as' ++ (⟨nd.kind, q - 1, nd.b, nd.sign⟩ : PNode) :: bs), pNodeOk s := fun s hs => by
        have hsp' := hsp.out
        rcases List.mem_append.1 hs with hs | hs
        · exact OKN.out s (by rw [hsp']; exact List.mem_append.2 (.inl hs))
        · rcases List.mem_cons.1 hs with hs | hs
          · have hnd := OKN.out nd (by rw [hsp']; simp)
            unfold pNodeOk I64 at hnd
            subst hs; unfold pNodeOk I64; dsimp only; omega
          · exact OKN.out s (by rw [hsp']; simp [hs])
       have hsp' := hsp.out
       have hlnN : (as' ++ (⟨nd.kind, q - 1, nd.b, nd.sign⟩ : PNode) :: bs).length = ns.length := by rw [hsp']; simp
       have RNL : ((as' ++ (⟨nd.kind, q - 1, nd.b, nd.sign⟩ : PNode) :: bs).flatMap pNodeCells ++ restN).length = c' * pNode.size := by
        have h := hlenN.out
        rw [List.length_append, pNodeCells_len] at h ⊢
        rw [hlnN]; exact h
       have REPT := Lib.hid (slice_of_room (T := pNode) RN3 (repL_pNode (as' ++ (⟨nd.kind, q - 1, nd.b, nd.sign⟩ : PNode) :: bs) hokN) hlnN hlN hcN RNL)
       have LNN := Lib.hid hlnN
       clear hsp' hokN hlnN RNL RN3
       go_upto_region 22 with fail
       have hS : (fun w' : World => w'.cell? ⟨b5, 0, none⟩ = some (.slice (some ⟨gN, 0, none⟩) ns.length c')) w8.drew := R5.c0
       dsimp only at hS
       refine wp_region_held_drew (S := (fun w' : World => w'.cell? ⟨b5, 0, none⟩ = some (.slice (some ⟨gN, 0, none⟩) ns.length c'))) (by kernel_rfl) hS (fun _ => ?_)
       refine tJ 0 hS ?_
       refine tJ 1 hS ?_
       refine tJ 2 hS ?_
       have q0 := RT.c0
       have qF := RT.frozen
       refine rJ 3 fun K hK => ?_
       go_simp
       refine hK.out _ _ ((Row.far R5 (p := ⟨w.heap.size, 0, none⟩) (by show b5 ≠ w.heap.size; omega) _).c0) (fun _ => ?_)
       clear hK K hS q0 qF
       refine wpAnyH_done (by kernel_rfl) ?_ _
       have RR := RT.set 0 (.slice (some ⟨gN, 0, none⟩) ns.length c')
       have d0 := RR.c0
       have NS := (REPS.out.setCell (p := ⟨w.heap.size, 0, none⟩) nGO (.slice (some ⟨gN, 0, none⟩) ns.length c')).drew
       have NT := (REPT.out.setCell (p := ⟨w.heap.size, 0, none⟩) nHO (.slice (some ⟨gN, 0, none⟩) ns.length c')).drew
       have SS := (S7.far (p := ⟨w.heap.size, 0, none⟩) hB (.slice (some ⟨gN, 0, none⟩) ns.length c')).drew'
       have OO := (O7.set_new (p := ⟨w.heap.size, 0, none⟩) (Nat.le_refl _) (.slice (some ⟨gN, 0, none⟩) ns.length c')).drew
       clear RR RT R5 REPS S7 O7
       go_wp2_with fail
       refine bodyPost_ret (v := .tuple #[vl, .agg #[.slice (some ⟨gN, 0, none⟩) ns.length c']]) (by simp [results, Try.results37, go_sem, d0]) rfl ⟨xs, (as' ++ (⟨nd.kind, q - 1, nd.b, nd.sign⟩ : PNode) :: bs), _, _, G, _, rfl, NS, NT, FR.out, FRH.out, hl, HSM.out, by have := LNN.out; omega, SS.more (by omega), OO⟩
     · subst hk
       clear REPT
       have HP := Lib.hid (src_pick_c w6 S6 (by omega) 9 (by omega))
       clear S6
       go_wp2_with fail
       refine HP.out.mono ?_
       rintro e w7 ⟨⟨q, q0, q1, rfl⟩, S7, O7⟩
       replace RT := row_o RT O7 (by omega)
       replace R5 := row_o R5 O7 (by omega)
       replace RN := row_o RN O7 hgN5
       replace REPS := Lib.hid (REPS.out.only O7 (fun b hb hin => by simp at hin; subst hin; exact hgG hb))
       replace O7 := O6.trans O7
       clear O6 HP
       have e1 := IntWalk.i64_in (q - 1) (by omega)
       have c0 := RN.atJ (i := a * 4 + 2) (j := 2) (by rw [pNodeCells_len, hla.out]; try omega) rfl
       have cF := RN.frozen
       go_upto_region 22 with fail
       have RN2 := RN.put (j := 2) (i := a * 4 + 2) (by rw [pNodeCells_len, hla.out]; try omega) (.int .i64 (q - 1))
       have RN3 : Row (w7.setCell ⟨gN, a * 4 + 2, none⟩ (.int .i64 (q - 1))) gN 76 ((as' ++ (⟨nd.kind, nd.a, q - 1, nd.sign⟩ : PNode) :: bs).flatMap pNodeCells ++ restN) := by
        simp only [List.flatMap_append, List.flatMap_cons, pNodeCells, List.append_assoc, List.cons_append, List.nil_append]
        exact RN2
       replace RT := RT.far (p := ⟨gN, a * 4 + 2, none⟩) (Ne.symm hg5N) (.int .i64 (q - 1))
       replace R5 := R5.far (p := ⟨gN, a * 4 + 2, none⟩) (by show b5 ≠ gN; omega) (.int .i64 (q - 1))
       replace REPS := Lib.hid (REPS.out.setCell (p := ⟨gN, a * 4 + 2, none⟩) nGN.out (.int .i64 (q - 1)))
       replace S7 := S7.far (p := ⟨gN, a * 4 + 2, none⟩) (by show B ≤ gN; omega) (.int .i64 (q - 1))
       replace O7 := O7.set_new (p := ⟨gN, a * 4 + 2, none⟩) hwN (.int .i64 (q - 1))
       clear RN RN2 c0 cF
       generalize w7.setCell ⟨gN, a * 4 + 2, none⟩ (.int .i64 (q - 1)) = w8 at RT R5 RN3 REPS S7 O7 ⊢
       have hokN : ∀ s ∈ (as' ++ (⟨nd.kind, nd.a, q - 1, nd.sign⟩ : PNode) :: bs), pNodeOk s := fun s hs => by
        have hsp' := hsp.out
        rcases List.mem_append.1 hs with hs | hs
        · exact OKN.out s (by rw [hsp']; exact List.mem_append.2 (.inl hs))
        · rcases List.mem_cons.1 hs with hs | hs
          · have hnd := OKN.out nd (by rw [hsp']; simp)
            unfold pNodeOk I64 at hnd
            subst hs; unfold pNodeOk I64; dsimp only; omega
          · exact OKN.out s (by rw [hsp']; simp [hs])
       have hsp' := hsp.out
       have hlnN : (as' ++ (⟨nd.kind, nd.a, q - 1, nd.sign⟩ : PNode) :: bs).length = ns.length := by rw [hsp']; simp
       have RNL : ((as' ++ (⟨nd.kind, nd.a, q - 1, nd.sign⟩ : PNode) :: bs).flatMap pNodeCells ++ restN).length = c' * pNode.size := by
        have h := hlenN.out
        rw [List.length_append, pNodeCells_len] at h ⊢
        rw [hlnN]; exact h
       have REPT := Lib.hid (slice_of_room (T := pNode) RN3 (repL_pNode (as' ++ (⟨nd.kind, nd.a, q - 1, nd.sign⟩ : PNode) :: bs) hokN) hlnN hlN hcN RNL)
       have LNN := Lib.hid hlnN
       clear hsp' hokN hlnN RNL RN3
       go_upto_region 22 with fail
       have hS : (fun w' : World => w'.cell? ⟨b5, 0, none⟩ = some (.slice (some ⟨gN, 0, none⟩) ns.length c')) w8.drew := R5.c0
       dsimp only at hS
       refine wp_region_held_drew (S := (fun w' : World => w'.cell? ⟨b5, 0, none⟩ = some (.slice (some ⟨gN, 0, none⟩) ns.length c'))) (by kernel_rfl) hS (fun _ => ?_)
       refine tJ 0 hS ?_
       refine tJ 1 hS ?_
       refine tJ 2 hS ?_
       have q0 := RT.c0
       have qF := RT.frozen
       refine rJ 3 fun K hK => ?_
       go_simp
       refine hK.out _ _ ((Row.far R5 (p := ⟨w.heap.size, 0, none⟩) (by show b5 ≠ w.heap.size; omega) _).c0) (fun _ => ?_)
       clear hK K hS q0 qF
       refine wpAnyH_done (by kernel_rfl) ?_ _
       have RR := RT.set 0 (.slice (some ⟨gN, 0, none⟩) ns.length c')
       have d0 := RR.c0
       have NS := (REPS.out.setCell (p := ⟨w.heap.size, 0, none⟩) nGO (.slice (some ⟨gN, 0, none⟩) ns.length c')).drew
       have NT := (REPT.out.setCell (p := ⟨w.heap.size, 0, none⟩) nHO (.slice (some ⟨gN, 0, none⟩) ns.length c')).drew
       have SS := (S7.far (p := ⟨w.heap.size, 0, none⟩) hB (.slice (some ⟨gN, 0, none⟩) ns.length c')).drew'
       have OO := (O7.set_new (p := ⟨w.heap.size, 0, none⟩) (Nat.le_refl _) (.slice (some ⟨gN, 0, none⟩) ns.length c')).drew
       clear RR RT R5 REPS S7 O7
       go_wp2_with fail
       refine bodyPost_ret (v := .tuple #[vl, .agg #[.slice (some ⟨gN, 0, none⟩) ns.length c']]) (by simp [results, Try.results37, go_sem, d0]) rfl ⟨xs, (as' ++ (⟨nd.kind, nd.a, q - 1, nd.sign⟩ : PNode) :: bs), _, _, G, _, rfl, NS, NT, FR.out, FRH.out, hl, HSM.out, by have := LNN.out; omega, SS.more (by omega), OO⟩
     · subst hk
       clear REPT
       have HP := Lib.hid (src_pick_c w6 S6 (by omega) 9 (by omega))
       clear S6
       go_wp2_with fail
       refine HP.out.mono ?_
       rintro e w7 ⟨⟨q, q0, q1, rfl⟩, S7, O7⟩
       replace RT := row_o RT O7 (by omega)
       replace R5 := row_o R5 O7 (by omega)
       replace RN := row_o RN O7 hgN5
       replace REPS := Lib.hid (REPS.out.only O7 (fun b hb hin => by simp at hin; subst hin; exact hgG hb))
       replace O7 := O6.trans O7
       clear O6 HP
       have e1 := IntWalk.i64_in (q - 1) (by omega)
       have c0 := RN.atJ (i := a * 4 + 3) (j := 3) (by rw [pNodeCells_len, hla.out]; try omega) rfl
       have cF := RN.frozen
       go_upto_region 22 with fail
       have RN2 := RN.put (j := 3) (i := a * 4 + 3) (by rw [pNodeCells_len, hla.out]; try omega) (.int .i64 (q - 1))
       have RN3 : Row (w7.setCell ⟨gN, a * 4 + 3, none⟩ (.int .i64 (q - 1))) gN 76 ((as' ++ (⟨nd.kind, nd.a, nd.b, q - 1⟩ : PNode) :: bs).flatMap pNodeCells ++ restN) := by
        simp only [List.flatMap_append, List.flatMap_cons, pNodeCells, List.append_assoc, List.cons_append, List.nil_append]
        exact RN2
       replace RT := RT.far (p := ⟨gN, a * 4 + 3, none⟩) (Ne.symm hg5N) (.int .i64 (q - 1))
       replace R5 := R5.far (p := ⟨gN, a * 4 + 3, none⟩) (by show b5 ≠ gN; omega) (.int .i64 (q - 1))
       replace REPS := Lib.hid (REPS.out.setCell (p := ⟨gN, a * 4 + 3, none⟩) nGN.out (.int .i64 (q - 1)))
       replace S7 := S7.far (p := ⟨gN, a * 4 + 3, none⟩) (by show B ≤ gN; omega) (.int .i64 (q - 1))
       replace O7 := O7.set_new (p := ⟨gN, a * 4 + 3, none⟩) hwN (.int .i64 (q - 1))
       clear RN RN2 c0 cF
       generalize w7.setCell ⟨gN, a * 4 + 3, none⟩ (.int .i64 (q - 1)) = w8 at RT R5 RN3 REPS S7 O7 ⊢
       have hokN : ∀ s ∈ (as' ++ (⟨nd.kind, nd.a, nd.b, q - 1⟩ : PNode) :: bs), pNodeOk s := fun s hs => by
        have hsp' := hsp.out
        rcases List.mem_append.1 hs with hs | hs
        · exact OKN.out s (by rw [hsp']; exact List.mem_append.2 (.inl hs))
        · rcases List.mem_cons.1 hs with hs | hs
          · have hnd := OKN.out nd (by rw [hsp']; simp)
            unfold pNodeOk I64 at hnd
            subst hs; unfold pNodeOk I64; dsimp only; omega
          · exact OKN.out s (by rw [hsp']; simp [hs])
       have hsp' := hsp.out
       have hlnN : (as' ++ (⟨nd.kind, nd.a, nd.b, q - 1⟩ : PNode) :: bs).length = ns.length := by rw [hsp']; simp
       have RNL : ((as' ++ (⟨nd.kind, nd.a, nd.b, q - 1⟩ : PNode) :: bs).flatMap pNodeCells ++ restN).length = c' * pNode.size := by
        have h := hlenN.out
        rw [List.length_append, pNodeCells_len] at h ⊢
        rw [hlnN]; exact h
       have REPT := Lib.hid (slice_of_room (T := pNode) RN3 (repL_pNode (as' ++ (⟨nd.kind, nd.a, nd.b, q - 1⟩ : PNode) :: bs) hokN) hlnN hlN hcN RNL)
       have LNN := Lib.hid hlnN
       clear hsp' hokN hlnN RNL RN3
       go_upto_region 22 with fail
       have hS : (fun w' : World => w'.cell? ⟨b5, 0, none⟩ = some (.slice (some ⟨gN, 0, none⟩) ns.length c')) w8.drew := R5.c0
       dsimp only at hS
       refine wp_region_held_drew (S := (fun w' : World => w'.cell? ⟨b5, 0, none⟩ = some (.slice (some ⟨gN, 0, none⟩) ns.length c'))) (by kernel_rfl) hS (fun _ => ?_)
       refine tJ 0 hS ?_
       refine tJ 1 hS ?_
       refine tJ 2 hS ?_
       have q0 := RT.c0
       have qF := RT.frozen
       refine rJ 3 fun K hK => ?_
       go_simp
       refine hK.out _ _ ((Row.far R5 (p := ⟨w.heap.size, 0, none⟩) (by show b5 ≠ w.heap.size; omega) _).c0) (fun _ => ?_)
       clear hK K hS q0 qF
       refine wpAnyH_done (by kernel_rfl) ?_ _
       have RR := RT.set 0 (.slice (some ⟨gN, 0, none⟩) ns.length c')
       have d0 := RR.c0
       have NS := (REPS.out.setCell (p := ⟨w.heap.size, 0, none⟩) nGO (.slice (some ⟨gN, 0, none⟩) ns.length c')).drew
       have NT := (REPT.out.setCell (p := ⟨w.heap.size, 0, none⟩) nHO (.slice (some ⟨gN, 0, none⟩) ns.length c')).drew
       have SS := (S7.far (p := ⟨w.heap.size, 0, none⟩) hB (.slice (some ⟨gN, 0, none⟩) ns.length c')).drew'
       have OO := (O7.set_new (p := ⟨w.heap.size, 0, none⟩) (Nat.le_refl _) (.slice (some ⟨gN, 0, none⟩) ns.length c')).drew
       clear RR RT R5 REPS S7 O7
       go_wp2_with fail
       refine bodyPost_ret (v := .tuple #[vl, .agg #[.slice (some ⟨gN, 0, none⟩) ns.length c']]) (by simp [results, Try.results37, go_sem, d0]) rfl ⟨xs, (as' ++ (⟨nd.kind, nd.a, nd.b, q - 1⟩ : PNode) :: bs), _, _, G, _, rfl, NS, NT, FR.out, FRH.out, hl, HSM.out, by have := LNN.out; omega, SS.more (by omega), OO⟩
     · subst hk
       have r0 := R5.c0
       have rF := R5.frozen
       have ok1 : ∀ s ∈ [(⟨1, (a : Int), 0, 0⟩ : PNode)], pNodeOk s := fun s hs => by simp only [List.mem_singleton] at hs; subst hs; unfold pNodeOk I64; dsimp only; omega
       have OK1 := Lib.hid ok1
       have hls : w6.heap.size > b5 := R5.lt
       clear ok1
       go_upto_region 22 with (at_builtin; refine wpList_append_repX (T := pNode) (e := 76) (ys := [(⟨1, (a : Int), 0, 0⟩ : PNode)]) (ec := [.int .i64 1, .int .i64 (a : Int), .int .i64 0, .int .i64 0]) rfl (.tmp 77) (.tmp 80) rfl Try.underlying26 infoNode rfl (by decide) rfl (REPT.out.alloc _) rfl (repL_pNode [(⟨1, (a : Int), 0, 0⟩ : PNode)] OK1.out) (cellsAt_new _ _ _) trivial (by rw [List.append_nil]; exact FRH.out.1) (by simp [maxLen]; omega) (by simp; omega) ?_; intro v6 w7 F6 r6 o6 q6 x6; have R6 := Lib.hid r6; have O7 := Lib.hid o6; have Q6 := Lib.hid q6; have X6 := Lib.hid x6; obtain ⟨A6, n6, c6, rfl⟩ := slice_form r6; have R57 : Row w7 b5 28 [.slice (some ⟨gN, 0, none⟩) ns.length c'] := (o6.block _ (R5.alloc (.cells #[.int .i64 1, .int .i64 (a : Int), .int .i64 0, .int .i64 0] 76)).lt (by simp; omega)).trans (R5.alloc (.cells #[.int .i64 1, .int .i64 (a : Int), .int .i64 0, .int .i64 0] 76)); have r07 := R57.c0; have rF7 := R57.frozen; clear r6 o6 q6 x6 R5 r0 rF)
       have hs7 := O7.out.size
       simp only [World.alloc, Array.size_push] at hs7
       have hF6 : ∀ b ∈ F6, b ∈ [gN] ∨ w6.heap.size + 1 ≤ b := fun b hb => by
        rcases X6.out.1 b hb with h | h
        · exact .inl (by simpa using h)
        · exact .inr (by simp only [World.alloc, Array.size_push] at h; exact h)
       have hNF : ∀ b, b ≠ gN → b < w6.heap.size → b ∉ F6 := fun b h1 h2 hin => by
        rcases hF6 b hin with h | h
        · simp only [List.mem_singleton] at h; exact h1 h
        · omega
       have lRT := RT.lt
       have R5 := R57
       replace RT : Row w7 w.heap.size 28 [.slice none 0 0] := (O7.out.block _ (RT.alloc (.cells #[.int .i64 1, .int .i64 (a : Int), .int .i64 0, .int .i64 0] 76)).lt (by simp; omega)).trans (RT.alloc (.cells #[.int .i64 1, .int .i64 (a : Int), .int .i64 0, .int .i64 0] 76))
       replace REPS := Lib.hid ((REPS.out.alloc (.cells #[.int .i64 1, .int .i64 (a : Int), .int .i64 0, .int .i64 0] 76)).only O7.out (fun b hb hin => by simp only [List.mem_singleton] at hin; subst hin; exact nGN.out hb))
       have S7 := (S6.alloc (.cells #[.int .i64 1, .int .i64 (a : Int), .int .i64 0, .int .i64 0] 76)).only O7.out (fun x hx => by simp only [List.mem_singleton] at hx; omega)
       have O8 := only_newS (O6.alloc (.cells #[.int .i64 1, .int .i64 (a : Int), .int .i64 0, .int .i64 0] 76)) O7.out (fun x hx => .inr (by simp only [List.mem_singleton] at hx; omega))
       have nb5F : b5 ∉ F6 := hNF b5 (by omega) (by omega)
       have nOF : w.heap.size ∉ F6 := hNF _ (Ne.symm hg5N) lRT
       have FR6 := Lib.hid (Q6.out w.heap.size (by rw [List.append_nil]; exact FRH.out) (by simp; omega))
       have REPT2 := Lib.hid (R6.out.setCell (p := ⟨b5, 0, none⟩) nb5F (.slice A6 n6 c6))
       clear R57 r07 rF7 REPT R6 O6 O7 S6 Q6 X6 hF6 hNF RN
       replace RT := RT.far (p := ⟨b5, 0, none⟩) (by show w.heap.size ≠ b5; omega) (.slice A6 n6 c6)
       replace R5 : Row (w7.setCell ⟨b5, 0, none⟩ (.slice A6 n6 c6)) b5 28 [.slice A6 n6 c6] := R5.set 0 (.slice A6 n6 c6)
       replace REPS := Lib.hid (REPS.out.setCell (p := ⟨b5, 0, none⟩) nbG.out (.slice A6 n6 c6))
       replace S7 := S7.far (p := ⟨b5, 0, none⟩) (by show B ≤ b5; omega) (.slice A6 n6 c6)
       replace O8 := O8.set_new (p := ⟨b5, 0, none⟩) (by show w.heap.size ≤ b5; omega) (.slice A6 n6 c6)
       generalize w7.setCell ⟨b5, 0, none⟩ (.slice A6 n6 c6) = w8 at RT R5 REPT2 REPS S7 O8 ⊢
       have nHO := nOF
       have hnn : Hid ((ns ++ [(⟨1, (a : Int), 0, 0⟩ : PNode)]).length ≤ 16) := Lib.hid (by rw [List.length_append]; simp only [List.length_cons, List.length_nil]; omega)
       go_upto_region 22 with fail
       have hS : (fun w' : World => w'.cell? ⟨b5, 0, none⟩ = some (.slice A6 n6 c6)) w8.drew := R5.c0
       dsimp only at hS
       refine wp_region_held_drew (S := (fun w' : World => w'.cell? ⟨b5, 0, none⟩ = some (.slice A6 n6 c6))) (by kernel_rfl) hS (fun _ => ?_)
       refine tJ 0 hS ?_
       refine tJ 1 hS ?_
       refine tJ 2 hS ?_
       have q0 := RT.c0
       have qF := RT.frozen
       refine rJ 3 fun K hK => ?_
       go_simp
       refine hK.out _ _ ((Row.far R5 (p := ⟨w.heap.size, 0, none⟩) (by show b5 ≠ w.heap.size; omega) _).c0) (fun _ => ?_)
       clear hK K hS q0 qF
       refine wpAnyH_done (by kernel_rfl) ?_ _
       have RR := RT.set 0 (.slice A6 n6 c6)
       have d0 := RR.c0
       have NS := (REPS.out.setCell (p := ⟨w.heap.size, 0, none⟩) nGO (.slice A6 n6 c6)).drew
       have NT := (REPT2.out.setCell (p := ⟨w.heap.size, 0, none⟩) nHO (.slice A6 n6 c6)).drew
       have SS := (S7.far (p := ⟨w.heap.size, 0, none⟩) hB (.slice A6 n6 c6)).drew'
       have OO := (O8.set_new (p := ⟨w.heap.size, 0, none⟩) (Nat.le_refl _) (.slice A6 n6 c6)).drew
       clear RR RT R5 REPS S7 O8
       go_wp2_with fail
       refine bodyPost_ret (v := .tuple #[vl, .agg #[.slice A6 n6 c6]]) (by simp [results, Try.results37, go_sem, d0]) rfl ⟨xs, (ns ++ [(⟨1, (a : Int), 0, 0⟩ : PNode)]), _, _, G, _, rfl, NS, NT, FR.out, FR6.out, hl, HSM.out, hnn.out, SS.more (by omega), OO⟩
     · subst hk
       have r0 := R5.c0
       have rF := R5.frozen
       have hac : a ≤ c' := by omega
       go_upto_region 22 with fail
       replace RT := RT.far (p := ⟨b5, 0, none⟩) (by show w.heap.size ≠ b5; omega) (.slice (some ⟨gN, 0, none⟩) a c')
       replace R5 : Row (w6.setCell ⟨b5, 0, none⟩ (.slice (some ⟨gN, 0, none⟩) a c')) b5 28 [.slice (some ⟨gN, 0, none⟩) a c'] := R5.set 0 (.slice (some ⟨gN, 0, none⟩) a c')
       replace REPS := Lib.hid (REPS.out.setCell (p := ⟨b5, 0, none⟩) nbG.out (.slice (some ⟨gN, 0, none⟩) a c'))
       replace S6 := S6.far (p := ⟨b5, 0, none⟩) (by show B ≤ b5; omega) (.slice (some ⟨gN, 0, none⟩) a c')
       replace O6 := O6.set_new (p := ⟨b5, 0, none⟩) (by show w.heap.size ≤ b5; omega) (.slice (some ⟨gN, 0, none⟩) a c')
       replace RN := RN.far (p := ⟨b5, 0, none⟩) (by show gN ≠ b5; omega) (.slice (some ⟨gN, 0, none⟩) a c')
       clear r0 rF
       generalize w6.setCell ⟨b5, 0, none⟩ (.slice (some ⟨gN, 0, none⟩) a c') = w8 at RT R5 RN REPS S6 O6 ⊢
       have hsp' := hsp.out
       have hla' := hla.out
       have REPT2 := Lib.hid (slice_of_room (T := pNode) RN (repL_pNode as' (fun s hs => OKN.out s (by rw [hsp']; exact List.mem_append.2 (.inl hs)))) hla' hac hcN (by
        have h := hlenN.out
        rw [hsp'] at h
        simp only [List.flatMap_append, List.flatMap_cons, pNodeCells, List.append_assoc, List.cons_append, List.nil_append] at h
        exact h))
       have hnn : Hid (as'.length ≤ 16) := Lib.hid (by omega)
       clear hsp' hla' REPT RN
       go_upto_region 22 with fail
       have hS : (fun w' : World => w'.cell? ⟨b5, 0, none⟩ = some (.slice (some ⟨gN, 0, none⟩) a c')) w8.drew := R5.c0
       dsimp only at hS
       refine wp_region_held_drew (S := (fun w' : World => w'.cell? ⟨b5, 0, none⟩ = some (.slice (some ⟨gN, 0, none⟩) a c'))) (by kernel_rfl) hS (fun _ => ?_)
       refine tJ 0 hS ?_
       refine tJ 1 hS ?_
       refine tJ 2 hS ?_
       have q0 := RT.c0
       have qF := RT.frozen
       refine rJ 3 fun K hK => ?_
       go_simp
       refine hK.out _ _ ((Row.far R5 (p := ⟨w.heap.size, 0, none⟩) (by show b5 ≠ w.heap.size; omega) _).c0) (fun _ => ?_)
       clear hK K hS q0 qF
       refine wpAnyH_done (by kernel_rfl) ?_ _
       have RR := RT.set 0 (.slice (some ⟨gN, 0, none⟩) a c')
       have d0 := RR.c0
       have NS := (REPS.out.setCell (p := ⟨w.heap.size, 0, none⟩) nGO (.slice (some ⟨gN, 0, none⟩) a c')).drew
       have NT := (REPT2.out.setCell (p := ⟨w.heap.size, 0, none⟩) nHO (.slice (some ⟨gN, 0, none⟩) a c')).drew
       have SS := (S6.far (p := ⟨w.heap.size, 0, none⟩) hB (.slice (some ⟨gN, 0, none⟩) a c')).drew'
       have OO := (O6.set_new (p := ⟨w.heap.size, 0, none⟩) (Nat.le_refl _) (.slice (some ⟨gN, 0, none⟩) a c')).drew
       clear RR RT R5 REPS S6 O6
       go_wp2_with fail
       refine bodyPost_ret (v := .tuple #[vl, .agg #[.slice (some ⟨gN, 0, none⟩) a c']]) (by simp [results, Try.results37, go_sem, d0]) rfl ⟨xs, as', _, _, G, _, rfl, NS, NT, FR.out, FRH.out, hl, HSM.out, hnn.out, SS.more (by omega), OO⟩
     · skip
       have zz : Hid (6 ≤ k) := Lib.hid h6
       have z0 : (k == 0) = false := by simp only [beq_eq_false_iff_ne]; omega
       have z1 : (k == 1) = false := by simp only [beq_eq_false_iff_ne]; omega
       have z2 : (k == 2) = false := by simp only [beq_eq_false_iff_ne]; omega
       have z3 : (k == 3) = false := by simp only [beq_eq_false_iff_ne]; omega
       have z4 : (k == 4) = false := by simp only [beq_eq_false_iff_ne]; omega
       have z5' : (k == 5) = false := by simp only [beq_eq_false_iff_ne]; omega
       go_upto_region 22 with fail
       have hS : (fun w' : World => w'.cell? ⟨b5, 0, none⟩ = some (.slice (some ⟨gN, 0, none⟩) ns.length c')) w6.drew := R5.c0
       dsimp only at hS
       refine wp_region_held_drew (S := (fun w' : World => w'.cell? ⟨b5, 0, none⟩ = some (.slice (some ⟨gN, 0, none⟩) ns.length c'))) (by kernel_rfl) hS (fun _ => ?_)
       refine tJ 0 hS ?_
       refine tJ 1 hS ?_
       refine tJ 2 hS ?_
       have q0 := RT.c0
       have qF := RT.frozen
       refine rJ 3 fun K hK => ?_
       go_simp
       refine hK.out _ _ ((Row.far R5 (p := ⟨w.heap.size, 0, none⟩) (by show b5 ≠ w.heap.size; omega) _).c0) (fun _ => ?_)
       clear hK K hS q0 qF
       refine wpAnyH_done (by kernel_rfl) ?_ _
       have RR := RT.set 0 (.slice (some ⟨gN, 0, none⟩) ns.length c')
       have d0 := RR.c0
       have NS := (REPS.out.setCell (p := ⟨w.heap.size, 0, none⟩) nGO (.slice (some ⟨gN, 0, none⟩) ns.length c')).drew
       have NT := (REPT.out.setCell (p := ⟨w.heap.size, 0, none⟩) nHO (.slice (some ⟨gN, 0, none⟩) ns.length c')).drew
       have SS := (S6.far (p := ⟨w.heap.size, 0, none⟩) hB (.slice (some ⟨gN, 0, none⟩) ns.length c')).drew'
       have OO := (O6.set_new (p := ⟨w.heap.size, 0, none⟩) (Nat.le_refl _) (.slice (some ⟨gN, 0, none⟩) ns.length c')).drew
       clear RR RT R5 REPS S6 O6
       go_wp2_with fail
       refine bodyPost_ret (v := .tuple #[vl, .agg #[.slice (some ⟨gN, 0, none⟩) ns.length c']]) (by simp [results, Try.results37, go_sem, d0]) rfl ⟨xs, ns, _, _, G, _, rfl, NS, NT, FR.out, FRH.out, hl, HSM.out, by omega, SS.more (by omega), OO⟩
end Go.Proofs.Ytmopioaojdlnkaa
