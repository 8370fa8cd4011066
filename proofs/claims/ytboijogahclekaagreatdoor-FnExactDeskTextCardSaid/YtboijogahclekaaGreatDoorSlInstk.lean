/- slices.Clone, Insert, Delete at the types of pages. Conditions: none. -/
import Derived.Test.YtboijogahclekaaGreatDoorAppendk
import Derived.Test.YtboijogahclekaaGreatDoorTyLinek
namespace Go.Proofs.YtboijogahclekaaGreatDoor
open Go Go.RowKit
theorem Tryz.infoStr : (Tryz.prog.info? 9).map (fun i => (i.zero, i.size, i.bytes)) = some (some (.string .empty), str.size, 16) := by kernel_rfl
set_option maxRecDepth 100000 in
set_option maxHeartbeats 400000 in
theorem Clone_Str {o : Bool} {e : TypeId} {xs : List (ByteArray)} {v : Value} {F : List Nat} (w : World) (h : ((str).slice e).rep o w xs [v] F) (hx : xs.length ≤ 1048576) (hflat : ∀ {w : World} {cs : List Value} {G : List Nat}, repL (str) o w xs cs G → repL (str) true w xs cs []) :
 Calls Tryz.prog 154 #[v] w fun e' w' => ∃ u G, e' = .returned u ∧ ((str).slice 9).rep true w' xs [u] G ∧ Fresh w.heap.size G ∧ Below w.heap.size w w' := by
 obtain ⟨A, c, ec, F0, F1, hv, rfl, hl, hc, hr, hlt, ha, _⟩ := h
 simp only [List.cons.injEq, and_true] at hv
 subst hv
 have HA := Lib.hid ha
 clear ha
 unfold maxLen at hc
 cases A with
 | none =>
   have hxs : xs = [] := by
    by_cases h0 : 0 < xs.length
    · obtain ⟨b, off, h1, _⟩ := HA.out h0; cases h1
    · exact List.eq_nil_of_length_eq_zero (by omega)
   have HX := Lib.hid hxs
   clear hxs
   have hnil := fun w => Lib.run_eql_slice_nil (P := Tryz.prog) w 39 9 none xs.length c 0 0 Tryz.underlying39
   go_enter Tryz.func154, Tryz.ntmps154
   go_wp2_with fail
   go_ret
   exact ⟨_, [], rfl, by rw [HX.out]; exact slice_nil _ _ _ _, Fresh.nil _, Below.refl _ _⟩
 | some a =>
   have hat : CellsAt (w.alloc (.cells #[] 9)) (some a) ec := fun hp => by
    have hl2 := repL_len hr
    have h0 : 0 < xs.length := by
     rcases Nat.eq_zero_or_pos xs.length with h | h
     · rw [h, Nat.zero_mul] at hl2; omega
     · exact h
    obtain ⟨b, off, h1, hb, h2⟩ := HA.out h0
    exact ⟨b, off, h1, fun j u hu => (World.cell?_of_block (w := w) (Below.heap_alloc w _ b (hlt b hb))).trans (h2 j u hu)⟩
   have hr0 : ((str).slice 9).rep true (w.alloc (.cells #[] 9)) [] [.slice (some ⟨w.heap.size, 0, none⟩) 0 0] [w.heap.size] := slice_of_row (xs := []) (Row.new w _ _) ⟨rfl, rfl⟩ (by simp [maxLen])
   have hy := hflat (w := w.alloc (.cells #[] 9)) (repL_kept hr (fun b hb => Below.heap_alloc w _ b (repL_lt hr b hb)))
   have HC := Lib.hid hat
   have HR := Lib.hid hr0
   have HY := Lib.hid hy
   clear hat hr0 hr hflat hy
   have hnil := fun w => Lib.run_eql_slice_nil (P := Tryz.prog) w 39 9 (some a) xs.length c 0 0 Tryz.underlying39
   go_enter Tryz.func154, Tryz.ntmps154
   go_wp2_with (at_builtin; refine wpList_append_rep (T := str) (e := 9) (ys := xs) rfl (.tmp 5) (.tmp 6) rfl Tryz.underlying39 Tryz.infoStr rfl (by decide) rfl HR.out rfl HY.out HC.out (by simp) (by simp) (by simp [maxLen]; omega) (by simp; omega) ?_; intro v2 w2 F2 r2 o2 q2)
   go_ret
   refine ⟨_, F2, rfl, r2, q2 _ ⟨by simp, by simp⟩ (by simp), ?_⟩
   exact ((Below.refl _ _).alloc (Nat.le_refl _) _).trans (o2.below (by simp) (by simp))
set_option maxRecDepth 100000 in
set_option maxHeartbeats 1000000 in
theorem Delete_Str {xs : List (ByteArray)} {v : Value} {F : List Nat} (w : World) (h : ((str).slice 9).rep true w xs [v] F) (hnd : F.Nodup) (hx : xs.length ≤ 1048576) (n1 n2 : Int) (i : Nat) (h1 : n1 = (i : Int)) (h2 : n2 = (i : Int) + 1) (hi : i < xs.length) :
 Calls Tryz.prog 152 #[v, .int .i64 n1, .int .i64 n2] w fun e' w' => ∃ u F', e' = .returned u ∧ ((str).slice 9).rep true w' (xs.take i ++ xs.drop (i + 1)) [u] F' ∧ F'.Sublist F ∧ Only F w w' := by
 subst h1; subst h2
 obtain ⟨g, c, cs, rest, G, rfl, hl, hc, hrow, hrp, hlen, rfl⟩ := row_of_slice h (by omega)
 have hcl := repL_len hrp
 obtain ⟨m, hm⟩ : ∃ m, xs.length = i + 1 + m := ⟨xs.length - (i + 1), by omega⟩
 obtain ⟨c1, ck, c2, G1, Gk, G2, rfl, rfl, hl1, hlk, hp1, hpk, hp2⟩ := repL_get hrp i hi
 have hl2 : c2.length = m * 1 := by
  have := repL_len hp2
  rw [List.length_drop, hm, show i + 1 + m - (i + 1) = m from by omega] at this
  exact this
 have ho2 := repL_one hp2
 have e1 : ((i : Int) == (i : Int) + 1) = false := by rw [beq_eq_false_iff_ne]; omega
 have e2 : ((i : Int) + 1).toNat = i + 1 := by omega
 have e3 := IntWalk.i64_in ((i : Int) + 1) (by omega)
 have b1 : (0 : Int) ≤ (i : Int) + 1 := by omega
 unfold maxLen at hc
 rw [hm] at hl ⊢
 have b2 : (i : Int) + 1 ≤ ((i + 1 + m : Nat) : Int) := by omega
 have b3 : (i : Int) ≤ (i : Int) + 1 := by omega
 have b4 : ((i + 1 + m : Nat) : Int) ≤ (c : Int) := by omega
 have b5 : ¬ c = i := by omega
 have b6 : ¬ c = i + m := by omega
 have HG := Lib.hid (List.nodup_cons.1 hnd).1
 have HROW := Lib.hid hrow
 have HL1 := Lib.hid hl1
 have HLK := Lib.hid hlk
 have HL2 := Lib.hid hl2
 have HLEN := Lib.hid hlen
 have HM := Lib.hid hm
 have HP1 := Lib.hid hp1
 have HP2 := Lib.hid hp2
 have HO2 := Lib.hid ho2
 clear hnd hrow hl1 hlk hl2 hlen hm hp1 hp2 hpk hrp hcl h ho2
 obtain ⟨i0, hi0, hz0, hz1, hz2⟩ := info_parts Tryz.infoStr
 have hadd : ∀ o j, ((⟨g, o, none⟩ : Addr).add j) = ⟨g, o + j, none⟩ := fun o j => by unfold Addr.add; split <;> simp_all
 have hsrc : Hid (∀ j u, c2[j]? = some u → w.cell? ⟨g, (i + 1) * 1 + j, none⟩ = some u) := fun j u hu => by
  have hj : j < c2.length := (List.getElem?_eq_some_iff.1 hu).1
  have e1 := HL1.out; have e2 := HLK.out
  refine HROW.out.cell' ?_
  rw [List.getElem?_append_left (by simp only [List.length_append, e1, e2]; show _ < _ * 1 + (1 + _); omega), List.getElem?_append_right (by rw [e1]; show _ * 1 ≤ _; omega), List.getElem?_append_right (by rw [e1, e2]; show 1 ≤ _ - _ * 1; omega), e1, e2, show (i + 1) * 1 + j - i * (str).size - (str).size = j from by show (i + 1) * 1 + j - i * 1 - 1 = j; omega]
  exact hu
 have hspare : Hid (∀ j, j < c2.length → (w.cell? ⟨g, 0 + i * 1 + j, none⟩).isSome = true ∧ w.frozen? ⟨g, 0 + i * 1 + j, none⟩ = false) := fun j hj => by
  have e1 := HL1.out; have e2 := HLK.out; have e3 := HL2.out
  refine ⟨HROW.out.isS ?_, HROW.out.frozen _⟩
  simp only [List.length_append, e1, e2]; show _ < _ * 1 + (1 + _) + _; omega
 have hrow2 : Hid (Row (w.setCells g (i) c2) g 9 ((c1 ++ c2) ++ ((ck ++ c2).drop (m * 1) ++ rest))) := by
  have R := HROW.out.cells c2 (0 + i * 1) (by have e1 := HL1.out; have e2 := HLK.out; have e3 := HL2.out; simp only [List.length_append, e1, e2]; show 0 + _ * 1 + _ ≤ _ * 1 + (1 + _) + _; omega)
  show Row _ _ _ _
  have e1 : c1.length = i * 1 := HL1.out
  have e3 := HL2.out
  rw [Nat.zero_add, ← e1] at R
  have q1 : List.take c1.length (c1 ++ (ck ++ c2) ++ rest) = c1 := by rw [List.append_assoc]; exact List.take_left
  have q2 : List.drop (c1.length + c2.length) (c1 ++ (ck ++ c2) ++ rest) = (ck ++ c2).drop (m * 1) ++ rest := by
   rw [← List.drop_drop, List.append_assoc, List.drop_left, List.drop_append_of_le_length (by simp), e3]
  rw [q1, q2] at R
  rw [show i = c1.length from by omega]; exact R
 have hhead : ((ck ++ c2).drop (m * 1)).length = 1 := by
  have e2 : ck.length = 1 := HLK.out
  rw [List.length_drop, List.length_append, HL2.out, e2]; omega
 have hclr : ∀ (W : World), Row W g 9 ((c1 ++ c2) ++ ((ck ++ c2).drop (m * 1) ++ rest)) → ∀ ty cap, (Builtin.clear_ #[39] ty #[.slice (some ⟨g, i + m, none⟩) 1 cap]).run Tryz.prog W = .ok (.tuple #[]) (W.setCells g (i + m) (Value.string .empty).cells.toList) := fun W R ty cap =>
  run_clear_one (P := Tryz.prog) W 39 9 ty (Value.string .empty) Tryz.underlying39 (fun _ => by kernel_rfl) g (i + m) cap
   (fun j hj => R.isS (by
     have e1 : c1.length = i * 1 := HL1.out
     have hj' : j < 1 := hj
     have hh := hhead
     have e3 := HL2.out
     rw [List.length_append, List.length_append, List.length_append, e1, e3, hh]; omega)) (fun j hj => R.frozen _) (by simp [Value.cells, Value.oneCell'])
 have HCLR := Lib.hid hclr
 have HH := Lib.hid hhead
 clear hclr hhead
 have b7 : (i : Int) + (m : Int) ≤ (i : Int) + 1 + (m : Int) := by omega
 have b8 : (i : Int) + 1 + (m : Int) ≤ (c : Int) := by omega
 have c1b : i ≤ c := by omega
 have c2b : i + 1 ≤ i + 1 + m := by omega
 have c3b : i + m ≤ i + 1 + m := by omega
 have c4b : i + 1 + m ≤ c := by omega
 have c5b : (i : Int) + 1 ≤ (i : Int) + 1 + (m : Int) := by omega
 have b9 : i + 1 + m - (i + m) = 1 := by omega
 have fin : ∀ (W : World), W = (w.drew.setCells g (i) c2).setCells g (i + m) (Value.string .empty).cells.toList →
  ((str).slice 9).rep true W (xs.take i ++ xs.drop (i + 1)) [.slice (some ⟨g, 0, none⟩) (i + m) c] (g :: (G1 ++ G2)) ∧ (g :: (G1 ++ G2)).Sublist (g :: (G1 ++ (Gk ++ G2))) ∧ Only (g :: (G1 ++ (Gk ++ G2))) w W := by
  intro W hW
  have o1 : Only [g] w (w.drew.setCells g (i) c2) := Only.cells (by simp) _ _ ⟨rfl, rfl, rfl, Nat.le_refl _, fun _ _ _ => rfl⟩
  have o2 : Only [g] w W := by rw [hW]; exact Only.cells (by simp) _ _ o1
  have e1 : c1.length = i * 1 := HL1.out
  have e3 := HL2.out
  have R : Row W g 9 ((c1 ++ c2) ++ ((Value.string .empty).cells.toList ++ rest)) := by
   have R0 : Row (w.drew.setCells g (i) c2) g 9 ((c1 ++ c2) ++ ((ck ++ c2).drop (m * 1) ++ rest)) := by rw [← drew_setCells]; exact hrow2.out
   have R1 := R0.cells (Value.string .empty).cells.toList (i + m) (by rw [List.length_append, List.length_append, List.length_append, e1, e3, HH.out]; show _ + 1 ≤ _; omega)
   rw [← hW] at R1
   have q0 : i + m = (c1 ++ c2).length := by rw [List.length_append, e1, e3]; omega
   have q2 : List.drop ((c1 ++ c2).length + ((Value.string .empty).cells.toList).length) (c1 ++ c2 ++ (List.drop (m * 1) (ck ++ c2) ++ rest)) = rest := by
    rw [← List.drop_drop, List.drop_left, show ((Value.string .empty).cells.toList).length = (List.drop (m * 1) (ck ++ c2)).length from HH.out.symm, List.drop_left]
   rw [q0, List.take_left, q2, List.append_assoc] at R1
   exact R1
  have hd1 : ∀ b ∈ G1 ++ G2, b ∉ [g] := fun b hb hb2 => by
   rw [List.mem_singleton] at hb2
   subst hb2
   exact HG.out (by simp only [List.mem_append] at hb ⊢; rcases hb with hb | hb <;> simp [hb])
  have r1 : repL (str) true W (xs.take i ++ xs.drop (i + 1)) (c1 ++ c2) (G1 ++ G2) := by
   refine repL_append (repL_kept HP1.out fun b hb => o2.block b (repL_lt HP1.out b hb) (hd1 b (by simp [hb]))) (repL_kept HP2.out fun b hb => o2.block b (repL_lt HP2.out b hb) (hd1 b (by simp [hb])))
  refine ⟨slice_of_room R r1 (by rw [List.length_append, List.length_take, List.length_drop, HM.out]; omega) (by omega) (by unfold maxLen; omega) ?_, ?_, o2.mono (by intro x hx; rw [List.mem_singleton] at hx; simp [hx])⟩
  · have h := HLEN.out
    simp only [List.length_append] at h ⊢
    rw [HLK.out] at h
    exact (show _ + _ + (1 + _) = _ + (1 + _ ) + _ by omega).trans h
  · exact (List.Sublist.refl _).append (List.sublist_append_right _ _) |>.cons_cons _
 obtain ⟨AD, hif, hsa⟩ : ∃ AD : Addr, (if c = i + 1 then (some ⟨g, 0, none⟩ : Option Addr) else some ⟨g, i + 1, none⟩) = some AD ∧ Hid (∀ j u, c2[j]? = some u → w.cell? (AD.add j) = some u) := by
  by_cases hcj : c = i + 1
  · refine ⟨⟨g, 0, none⟩, by rw [if_pos hcj], fun j u hu => ?_⟩
    have hc0 : c2 = [] := List.eq_nil_of_length_eq_zero (by rw [HL2.out]; omega)
    rw [hc0] at hu; simp at hu
  · exact ⟨⟨g, i + 1, none⟩, by rw [if_neg hcj], fun j u hu => by rw [hadd]; have := hsrc.out j u hu; simpa using this⟩
 go_enter Tryz.func152, Tryz.ntmps152
 go_wp2_with fail
 go_region_law (refine step_append_room (P := Tryz.prog) rfl (.tmp 22) (.tmp 25) 39 rfl 9 i0 1 Tryz.underlying39 hi0 hz1 g 0 i c (by simp [Act.eval, Act.put]) AD m (c - (i + 1)) c2 (by simp [Act.eval, Act.put]) HL2.out hsa.out HO2.out (by omega) hspare.out ?_)
 have hclr := HCLR.out (w.drew.setCells g (i) c2) (by rw [← drew_setCells]; exact hrow2.out)
 go_wp2_with fail
 go_ret
 exact ⟨_, _, rfl, fin _ rfl⟩
theorem Tryz.infoLine : (Tryz.prog.info? 159).map (fun i => (i.zero, i.size, i.bytes)) = some (some (.agg #[.slice none 0 0]), pLine.size, 24) := by kernel_rfl
set_option maxRecDepth 100000 in
set_option maxHeartbeats 1000000 in
theorem Delete_Line {xs : List (PLine)} {v : Value} {F : List Nat} (w : World) (h : ((pLine).slice 159).rep true w xs [v] F) (hnd : F.Nodup) (hx : xs.length ≤ 1048576) (n1 n2 : Int) (i : Nat) (h1 : n1 = (i : Int)) (h2 : n2 = (i : Int) + 1) (hi : i < xs.length) :
 Calls Tryz.prog 155 #[v, .int .i64 n1, .int .i64 n2] w fun e' w' => ∃ u F', e' = .returned u ∧ ((pLine).slice 159).rep true w' (xs.take i ++ xs.drop (i + 1)) [u] F' ∧ F'.Sublist F ∧ Only F w w' := by
 subst h1; subst h2
 obtain ⟨g, c, cs, rest, G, rfl, hl, hc, hrow, hrp, hlen, rfl⟩ := row_of_slice h (by omega)
 have hcl := repL_len hrp
 obtain ⟨m, hm⟩ : ∃ m, xs.length = i + 1 + m := ⟨xs.length - (i + 1), by omega⟩
 obtain ⟨c1, ck, c2, G1, Gk, G2, rfl, rfl, hl1, hlk, hp1, hpk, hp2⟩ := repL_get hrp i hi
 have hl2 : c2.length = m * 1 := by
  have := repL_len hp2
  rw [List.length_drop, hm, show i + 1 + m - (i + 1) = m from by omega] at this
  exact this
 have ho2 := repL_one hp2
 have e1 : ((i : Int) == (i : Int) + 1) = false := by rw [beq_eq_false_iff_ne]; omega
 have e2 : ((i : Int) + 1).toNat = i + 1 := by omega
 have e3 := IntWalk.i64_in ((i : Int) + 1) (by omega)
 have b1 : (0 : Int) ≤ (i : Int) + 1 := by omega
 unfold maxLen at hc
 rw [hm] at hl ⊢
 have b2 : (i : Int) + 1 ≤ ((i + 1 + m : Nat) : Int) := by omega
 have b3 : (i : Int) ≤ (i : Int) + 1 := by omega
 have b4 : ((i + 1 + m : Nat) : Int) ≤ (c : Int) := by omega
 have b5 : ¬ c = i := by omega
 have b6 : ¬ c = i + m := by omega
 have HG := Lib.hid (List.nodup_cons.1 hnd).1
 have HROW := Lib.hid hrow
 have HL1 := Lib.hid hl1
 have HLK := Lib.hid hlk
 have HL2 := Lib.hid hl2
 have HLEN := Lib.hid hlen
 have HM := Lib.hid hm
 have HP1 := Lib.hid hp1
 have HP2 := Lib.hid hp2
 have HO2 := Lib.hid ho2
 clear hnd hrow hl1 hlk hl2 hlen hm hp1 hp2 hpk hrp hcl h ho2
 obtain ⟨i0, hi0, hz0, hz1, hz2⟩ := info_parts Tryz.infoLine
 have hadd : ∀ o j, ((⟨g, o, none⟩ : Addr).add j) = ⟨g, o + j, none⟩ := fun o j => by unfold Addr.add; split <;> simp_all
 have hsrc : Hid (∀ j u, c2[j]? = some u → w.cell? ⟨g, (i + 1) * 1 + j, none⟩ = some u) := fun j u hu => by
  have hj : j < c2.length := (List.getElem?_eq_some_iff.1 hu).1
  have e1 := HL1.out; have e2 := HLK.out
  refine HROW.out.cell' ?_
  rw [List.getElem?_append_left (by simp only [List.length_append, e1, e2]; show _ < _ * 1 + (1 + _); omega), List.getElem?_append_right (by rw [e1]; show _ * 1 ≤ _; omega), List.getElem?_append_right (by rw [e1, e2]; show 1 ≤ _ - _ * 1; omega), e1, e2, show (i + 1) * 1 + j - i * (pLine).size - (pLine).size = j from by show (i + 1) * 1 + j - i * 1 - 1 = j; omega]
  exact hu
 have hspare : Hid (∀ j, j < c2.length → (w.cell? ⟨g, 0 + i * 1 + j, none⟩).isSome = true ∧ w.frozen? ⟨g, 0 + i * 1 + j, none⟩ = false) := fun j hj => by
  have e1 := HL1.out; have e2 := HLK.out; have e3 := HL2.out
  refine ⟨HROW.out.isS ?_, HROW.out.frozen _⟩
  simp only [List.length_append, e1, e2]; show _ < _ * 1 + (1 + _) + _; omega
 have hrow2 : Hid (Row (w.setCells g (i) c2) g 159 ((c1 ++ c2) ++ ((ck ++ c2).drop (m * 1) ++ rest))) := by
  have R := HROW.out.cells c2 (0 + i * 1) (by have e1 := HL1.out; have e2 := HLK.out; have e3 := HL2.out; simp only [List.length_append, e1, e2]; show 0 + _ * 1 + _ ≤ _ * 1 + (1 + _) + _; omega)
  show Row _ _ _ _
  have e1 : c1.length = i * 1 := HL1.out
  have e3 := HL2.out
  rw [Nat.zero_add, ← e1] at R
  have q1 : List.take c1.length (c1 ++ (ck ++ c2) ++ rest) = c1 := by rw [List.append_assoc]; exact List.take_left
  have q2 : List.drop (c1.length + c2.length) (c1 ++ (ck ++ c2) ++ rest) = (ck ++ c2).drop (m * 1) ++ rest := by
   rw [← List.drop_drop, List.append_assoc, List.drop_left, List.drop_append_of_le_length (by simp), e3]
  rw [q1, q2] at R
  rw [show i = c1.length from by omega]; exact R
 have hhead : ((ck ++ c2).drop (m * 1)).length = 1 := by
  have e2 : ck.length = 1 := HLK.out
  rw [List.length_drop, List.length_append, HL2.out, e2]; omega
 have hclr : ∀ (W : World), Row W g 159 ((c1 ++ c2) ++ ((ck ++ c2).drop (m * 1) ++ rest)) → ∀ ty cap, (Builtin.clear_ #[68] ty #[.slice (some ⟨g, i + m, none⟩) 1 cap]).run Tryz.prog W = .ok (.tuple #[]) (W.setCells g (i + m) (Value.agg #[.slice none 0 0]).cells.toList) := fun W R ty cap =>
  run_clear_one (P := Tryz.prog) W 68 159 ty (Value.agg #[.slice none 0 0]) Tryz.underlying68 (fun _ => by kernel_rfl) g (i + m) cap
   (fun j hj => R.isS (by
     have e1 : c1.length = i * 1 := HL1.out
     have hj' : j < 1 := hj
     have hh := hhead
     have e3 := HL2.out
     rw [List.length_append, List.length_append, List.length_append, e1, e3, hh]; omega)) (fun j hj => R.frozen _) (by simp [Value.cells, Value.oneCell'])
 have HCLR := Lib.hid hclr
 have HH := Lib.hid hhead
 clear hclr hhead
 have b7 : (i : Int) + (m : Int) ≤ (i : Int) + 1 + (m : Int) := by omega
 have b8 : (i : Int) + 1 + (m : Int) ≤ (c : Int) := by omega
 have c1b : i ≤ c := by omega
 have c2b : i + 1 ≤ i + 1 + m := by omega
 have c3b : i + m ≤ i + 1 + m := by omega
 have c4b : i + 1 + m ≤ c := by omega
 have c5b : (i : Int) + 1 ≤ (i : Int) + 1 + (m : Int) := by omega
 have b9 : i + 1 + m - (i + m) = 1 := by omega
 have fin : ∀ (W : World), W = (w.drew.setCells g (i) c2).setCells g (i + m) (Value.agg #[.slice none 0 0]).cells.toList →
  ((pLine).slice 159).rep true W (xs.take i ++ xs.drop (i + 1)) [.slice (some ⟨g, 0, none⟩) (i + m) c] (g :: (G1 ++ G2)) ∧ (g :: (G1 ++ G2)).Sublist (g :: (G1 ++ (Gk ++ G2))) ∧ Only (g :: (G1 ++ (Gk ++ G2))) w W := by
  intro W hW
  have o1 : Only [g] w (w.drew.setCells g (i) c2) := Only.cells (by simp) _ _ ⟨rfl, rfl, rfl, Nat.le_refl _, fun _ _ _ => rfl⟩
  have o2 : Only [g] w W := by rw [hW]; exact Only.cells (by simp) _ _ o1
  have e1 : c1.length = i * 1 := HL1.out
  have e3 := HL2.out
  have R : Row W g 159 ((c1 ++ c2) ++ ((Value.agg #[.slice none 0 0]).cells.toList ++ rest)) := by
   have R0 : Row (w.drew.setCells g (i) c2) g 159 ((c1 ++ c2) ++ ((ck ++ c2).drop (m * 1) ++ rest)) := by rw [← drew_setCells]; exact hrow2.out
   have R1 := R0.cells (Value.agg #[.slice none 0 0]).cells.toList (i + m) (by rw [List.length_append, List.length_append, List.length_append, e1, e3, HH.out]; show _ + 1 ≤ _; omega)
   rw [← hW] at R1
   have q0 : i + m = (c1 ++ c2).length := by rw [List.length_append, e1, e3]; omega
   have q2 : List.drop ((c1 ++ c2).length + ((Value.agg #[.slice none 0 0]).cells.toList).length) (c1 ++ c2 ++ (List.drop (m * 1) (ck ++ c2) ++ rest)) = rest := by
    rw [← List.drop_drop, List.drop_left, show ((Value.agg #[.slice none 0 0]).cells.toList).length = (List.drop (m * 1) (ck ++ c2)).length from HH.out.symm, List.drop_left]
   rw [q0, List.take_left, q2, List.append_assoc] at R1
   exact R1
  have hd1 : ∀ b ∈ G1 ++ G2, b ∉ [g] := fun b hb hb2 => by
   rw [List.mem_singleton] at hb2
   subst hb2
   exact HG.out (by simp only [List.mem_append] at hb ⊢; rcases hb with hb | hb <;> simp [hb])
  have r1 : repL (pLine) true W (xs.take i ++ xs.drop (i + 1)) (c1 ++ c2) (G1 ++ G2) := by
   refine repL_append (repL_kept HP1.out fun b hb => o2.block b (repL_lt HP1.out b hb) (hd1 b (by simp [hb]))) (repL_kept HP2.out fun b hb => o2.block b (repL_lt HP2.out b hb) (hd1 b (by simp [hb])))
  refine ⟨slice_of_room R r1 (by rw [List.length_append, List.length_take, List.length_drop, HM.out]; omega) (by omega) (by unfold maxLen; omega) ?_, ?_, o2.mono (by intro x hx; rw [List.mem_singleton] at hx; simp [hx])⟩
  · have h := HLEN.out
    simp only [List.length_append] at h ⊢
    rw [HLK.out] at h
    exact (show _ + _ + (1 + _) = _ + (1 + _ ) + _ by omega).trans h
  · exact (List.Sublist.refl _).append (List.sublist_append_right _ _) |>.cons_cons _
 obtain ⟨AD, hif, hsa⟩ : ∃ AD : Addr, (if c = i + 1 then (some ⟨g, 0, none⟩ : Option Addr) else some ⟨g, i + 1, none⟩) = some AD ∧ Hid (∀ j u, c2[j]? = some u → w.cell? (AD.add j) = some u) := by
  by_cases hcj : c = i + 1
  · refine ⟨⟨g, 0, none⟩, by rw [if_pos hcj], fun j u hu => ?_⟩
    have hc0 : c2 = [] := List.eq_nil_of_length_eq_zero (by rw [HL2.out]; omega)
    rw [hc0] at hu; simp at hu
  · exact ⟨⟨g, i + 1, none⟩, by rw [if_neg hcj], fun j u hu => by rw [hadd]; have := hsrc.out j u hu; simpa using this⟩
 go_enter Tryz.func155, Tryz.ntmps155
 go_wp2_with fail
 go_region_law (refine step_append_room (P := Tryz.prog) rfl (.tmp 22) (.tmp 25) 68 rfl 159 i0 1 Tryz.underlying68 hi0 hz1 g 0 i c (by simp [Act.eval, Act.put]) AD m (c - (i + 1)) c2 (by simp [Act.eval, Act.put]) HL2.out hsa.out HO2.out (by omega) hspare.out ?_)
 have hclr := HCLR.out (w.drew.setCells g (i) c2) (by rw [← drew_setCells]; exact hrow2.out)
 go_wp2_with fail
 go_ret
 exact ⟨_, _, rfl, fin _ rfl⟩
end Go.Proofs.YtboijogahclekaaGreatDoor
