/- append onto a slice of one's own, told by its data. Conditions: none. -/
import Derived.Test.YtboijogahclekaaGreatDoorMarkk
import Derived.Laws.IdiomCopy
import Derived.ArgAppend
import Derived.Lib.AppendZerosOnto
import Derived.Lib.Overlaps
import Derived.Laws.Externs
import Derived.Laws.NewBlocks
import Derived.Deep.RegionLaw
namespace Go.Proofs.YtboijogahclekaaGreatDoor
open Go Go.RowKit
def CellsAt (w : World) (A : Option Addr) (cs : List Value) : Prop := 0 < cs.length → ∃ b off, A = some ⟨b, off, none⟩ ∧ ∀ j u, cs[j]? = some u → w.cell? ⟨b, off + j, none⟩ = some u
theorem cellsAt_new (w : World) (e : TypeId) (cs : List Value) : CellsAt (w.alloc (.cells cs.toArray e)) (some ⟨w.heap.size, 0, none⟩) cs :=
 fun _ => ⟨w.heap.size, 0, rfl, fun j u hu => by
  have R := Row.new w e cs.toArray
  rw [Nat.zero_add]
  exact R.cell' (by simpa using hu)⟩
theorem grown_only {w w' : World} {v : Value} {F : List Nat} (hg : w.grownBy w' v.ownBlock) (hF : ∀ g, v.ownBlock = some g → g ∈ F) : Only F w w' :=
 ⟨hg.os, hg.tape, hg.output, hg.size, fun k hk hn => hg.block k hk (fun e => hn (hF k e.symm))⟩
section
variable {P : Program} {α : Type} {T : Ty α} {t e : TypeId} {z : Value} {bytes : Nat} {w : World} {xs ys : List α} {v : Value} {F Fy : List Nat} {A : Option Addr} {c : Nat} {ec : List Value}
theorem run_append_repX (ty : TypeId) (ht : P.underlying t = some (.slice e)) (hi : (P.info? e).map (fun i => (i.zero, i.size, i.bytes)) = some (some z, T.size, bytes)) (hz : z.cells.size = T.size) (h0 : 0 < T.size)
 (hr : (T.slice e).rep true w xs [v] F) (hy : repL T true w ys ec Fy) (hat : CellsAt w A ec) (_ : True) (hnd : (F ++ Fy).Nodup)
 (h63 : xs.length + ys.length ≤ maxLen) (hb : (xs.length + ys.length) * bytes ≤ 140737488355328) :
 ∃ v' w' F', (Builtin.append_ #[t, t] ty #[v, .slice A ys.length c]).run P w = .ok v' w' ∧ (T.slice e).rep true w' (xs ++ ys) [v'] F' ∧ Only F w w' ∧ (∀ B, Fresh B (F ++ Fy) → B ≤ w.heap.size → Fresh B F') ∧ ((∀ b ∈ F', b ∈ F ++ Fy ∨ w.heap.size ≤ b) ∧ Only v.ownBlock.toList w w' ∧ ∀ b ∈ v'.ownBlock.toList, b ∈ v.ownBlock.toList ∨ w.heap.size ≤ b) := by
 obtain ⟨i, hi1, hz1, hi2, hi3⟩ := info_parts hi
 obtain ⟨a0, c0, ex, F0, F1, hv, rfl, hl, hc, hx, hlt, hax, ho⟩ := hr
 simp only [List.cons.injEq, and_true] at hv
 subst hv
 obtain ⟨hown, hF0⟩ := ho rfl
 have hin0 : ∀ g, (Value.slice a0 xs.length c0).ownBlock = some g → g ∈ F0 := fun g hg => by rw [hF0, hg]; simp
 by_cases hne : A = none
 · subst hne
   have hc0 : (Builtin.append_ #[t, t] ty #[.slice a0 xs.length c0, .slice none ys.length c]).run P w = (Builtin.append_ #[t, t] ty #[.slice a0 xs.length c0, .slice none ys.length 0]).run P w := rfl
   rw [hc0]
   have hec : ec = [] := by
    by_cases h : 0 < ec.length
    · obtain ⟨b, off, h1, _⟩ := hat h
      cases h1
    · exact List.eq_nil_of_length_eq_zero (by omega)
   have hys : ys = [] := by
    have h1 := repL_len hy
    rw [hec] at h1
    have : ys.length = 0 := by
     rcases Nat.eq_zero_or_pos ys.length with h | h
     · exact h
     · have := Nat.mul_pos h h0
       simp at h1; omega
    exact List.eq_nil_of_length_eq_zero this
   subst hys
   refine ⟨_, w, F0 ++ F1, run_append_owned_none (P := P) w 0 t ty e i T.size ht hi1 _ xs.length ex hown, ?_, Only.refl _ _, fun B hB _ => ⟨(List.nodup_append.1 hB.1).1, fun b hb => hB.2 b (List.mem_append.2 (.inl hb))⟩, fun b hb => .inl (List.mem_append.2 (.inl hb)), Only.refl _ _, fun b hb => .inl hb⟩
   rw [List.append_nil]
   exact ⟨a0, c0, ex, F0, F1, rfl, rfl, hl, hc, hx, hlt, hax, ho⟩
 · obtain ⟨ad, rfl⟩ : ∃ ad, A = some ad := by cases A with | none => exact absurd rfl hne | some ad => exact ⟨ad, rfl⟩
   have hnews : ∀ j u, ec[j]? = some u → w.cell? (ad.add j) = some u := by
    intro j u hu
    have hj : j < ec.length := (List.getElem?_eq_some_iff.1 hu).1
    obtain ⟨b, off, h1, h2⟩ := hat (by omega)
    injection h1 with h1
    subst h1
    have e1 : ((⟨b, off, none⟩ : Addr).add j) = ⟨b, off + j, none⟩ := by unfold Addr.add; split <;> simp_all
    rw [e1]
    exact h2 j u hu
   obtain ⟨v', w', hrun, h2, h3, h4, h5⟩ := run_append_own_at (P := P) w 0 t ty e i z T.size bytes ht hi1 hz1 hi2 hi3 hz h0 _ xs.length ex hown ad ys.length c ec (repL_len hy) hnews (repL_one hy) h63 hb (Nat.zero_le _)
   have hon : Only F0 w w' := grown_only h3 hin0
   have hd : ∀ b ∈ F1 ++ Fy, b ∉ F0 := by
    intro b hb hb0
    rw [List.append_assoc] at hnd
    exact (List.nodup_append.1 hnd).2.2 b hb0 b hb rfl
   have kx : repL T true w' xs ex F1 := repL_kept hx fun b hb => hon.block b (repL_lt hx b hb) (hd b (by simp [hb]))
   have ky : repL T true w' ys ec Fy := repL_kept hy fun b hb => hon.block b (repL_lt hy b hb) (hd b (by simp [hb]))
   -- what the new value looks like
   have hform : ∃ A' c', v' = .slice A' (xs.length + ys.length) c' ∧ xs.length + ys.length ≤ c' ∧ c' ≤ maxLen := by
    rcases h2.2 with ⟨h, hn⟩ | ⟨g, cap, cur, h, _, _, hn, hm, _⟩
    · exact ⟨none, 0, by rw [h, hn], by omega, Nat.zero_le _⟩
    · exact ⟨_, cap, h, hn, hm⟩
   obtain ⟨A', c', rfl, hnc, hcm⟩ := hform
   have hlt' : ∀ b ∈ ((Value.slice A' (xs.length + ys.length) c').ownBlock).toList, b < w'.heap.size := by
    intro b hb
    exact (h2.lt b (by simpa using hb)).2
   refine ⟨_, w', ((Value.slice A' (xs.length + ys.length) c').ownBlock).toList ++ (F1 ++ Fy), hrun, ⟨A', c', ex ++ ec, _, F1 ++ Fy, by rw [List.length_append], rfl, by rw [List.length_append]; exact hnc, hcm, repL_append kx ky, hlt', ?_, fun _ => ⟨by rw [List.length_append]; exact h2, by rw [List.length_append]⟩⟩, hon.mono (fun x hx => by simp [hx]), ?_, ?_, by rw [← hF0]; exact hon, fun b hb => by
    rcases h5 with h | h
    · rw [h] at hb; exact .inl hb
    · rw [h] at hb; simp at hb; exact .inr (by omega)⟩
   · intro hpos
     rw [List.length_append] at hpos
     rcases h2.2 with ⟨h, hn⟩ | ⟨g, cap, cur, h, _, hh, hn, hm, hcs, htk⟩
     · omega
     · injection h with h1 _ h3'
       subst h1
       refine ⟨g, 0, rfl, by simp [Value.ownBlock], fun j u hu => ?_⟩
       have hj : j < (ex ++ ec).length := (List.getElem?_eq_some_iff.1 hu).1
       rw [Nat.zero_add]
       simp only [World.cell?, hh]
       have hlen : (ex ++ ec).length = (xs.length + ys.length) * T.size := h2.1
       rw [← htk] at hu
       rw [List.getElem?_take_of_lt (by omega)] at hu
       simpa using hu
   · intro B hB hBs
     obtain ⟨hB1, hB2⟩ := hB
     rw [List.append_assoc] at hB1
     have hsplit := List.nodup_append.1 hB1
     rcases h5 with h | h
     · rw [h, ← hF0]
       exact ⟨by rw [← List.append_assoc]; rw [← List.append_assoc] at hB1; exact hB1, fun b hb => hB2 b (by rw [List.append_assoc]; exact hb)⟩
     · rw [h]
       refine ⟨?_, ?_⟩
       · show (w.heap.size :: (F1 ++ Fy)).Nodup
         rw [List.nodup_cons]
         refine ⟨fun hin => ?_, hsplit.2.1⟩
         rcases List.mem_append.1 hin with h6 | h6
         · exact absurd (repL_lt hx _ h6) (by omega)
         · exact absurd (repL_lt hy _ h6) (by omega)
       · intro b hb
         simp only [Option.toList_some, List.singleton_append, List.mem_cons] at hb
         rcases hb with rfl | hb
         · exact hBs
         · exact hB2 b (by rw [List.append_assoc]; exact List.mem_append.2 (.inr hb))
   · intro b hb
     rcases h5 with h | h
     · rw [h, ← hF0] at hb
       exact .inl (by simpa using hb)
     · rw [h] at hb
       simp only [Option.toList_some, List.singleton_append, List.mem_cons] at hb
       rcases hb with rfl | hb
       · exact .inr (Nat.le_refl _)
       · exact .inl (by simp only [List.mem_append] at hb ⊢; rcases hb with hb | hb <;> simp [hb])
theorem run_append_rep (ty : TypeId) (ht : P.underlying t = some (.slice e)) (hi : (P.info? e).map (fun i => (i.zero, i.size, i.bytes)) = some (some z, T.size, bytes)) (hz : z.cells.size = T.size) (h0 : 0 < T.size)
 (hr : (T.slice e).rep true w xs [v] F) (hy : repL T true w ys ec Fy) (hat : CellsAt w A ec) (hA : True) (hnd : (F ++ Fy).Nodup)
 (h63 : xs.length + ys.length ≤ maxLen) (hb : (xs.length + ys.length) * bytes ≤ 140737488355328) :
 ∃ v' w' F', (Builtin.append_ #[t, t] ty #[v, .slice A ys.length c]).run P w = .ok v' w' ∧ (T.slice e).rep true w' (xs ++ ys) [v'] F' ∧ Only F w w' ∧ (∀ B, Fresh B (F ++ Fy) → B ≤ w.heap.size → Fresh B F') := by
 obtain ⟨v', w', F', h1, h2, h3, h4, _⟩ := run_append_repX (P := P) (c := c) ty ht hi hz h0 hr hy hat hA hnd h63 hb
 exact ⟨v', w', F', h1, h2, h3, h4⟩
theorem wpList_append_rep {ops : Array Oper} {rest : List Oper} {o : Oper} {a : Act} {Q : Exit → Act → World → Prop} (hgd : o.guard = none) (s x : Operand)
 (ho : o.op = .call { callee := .builtin .append, args := #[s, x], argTypes := #[t, t] })
 (ht : P.underlying t = some (.slice e)) (hi : (P.info? e).map (fun i => (i.zero, i.size, i.bytes)) = some (some z, T.size, bytes)) (hz : z.cells.size = T.size) (h0 : 0 < T.size)
 (hs : a.eval s = v) (hr : (T.slice e).rep true w xs [v] F) (hx : a.eval x = .slice A ys.length c) (hy : repL T true w ys ec Fy) (hat : CellsAt w A ec) (hA : True) (hnd : (F ++ Fy).Nodup)
 (h63 : xs.length + ys.length ≤ maxLen) (hb : (xs.length + ys.length) * bytes ≤ 140737488355328)
 (h : ∀ v' w' F', (T.slice e).rep true w' (xs ++ ys) [v'] F' → Only F w w' → (∀ B, Fresh B (F ++ Fy) → B ≤ w.heap.size → Fresh B F') → wpList P ops Q rest (a.put o.dst v') w') : wpList P ops Q (o :: rest) a w := by
 refine wpList_plain hgd fun K hK => ?_
 obtain ⟨v', w', F', hrun, h2, h3, h4⟩ := run_append_rep (P := P) (c := c) o.type ht hi hz h0 hr hy hat hA hnd h63 hb
 unfold Oper.wp execOp
 simp only [ho, resolve, invoke, builtin, Sem.run_bind, Sem.run_pure, Result.andThen_ok, List.map_toArray, List.map_cons, List.map_nil, hs, hx, hrun]
 exact hK _ _ (h v' w' F' h2 h3 h4)
theorem wpList_append_repX {ops : Array Oper} {rest : List Oper} {o : Oper} {a : Act} {Q : Exit → Act → World → Prop} (hgd : o.guard = none) (s x : Operand)
 (ho : o.op = .call { callee := .builtin .append, args := #[s, x], argTypes := #[t, t] })
 (ht : P.underlying t = some (.slice e)) (hi : (P.info? e).map (fun i => (i.zero, i.size, i.bytes)) = some (some z, T.size, bytes)) (hz : z.cells.size = T.size) (h0 : 0 < T.size)
 (hs : a.eval s = v) (hr : (T.slice e).rep true w xs [v] F) (hx : a.eval x = .slice A ys.length c) (hy : repL T true w ys ec Fy) (hat : CellsAt w A ec) (hA : True) (hnd : (F ++ Fy).Nodup)
 (h63 : xs.length + ys.length ≤ maxLen) (hb : (xs.length + ys.length) * bytes ≤ 140737488355328)
 (h : ∀ v' w' F', (T.slice e).rep true w' (xs ++ ys) [v'] F' → Only F w w' → (∀ B, Fresh B (F ++ Fy) → B ≤ w.heap.size → Fresh B F') → ((∀ b ∈ F', b ∈ F ++ Fy ∨ w.heap.size ≤ b) ∧ Only v.ownBlock.toList w w' ∧ ∀ b ∈ v'.ownBlock.toList, b ∈ v.ownBlock.toList ∨ w.heap.size ≤ b) → wpList P ops Q rest (a.put o.dst v') w') : wpList P ops Q (o :: rest) a w := by
 refine wpList_plain hgd fun K hK => ?_
 obtain ⟨v', w', F', hrun, h2, h3, h4, h5⟩ := run_append_repX (P := P) (c := c) o.type ht hi hz h0 hr hy hat hA hnd h63 hb
 unfold Oper.wp execOp
 simp only [ho, resolve, invoke, builtin, Sem.run_bind, Sem.run_pure, Result.andThen_ok, List.map_toArray, List.map_cons, List.map_nil, hs, hx, hrun]
 exact hK _ _ (h v' w' F' h2 h3 h4 h5)
end
section
variable {w w' : World} {g : Nat} {e : TypeId} {cs rest : List Value}
theorem Row.cells : ∀ (vs : List Value) (o : Nat) {w : World} {cs : List Value} (_ : Row w g e cs) (_ : o + vs.length ≤ cs.length), Row (w.setCells g o vs) g e (cs.take o ++ vs ++ cs.drop (o + vs.length))
 | [], o, w, cs, h, hl => by simpa [World.setCells] using h
 | v :: r, o, w, cs, h, hl => by
   rw [List.length_cons] at hl
   have h1 := Row.cells r (o + 1) (h.set o v) (by rw [List.length_set]; omega)
   have e1 : (cs.set o v).take (o + 1) = cs.take o ++ [v] := by
    rw [List.take_set, List.take_succ_eq_append_getElem (by omega), List.set_append_right _ _ (by simp; omega)]
    simp [Nat.min_eq_left (show o ≤ cs.length by omega)]
   have e2 : (cs.set o v).drop (o + 1 + r.length) = cs.drop (o + (v :: r).length) := by
    rw [List.drop_set_of_lt (by omega), List.length_cons]; congr 1; omega
   rw [e1, e2] at h1
   rw [World.setCells]
   simpa using h1
theorem Only.cells {F : List Nat} (hg : g ∈ F) : ∀ (vs : List Value) (o : Nat) {a b : World} (_ : Only F a b), Only F a (b.setCells g o vs)
 | [], _, _, _, h => h
 | v :: r, o, _, _, h => Only.cells hg r (o + 1) (h.set (p := ⟨g, o, none⟩) hg v)
theorem Row.isS (h : Row w g e cs) {i : Nat} (hi : i < cs.length) : (w.cell? ⟨g, i, none⟩).isSome = true := by
 rw [h.cell, List.getElem?_eq_getElem hi]; rfl
theorem Row.shape (h : Row w g e cs) : w.shape? g = some (e, cs.length) := by
 unfold Row at h
 simp [World.shape?, h]
end
theorem run_clear_cells {P : Program} (w : World) (t e ty : TypeId) (z : Value) (ht : P.underlying t = some (.slice e)) (hv : ∀ w, (zeroValue e).run P w = .ok z w) (b o n c : Nat) (hn : 0 < n)
 (hc : ∀ j, j < n * z.cells.size → (w.cell? ⟨b, o + j, none⟩).isSome = true) (hf : ∀ j, j < n * z.cells.size → w.frozen? ⟨b, o + j, none⟩ = false) (h1 : ∀ v ∈ (Builtin.zeroCells z.cells n).toList, v.oneCell' = true) :
 (Builtin.clear_ #[t] ty #[.slice (some ⟨b, o, none⟩) n c]).run P w = .ok (.tuple #[]) (w.setCells b o (Builtin.zeroCells z.cells n).toList) := by
 have hl : (Builtin.zeroCells z.cells n).toList.length = n * z.cells.size := by simp [Builtin.zeroCells]
 have hst := run_storeCells_cells (P := P) b o (Builtin.zeroCells z.cells n).toList 0 w (by rw [hl]; simpa using hc) (by rw [hl]; simpa using hf) h1
 simp only [Nat.add_zero] at hst
 obtain ⟨m, rfl⟩ : ∃ m, n = m + 1 := ⟨n - 1, by omega⟩
 simp [Builtin.clear_, run_underlying ht, hv, hst]
theorem drew_setCells (b : Nat) : ∀ (vs : List Value) (o : Nat) (w : World), (w.setCells b o vs).drew = w.drew.setCells b o vs
 | [], _, _ => rfl
 | v :: r, o, w => by rw [World.setCells, World.setCells, drew_setCells b r]; rfl
theorem step_copy_runI {P : Program} {ops : Array Oper} {o : Oper} {a : Act} {w : World} {K : Act → World → Prop} {Q : Exit → Act → World → Prop} {E : Prop}
 (hg : o.guard = none) (d x : Operand) (dT sT : TypeId) (hop : o.op = Op.call { callee := Callee.builtin Builtin.copy, args := #[d, x], argTypes := #[dT, sT] })
 (v u : Value) (hd : a.eval d = v) (hx : a.eval x = u) {v' : Value} {w' : World} (hr : (Builtin.copy_ #[dT, sT] o.type #[v, u]).run P w = .ok v' w') (hK : K (a.put o.dst v') w') :
 if Region.wanted o (yielded ops a.tmps) = true then Oper.wp P o a w K Q else E := by
 have hw : Region.wanted o (yielded ops a.tmps) = true := by simp [Region.wanted, hg]
 rw [if_pos hw]
 unfold Oper.wp
 simp [execOp, hop, resolve, invoke, builtin, hd, hx, hr, Result.andThen]
 exact hK
theorem zeroCells_one (z : Array Value) : (Builtin.zeroCells z 1).toList = z.toList := by
 apply List.ext_getElem
 · simp [Builtin.zeroCells]
 · intro i h1 h2
   simp only [Builtin.zeroCells] at h1 ⊢
   have h3 : i < z.size := by simpa using h2
   simp [Nat.mod_eq_of_lt h3, h3]
theorem run_clear_one {P : Program} (w : World) (t e ty : TypeId) (z : Value) (ht : P.underlying t = some (.slice e)) (hv : ∀ w, (zeroValue e).run P w = .ok z w) (b o c : Nat)
 (hc : ∀ j, j < z.cells.size → (w.cell? ⟨b, o + j, none⟩).isSome = true) (hf : ∀ j, j < z.cells.size → w.frozen? ⟨b, o + j, none⟩ = false) (h1 : ∀ v ∈ z.cells.toList, v.oneCell' = true) :
 (Builtin.clear_ #[t] ty #[.slice (some ⟨b, o, none⟩) 1 c]).run P w = .ok (.tuple #[]) (w.setCells b o z.cells.toList) := by
 have h := run_clear_cells w t e ty z ht hv b o 1 c (by omega) (by simpa using hc) (by simpa using hf) (by rw [zeroCells_one]; exact h1)
 rwa [zeroCells_one] at h
section
variable {α : Type} {T : Ty α} {o : Bool} {w w' : World} {xs ys : List α} {cs ds : List Value} {F G : List Nat}
theorem repL_at (h : repL T o w xs cs F) (i : Nat) (hi : i ≤ xs.length) : ∃ F1 F2, F = F1 ++ F2 ∧ repL T o w (xs.take i) (cs.take (i * T.size)) F1 ∧ repL T o w (xs.drop i) (cs.drop (i * T.size)) F2 := by
 rw [← List.take_append_drop i xs] at h
 obtain ⟨c1, c2, F1, F2, rfl, rfl, h1, h2⟩ := repL_split h
 have hl := repL_len h1
 rw [List.length_take, Nat.min_eq_left hi] at hl
 refine ⟨F1, F2, rfl, ?_, ?_⟩
 · rw [List.take_left' hl]; exact h1
 · rw [List.drop_left' hl]; exact h2
end
end Go.Proofs.YtboijogahclekaaGreatDoor
