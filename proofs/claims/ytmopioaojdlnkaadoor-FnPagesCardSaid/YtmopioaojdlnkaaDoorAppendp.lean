/- append onto a slice of one's own, told by its data. Conditions: none. -/
import Derived.Test.YtmopioaojdlnkaaDoorMarkp
namespace Go.Proofs.YtmopioaojdlnkaaDoor
open Go Go.RowKit
def CellsAt (w : World) (A : Option Addr) (cs : List Value) : Prop := 0 < cs.length → ∃ b off, A = some ⟨b, off, none⟩ ∧ ∀ j u, cs[j]? = some u → w.cell? ⟨b, off + j, none⟩ = some u
theorem cellsAt_new (w : World) (e : TypeId) (cs : List Value) : CellsAt (w.alloc (.cells cs.toArray e)) (some ⟨w.heap.size, 0, none⟩) cs :=
 fun _ => ⟨w.heap.size, 0, rfl, fun j u hu => by
  have R := Row.new w e cs.toArray
  rw [Nat.zero_add]
  exact R.cell' (by simpa using hu)⟩
theorem grown_only {w w' : World} {v : Value} {F : List Nat} (hg : w.grownBy w' v.ownBlock) (hF : ∀ g, v.ownBlock = some g → g ∈ F) : Only F w w' :=
 ⟨hg.os, hg.tape, hg.output, hg.size, fun k hk hn => hg.block k hk (fun e => hn (hF k e.symm))⟩
section
variable {P : Program} {α : Type} {T : Ty α} {t e : TypeId} {z : Value} {bytes : Nat} {w : World} {xs ys : List α} {v : Value} {F Fy : List Nat} {A : Option Addr} {c : Nat} {ec : List Value}
theorem run_append_repX (ty : TypeId) (ht : P.underlying t = some (.slice e)) (hi : (P.info? e).map (fun i => (i.zero, i.size, i.bytes)) = some (some z, T.size, bytes)) (hz : z.cells.size = T.size) (h0 : 0 < T.size)
 (hr : (T.slice e).rep true w xs [v] F) (hy : repL T true w ys ec Fy) (hat : CellsAt w A ec) (_ : True) (hnd : (F ++ Fy).Nodup)
 (h63 : xs.length + ys.length ≤ maxLen) (hb : (xs.length + ys.length) * bytes ≤ 140737488355328) :
 ∃ v' w' F', (Builtin.append_ #[t, t] ty #[v, .slice A ys.length c]).run P w = .ok v' w' ∧ (T.slice e).rep true w' (xs ++ ys) [v'] F' ∧ Only F w w' ∧ (∀ B, Fresh B (F ++ Fy) → B ≤ w.heap.size → Fresh B F') ∧ ((∀ b ∈ F', b ∈ F ++ Fy ∨ w.heap.size ≤ b) ∧ Only v.ownBlock.toList w w' ∧ ∀ b ∈ v'.ownBlock.toList, b ∈ v.ownBlock.toList ∨ w.heap.size ≤ b) := by
 obtain ⟨i, hi1, hz1, hi2, hi3⟩ := info_parts hi
 obtain ⟨a0, c0, ex, F0, F1, hv, rfl, hl, hc, hx, hlt, hax, ho⟩ := hr
 simp only [List.cons.injEq, and_true] at hv
 subst hv
 obtain ⟨hown, hF0⟩ := ho rfl
 have hin0 : ∀ g, (Value.slice a0 xs.length c0).ownBlock = some g → g ∈ F0 := fun g hg => by rw [hF0, hg]; simp
 by_cases hne : A = none
 · subst hne
   have hc0 : (Builtin.append_ #[t, t] ty #[.slice a0 xs.length c0, .slice none ys.length c]).run P w = (Builtin.append_ #[t, t] ty #[.slice a0 xs.length c0, .slice none ys.length 0]).run P w := rfl
   rw [hc0]
   have hec : ec = [] := by
    by_cases h : 0 < ec.length
    · obtain ⟨b, off, h1, _⟩ := hat h
      cases h1
    · exact List.eq_nil_of_length_eq_zero (by omega)
   have hys : ys = [] := by
    have h1 := repL_len hy
    rw [hec] at h1
    have : ys.length = 0 := by
     rcases Nat.eq_zero_or_pos ys.length with h | h
     · exact h
     · have := Nat.mul_pos h h0
       simp at h1; omega
    exact List.eq_nil_of_length_eq_zero this
   subst hys
   refine ⟨_, w, F0 ++ F1, run_append_owned_none (P := P) w 0 t ty e i T.size ht hi1 _ xs.length ex hown, ?_, Only.refl _ _, fun B hB _ => ⟨(List.nodup_append.1 hB.1).1, fun b hb => hB.2 b (List.mem_append.2 (.inl hb))⟩, fun b hb => .inl (List.mem_append.2 (.inl hb)), Only.refl _ _, fun b hb => .inl hb⟩
   rw [List.append_nil]
   exact ⟨a0, c0, ex, F0, F1, rfl, rfl, hl, hc, hx, hlt, hax, ho⟩
 · obtain ⟨ad, rfl⟩ : ∃ ad, A = some ad := by cases A with | none => exact absurd rfl hne | some ad => exact ⟨ad, rfl⟩
   have hnews : ∀ j u, ec[j]? = some u → w.cell? (ad.add j) = some u := by
    intro j u hu
    have hj : j < ec.length := (List.getElem?_eq_some_iff.1 hu).1
    obtain ⟨b, off, h1, h2⟩ := hat (by omega)
    injection h1 with h1
    subst h1
    have e1 : ((⟨b, off, none⟩ : Addr).add j) = ⟨b, off + j, none⟩ := by unfold Addr.add; split <;> simp_all
    rw [e1]
    exact h2 j u hu
   obtain ⟨v', w', hrun, h2, h3, h4, h5⟩ := run_append_own_at (P := P) w 0 t ty e i z T.size bytes ht hi1 hz1 hi2 hi3 hz h0 _ xs.length ex hown ad ys.length c ec (repL_len hy) hnews (repL_one hy) h63 hb (Nat.zero_le _)
   have hon : Only F0 w w' := grown_only h3 hin0
   have hd : ∀ b ∈ F1 ++ Fy, b ∉ F0 := by
    intro b hb hb0
    rw [List.append_assoc] at hnd
    exact (List.nodup_append.1 hnd).2.2 b hb0 b hb rfl
   have kx : repL T true w' xs ex F1 := repL_kept hx fun b hb => hon.block b (repL_lt hx b hb) (hd b (by simp [hb]))
   have ky : repL T true w' ys ec Fy := repL_kept hy fun b hb => hon.block b (repL_lt hy b hb) (hd b (by simp [hb]))
   -- what the new value looks like
   have hform : ∃ A' c', v' = .slice A' (xs.length + ys.length) c' ∧ xs.length + ys.length ≤ c' ∧ c' ≤ maxLen := by
    rcases h2.2 with ⟨h, hn⟩ | ⟨g, cap, cur, h, _, _, hn, hm, _⟩
    · exact ⟨none, 0, by rw [h, hn], by omega, Nat.zero_le _⟩
    · exact ⟨_, cap, h, hn, hm⟩
   obtain ⟨A', c', rfl, hnc, hcm⟩ := hform
   have hlt' : ∀ b ∈ ((Value.slice A' (xs.length + ys.length) c').ownBlock).toList, b < w'.heap.size := by
    intro b hb
    exact (h2.lt b (by simpa using hb)).2
   refine ⟨_, w', ((Value.slice A' (xs.length + ys.length) c').ownBlock).toList ++ (F1 ++ Fy), hrun, ⟨A', c', ex ++ ec, _, F1 ++ Fy, by rw [List.length_append], rfl, by rw [List.length_append]; exact hnc, hcm, repL_append kx ky, hlt', ?_, fun _ => ⟨by rw [List.length_append]; exact h2, by rw [List.length_append]⟩⟩, hon.mono (fun x hx => by simp [hx]), ?_, ?_, by rw [← hF0]; exact hon, fun b hb => by
    rcases h5 with h | h
    · rw [h] at hb; exact .inl hb
    · rw [h] at hb; simp at hb; exact .inr (by omega)⟩
   · intro hpos
     rw [List.length_append] at hpos
     rcases h2.2 with ⟨h, hn⟩ | ⟨g, cap, cur, h, _, hh, hn, hm, hcs, htk⟩
     · omega
     · injection h with h1 _ h3'
       subst h1
       refine ⟨g, 0, rfl, by simp [Value.ownBlock], fun j u hu => ?_⟩
       have hj : j < (ex ++ ec).length := (List.getElem?_eq_some_iff.1 hu).1
       rw [Nat.zero_add]
       simp only [World.cell?, hh]
       have hlen : (ex ++ ec).length = (xs.length + ys.length) * T.size := h2.1
       rw [← htk] at hu
       rw [List.getElem?_take_of_lt (by omega)] at hu
       simpa using hu
   · intro B hB hBs
     obtain ⟨hB1, hB2⟩ := hB
     rw [List.append_assoc] at hB1
     have hsplit := List.nodup_append.1 hB1
     rcases h5 with h | h
     · rw [h, ← hF0]
       exact ⟨by rw [← List.append_assoc]; rw [← List.append_assoc] at hB1; exact hB1, fun b hb => hB2 b (by rw [List.append_assoc]; exact hb)⟩
     · rw [h]
       refine ⟨?_, ?_⟩
       · show (w.heap.size :: (F1 ++ Fy)).Nodup
         rw [List.nodup_cons]
         refine ⟨fun hin => ?_, hsplit.2.1⟩
         rcases List.mem_append.1 hin with h6 | h6
         · exact absurd (repL_lt hx _ h6) (by omega)
         · exact absurd (repL_lt hy _ h6) (by omega)
       · intro b hb
         simp only [Option.toList_some, List.singleton_append, List.mem_cons] at hb
         rcases hb with rfl | hb
         · exact hBs
         · exact hB2 b (by rw [List.append_assoc]; exact List.mem_append.2 (.inr hb))
   · intro b hb
     rcases h5 with h | h
     · rw [h, ← hF0] at hb
       exact .inl (by simpa using hb)
     · rw [h] at hb
       simp only [Option.toList_some, List.singleton_append, List.mem_cons] at hb
       rcases hb with rfl | hb
       · exact .inr (Nat.le_refl _)
       · exact .inl (by simp only [List.mem_append] at hb ⊢; rcases hb with hb | hb <;> simp [hb])
theorem run_append_rep (ty : TypeId) (ht : P.underlying t = some (.slice e)) (hi : (P.info? e).map (fun i => (i.zero, i.size, i.bytes)) = some (some z, T.size, bytes)) (hz : z.cells.size = T.size) (h0 : 0 < T.size)
 (hr : (T.slice e).rep true w xs [v] F) (hy : repL T true w ys ec Fy) (hat : CellsAt w A ec) (hA : True) (hnd : (F ++ Fy).Nodup)
 (h63 : xs.length + ys.length ≤ maxLen) (hb : (xs.length + ys.length) * bytes ≤ 140737488355328) :
 ∃ v' w' F', (Builtin.append_ #[t, t] ty #[v, .slice A ys.length c]).run P w = .ok v' w' ∧ (T.slice e).rep true w' (xs ++ ys) [v'] F' ∧ Only F w w' ∧ (∀ B, Fresh B (F ++ Fy) → B ≤ w.heap.size → Fresh B F') := by
 obtain ⟨v', w', F', h1, h2, h3, h4, _⟩ := run_append_repX (P := P) (c := c) ty ht hi hz h0 hr hy hat hA hnd h63 hb
 exact ⟨v', w', F', h1, h2, h3, h4⟩
theorem wpList_append_rep {ops : Array Oper} {rest : List Oper} {o : Oper} {a : Act} {Q : Exit → Act → World → Prop} (hgd : o.guard = none) (s x : Operand)
 (ho : o.op = .call { callee := .builtin .append, args := #[s, x], argTypes := #[t, t] })
 (ht : P.underlying t = some (.slice e)) (hi : (P.info? e).map (fun i => (i.zero, i.size, i.bytes)) = some (some z, T.size, bytes)) (hz : z.cells.size = T.size) (h0 : 0 < T.size)
 (hs : a.eval s = v) (hr : (T.slice e).rep true w xs [v] F) (hx : a.eval x = .slice A ys.length c) (hy : repL T true w ys ec Fy) (hat : CellsAt w A ec) (hA : True) (hnd : (F ++ Fy).Nodup)
 (h63 : xs.length + ys.length ≤ maxLen) (hb : (xs.length + ys.length) * bytes ≤ 140737488355328)
 (h : ∀ v' w' F', (T.slice e).rep true w' (xs ++ ys) [v'] F' → Only F w w' → (∀ B, Fresh B (F ++ Fy) → B ≤ w.heap.size → Fresh B F') → wpList P ops Q rest (a.put o.dst v') w') : wpList P ops Q (o :: rest) a w := by
 refine wpList_plain hgd fun K hK => ?_
 obtain ⟨v', w', F', hrun, h2, h3, h4⟩ := run_append_rep (P := P) (c := c) o.type ht hi hz h0 hr hy hat hA hnd h63 hb
 unfold Oper.wp execOp
 simp only [ho, resolve, invoke, builtin, Sem.run_bind, Sem.run_pure, Result.andThen_ok, List.map_toArray, List.map_cons, List.map_nil, hs, hx, hrun]
 exact hK _ _ (h v' w' F' h2 h3 h4)
theorem wpList_append_repX {ops : Array Oper} {rest : List Oper} {o : Oper} {a : Act} {Q : Exit → Act → World → Prop} (hgd : o.guard = none) (s x : Operand)
 (ho : o.op = .call { callee := .builtin .append, args := #[s, x], argTypes := #[t, t] })
 (ht : P.underlying t = some (.slice e)) (hi : (P.info? e).map (fun i => (i.zero, i.size, i.bytes)) = some (some z, T.size, bytes)) (hz : z.cells.size = T.size) (h0 : 0 < T.size)
 (hs : a.eval s = v) (hr : (T.slice e).rep true w xs [v] F) (hx : a.eval x = .slice A ys.length c) (hy : repL T true w ys ec Fy) (hat : CellsAt w A ec) (hA : True) (hnd : (F ++ Fy).Nodup)
 (h63 : xs.length + ys.length ≤ maxLen) (hb : (xs.length + ys.length) * bytes ≤ 140737488355328)
 (h : ∀ v' w' F', (T.slice e).rep true w' (xs ++ ys) [v'] F' → Only F w w' → (∀ B, Fresh B (F ++ Fy) → B ≤ w.heap.size → Fresh B F') → ((∀ b ∈ F', b ∈ F ++ Fy ∨ w.heap.size ≤ b) ∧ Only v.ownBlock.toList w w' ∧ ∀ b ∈ v'.ownBlock.toList, b ∈ v.ownBlock.toList ∨ w.heap.size ≤ b) → wpList P ops Q rest (a.put o.dst v') w') : wpList P ops Q (o :: rest) a w := by
 refine wpList_plain hgd fun K hK => ?_
 obtain ⟨v', w', F', hrun, h2, h3, h4, h5⟩ := run_append_repX (P := P) (c := c) o.type ht hi hz h0 hr hy hat hA hnd h63 hb
 unfold Oper.wp execOp
 simp only [ho, resolve, invoke, builtin, Sem.run_bind, Sem.run_pure, Result.andThen_ok, List.map_toArray, List.map_cons, List.map_nil, hs, hx, hrun]
 exact hK _ _ (h v' w' F' h2 h3 h4 h5)
end
end Go.Proofs.YtmopioaojdlnkaaDoor
