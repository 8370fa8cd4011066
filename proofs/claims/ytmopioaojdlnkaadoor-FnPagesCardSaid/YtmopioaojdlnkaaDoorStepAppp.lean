/- append as one step of a region that draws its order; the form of a slice. No program is named here. Conditions: none. -/
import Derived.Test.YtmopioaojdlnkaaDoorAppendp
import Derived.Test.YtmopioaojdlnkaaDoorPgCopyp
namespace Go.Proofs.YtmopioaojdlnkaaDoor
open Go Go.RowKit
theorem slice_form {α : Type} {T : Ty α} {e : TypeId} {o : Bool} {w : World} {xs : List α} {v : Value} {F : List Nat} (h : (T.slice e).rep o w xs [v] F) : ∃ A n c, v = .slice A n c := by
 obtain ⟨A, c, rfl⟩ := slice_len h
 exact ⟨_, _, _, rfl⟩
section
variable {P : Program} {α : Type} {T : Ty α} {t e : TypeId} {z : Value} {bytes : Nat} {w : World} {xs ys : List α} {v : Value} {F Fy : List Nat} {A : Option Addr} {c : Nat} {ec : List Value}
theorem step_append_repX {ops : Array Oper} {o : Oper} {a : Act} {K : Act → World → Prop} {Q : Exit → Act → World → Prop} {E : Prop} (hgd : o.guard = none) (s x : Operand)
 (ho : o.op = .call { callee := .builtin .append, args := #[s, x], argTypes := #[t, t] })
 (ht : P.underlying t = some (.slice e)) (hi : (P.info? e).map (fun i => (i.zero, i.size, i.bytes)) = some (some z, T.size, bytes)) (hz : z.cells.size = T.size) (h0 : 0 < T.size)
 (hs : a.eval s = v) (hr : (T.slice e).rep true w xs [v] F) (hx : a.eval x = .slice A ys.length c) (hy : repL T true w ys ec Fy) (hat : CellsAt w A ec) (hnd : (F ++ Fy).Nodup)
 (h63 : xs.length + ys.length ≤ maxLen) (hb : (xs.length + ys.length) * bytes ≤ 140737488355328)
 (h : ∀ v' w' F', (T.slice e).rep true w' (xs ++ ys) [v'] F' → Only F w w' → (∀ B, Fresh B (F ++ Fy) → B ≤ w.heap.size → Fresh B F') → ((∀ b ∈ F', b ∈ F ++ Fy ∨ w.heap.size ≤ b) ∧ Only v.ownBlock.toList w w' ∧ ∀ b ∈ v'.ownBlock.toList, b ∈ v.ownBlock.toList ∨ w.heap.size ≤ b) → K (a.put o.dst v') w') :
 if Region.wanted o (yielded ops a.tmps) = true then Oper.wp P o a w K Q else E := by
 have hw : Region.wanted o (yielded ops a.tmps) = true := by simp [Region.wanted, hgd]
 rw [if_pos hw]
 obtain ⟨v', w', F', hrun, h2, h3, h4, h5⟩ := run_append_repX (P := P) (c := c) o.type ht hi hz h0 hr hy hat trivial hnd h63 hb
 unfold Oper.wp
 simp [execOp, ho, resolve, invoke, builtin, hs, hx, hrun, Result.andThen]
 exact h v' w' F' h2 h3 h4 h5
end
section
variable {α : Type} {T : Ty α} {e : TypeId} {w w' : World} {xs ys : List α} {v u : Value} {F G G1 Gk G2 Gy : List Nat} {g c k : Nat} {c1 c2 cs rest : List Value} {ck : Value}
theorem own_open (hS : T.size = 1) (h : (T.slice e).rep true w xs [v] F) (hk : k < xs.length) :
 ∃ g c c1 ck c2 rest G1 Gk G2, v = .slice (some ⟨g, 0, none⟩) xs.length c ∧ xs.length ≤ c ∧ c ≤ maxLen ∧ Row w g e (c1 ++ (ck :: (c2 ++ rest))) ∧ c1.length = k ∧ (c1 ++ (ck :: (c2 ++ rest))).length = c ∧
  repL T true w (xs.take k) c1 G1 ∧ T.rep true w xs[k] [ck] Gk ∧ repL T true w (xs.drop (k + 1)) c2 G2 ∧ F = g :: (G1 ++ (Gk ++ G2)) := by
 obtain ⟨g, c, cs, rest, G, hv, hl, hc, hrow, hrp, hlen, rfl⟩ := row_of_slice h (by omega)
 obtain ⟨c1, ckl, c2, G1, Gk, G2, rfl, rfl, hl1, hlk, hp1, hpk, hp2⟩ := repL_get hrp k hk
 rw [hS] at hlk hl1 hlen
 obtain ⟨ck, rfl⟩ : ∃ ck, ckl = [ck] := List.length_eq_one_iff.1 hlk
 refine ⟨g, c, c1, ck, c2, rest, G1, Gk, G2, hv, hl, hc, by simpa using hrow, by omega, by simpa using hlen, hp1, hpk, hp2, rfl⟩
theorem own_set (hS : T.size = 1) (hk : k < xs.length) {y : α} (hrow : Row w g e (c1 ++ (ck :: (c2 ++ rest)))) (hl1 : c1.length = k) (hlen : (c1 ++ (ck :: (c2 ++ rest))).length = c)
 (hl : xs.length ≤ c) (hc : c ≤ maxLen) (hp1 : repL T true w (xs.take k) c1 G1) (hy : T.rep true w y [u] Gy) (hp2 : repL T true w (xs.drop (k + 1)) c2 G2) (hg : g ∉ G1 ++ (Gy ++ G2)) :
 (T.slice e).rep true (w.setCell ⟨g, k, none⟩ u) (xs.set k y) [.slice (some ⟨g, 0, none⟩) xs.length c] (g :: (G1 ++ (Gy ++ G2))) := by
 have hr := hrow.put (j := 0) (i := k) (by omega) u
 rw [List.set_cons_zero] at hr
 have hr2 : Row (w.setCell ⟨g, k, none⟩ u) g e ((c1 ++ (u :: c2)) ++ rest) := by simpa using hr
 have n1 : g ∉ G1 := fun hin => hg (by simp [hin])
 have n2 : g ∉ Gy := fun hin => hg (by simp [hin])
 have n3 : g ∉ G2 := fun hin => hg (by simp [hin])
 have e1 : xs.set k y = xs.take k ++ y :: xs.drop (k + 1) := List.set_eq_take_append_cons_drop .. |>.trans (by rw [if_pos hk])
 rw [e1]
 have hrp : repL T true (w.setCell ⟨g, k, none⟩ u) (xs.take k ++ y :: xs.drop (k + 1)) (c1 ++ (u :: c2)) (G1 ++ (Gy ++ G2)) :=
  repL_append (repL_set hp1 n1 _) ⟨[u], c2, Gy, G2, rfl, rfl, hy.setCell n2 _, repL_set hp2 n3 _⟩
 refine slice_of_room hr2 hrp (by simp only [List.length_append, List.length_take, List.length_cons, List.length_drop]; omega) hl hc ?_
 rw [hS, Nat.mul_one, ← hlen]; simp
theorem own_keep (hS : T.size = 1) (hk : k < xs.length) {y : α} (hrow : Row w g e (c1 ++ (ck :: (c2 ++ rest)))) (hl1 : c1.length = k) (hlen : (c1 ++ (ck :: (c2 ++ rest))).length = c)
 (hl : xs.length ≤ c) (hc : c ≤ maxLen) (hp1 : repL T true w (xs.take k) c1 G1) (hy : T.rep true w y [ck] Gy) (hp2 : repL T true w (xs.drop (k + 1)) c2 G2) :
 (T.slice e).rep true w (xs.set k y) [.slice (some ⟨g, 0, none⟩) xs.length c] (g :: (G1 ++ (Gy ++ G2))) := by
 have hr2 : Row w g e ((c1 ++ (ck :: c2)) ++ rest) := by simpa using hrow
 have e1 : xs.set k y = xs.take k ++ y :: xs.drop (k + 1) := List.set_eq_take_append_cons_drop .. |>.trans (by rw [if_pos hk])
 rw [e1]
 have hrp : repL T true w (xs.take k ++ y :: xs.drop (k + 1)) (c1 ++ (ck :: c2)) (G1 ++ (Gy ++ G2)) := repL_append hp1 ⟨[ck], c2, Gy, G2, rfl, rfl, hy, hp2⟩
 refine slice_of_room hr2 hrp (by simp only [List.length_append, List.length_take, List.length_cons, List.length_drop]; omega) hl hc ?_
 rw [hS, Nat.mul_one, ← hlen]; simp
theorem row_take (h : Row w g e (cs ++ rest)) (n : Nat) : CellsAt w (some ⟨g, 0, none⟩) (cs.take n) := fun _ => ⟨g, 0, rfl, fun j u hu => by
 rw [Nat.zero_add]
 refine h.cell' ?_
 have hj := (List.getElem?_eq_some_iff.1 hu).1
 rw [List.length_take] at hj
 rw [List.getElem?_append_left (by omega)]
 rw [List.getElem?_take] at hu
 split at hu
 · exact hu
 · cases hu⟩
theorem row_drop (h : Row w g e (cs ++ rest)) (n : Nat) (hc : (cs ++ rest).length = c) (hn : n ≤ cs.length) : ∃ AD : Addr, (if c = n then (some ⟨g, 0, none⟩ : Option Addr) else some ⟨g, n, none⟩) = some AD ∧ CellsAt w (some AD) (cs.drop n) := by
 by_cases hcn : c = n
 · refine ⟨⟨g, 0, none⟩, by rw [if_pos hcn], fun hp => ?_⟩
   rw [List.length_append] at hc
   rw [List.length_drop] at hp; omega
 · refine ⟨⟨g, n, none⟩, by rw [if_neg hcn], fun _ => ⟨g, n, rfl, fun j u hu => h.cell' ?_⟩⟩
   have hj := (List.getElem?_eq_some_iff.1 hu).1
   rw [List.length_drop] at hj
   rw [List.getElem?_append_left (by omega)]
   rwa [List.getElem?_drop] at hu
theorem own_cases (h : (T.slice e).rep true w xs [v] F) : (v = .slice none 0 0 ∧ xs = []) ∨
 ∃ g c cs rest G, v = .slice (some ⟨g, 0, none⟩) xs.length c ∧ xs.length ≤ c ∧ c ≤ maxLen ∧ Row w g e (cs ++ rest) ∧ repL T true w xs cs G ∧ (cs ++ rest).length = c * T.size ∧ F = g :: G := by
 have h' := h
 obtain ⟨A, c, ec, F0, F1, hv, rfl, hl, hc, hr, hlt, ha, ho⟩ := h
 obtain ⟨h1, h2⟩ := ho rfl
 rcases h1.2 with ⟨h3, hn⟩ | ⟨g, cap, cur, h3, _⟩
 · simp only [List.cons.injEq, and_true] at hv
   exact .inl ⟨hv.trans h3, List.eq_nil_of_length_eq_zero hn⟩
 · rw [h3] at h1
   obtain ⟨rest, hrow, _, hlen, _, _⟩ := Row.of_owns h1
   injection h3 with e1 _ e2
   subst e1; subst e2
   refine .inr ⟨g, c, ec, rest, F1, by simpa using hv, hl, hc, hrow, hr, hlen, ?_⟩
   rw [h2]; simp [Value.ownBlock]
theorem part_take (hS : T.size = 1) (hrow : Row w g e (cs ++ rest)) (hr : repL T true w xs cs G) (hk : k ≤ xs.length) (hl : xs.length ≤ c) (hc : c ≤ maxLen) : ∃ F', (T.slice e).rep false w (xs.take k) [.slice (some ⟨g, 0, none⟩) k c] F' ∧ ∀ b ∈ F', b ∈ g :: G := by
 obtain ⟨Fa, Fb, rfl, h1, h2⟩ := repL_at hr k hk
 have hlk : (xs.take k).length = k := by rw [List.length_take]; omega
 rw [hS, Nat.mul_one] at h1
 refine ⟨[g] ++ Fa, ⟨some ⟨g, 0, none⟩, c, _, [g], Fa, by rw [hlk], rfl, by omega, hc, repL_read h1, by simpa using hrow.lt, fun hn => ⟨g, 0, rfl, by simp, fun j u hu => ?_⟩, fun h => by cases h⟩, by simp; intro b hb; simp [hb]⟩
 obtain ⟨b, off, e1, e2⟩ := row_take hrow k (by have := (List.getElem?_eq_some_iff.1 hu).1; omega)
 injection e1 with e1; injection e1 with e3 e4 _; subst e3; subst e4
 exact e2 j u hu
theorem part_drop (hS : T.size = 1) (hrow : Row w g e (cs ++ rest)) (hcc : (cs ++ rest).length = c) (hr : repL T true w xs cs G) (hk : k ≤ xs.length) (hl : xs.length ≤ c) (hc : c ≤ maxLen) : ∃ AD F', (if c = k then (some ⟨g, 0, none⟩ : Option Addr) else some ⟨g, k, none⟩) = some AD ∧ (T.slice e).rep false w (xs.drop k) [.slice (some AD) (xs.length - k) (c - k)] F' ∧ ∀ b ∈ F', b ∈ g :: G := by
 obtain ⟨Fa, Fb, rfl, h1, h2⟩ := repL_at hr k hk
 have hlk : (xs.drop k).length = xs.length - k := by rw [List.length_drop]
 have hcl : cs.length = xs.length := by have := repL_len hr; rw [hS, Nat.mul_one] at this; exact this
 rw [hS, Nat.mul_one] at h2
 obtain ⟨AD, hif, hat⟩ := row_drop (c := c) hrow k hcc (by omega)
 refine ⟨AD, [g] ++ Fb, hif, ⟨some AD, c - k, _, [g], Fb, by rw [hlk], rfl, by omega, by omega, repL_read h2, by simpa using hrow.lt, fun hn => ?_, fun h => by cases h⟩, by simp; intro b hb; simp [hb]⟩
 have hkn : ¬ c = k := by omega
 rw [if_neg hkn] at hif
 injection hif with hif
 subst hif
 refine ⟨g, k, rfl, by simp, fun j u hu => ?_⟩
 obtain ⟨b, off, e1, e2⟩ := hat (by have := (List.getElem?_eq_some_iff.1 hu).1; omega)
 injection e1 with e1; injection e1 with e3 e4 _; subst e3; subst e4
 exact e2 j u hu
end
theorem own_parts {w : World} {e : TypeId} {g c n : Nat} {c1 c2 rest : List Value} {ck : Value} (hrow : Row w g e (c1 ++ (ck :: (c2 ++ rest)))) (hl1 : c1.length = n) (hlen : (c1 ++ (ck :: (c2 ++ rest))).length = c) :
 CellsAt w (some ⟨g, 0, none⟩) c1 ∧ ∃ AD : Addr, (if c = n + 1 then (some ⟨g, 0, none⟩ : Option Addr) else some ⟨g, n + 1, none⟩) = some AD ∧ CellsAt w (some AD) c2 := by
 have h : Row w g e ((c1 ++ (ck :: c2)) ++ rest) := by simpa using hrow
 have ht := row_take h n
 rw [List.take_left' hl1] at ht
 obtain ⟨AD, h1, h2⟩ := row_drop (c := c) h (n + 1) (by simpa using hlen) (by simp; omega)
 rw [show (c1 ++ ck :: c2).drop (n + 1) = c2 from by rw [← List.drop_drop, List.drop_left' hl1]; rfl] at h2
 exact ⟨ht, AD, h1, h2⟩
theorem nodup_app {F G : List Nat} (hF : F.Nodup) (hG : G.Nodup) (h : ∀ x, x ∈ F → x ∈ G → False) : (F ++ G).Nodup := List.nodup_append.2 ⟨hF, hG, fun x h1 _ h2 e => h x h1 (e ▸ h2)⟩
end Go.Proofs.YtmopioaojdlnkaaDoor
