/- Reading an event's text, as plain data: parts between blanks, decimal numbers. Conditions: none. -/
import Derived.Lib.SplitLaws
import Derived.Lib.IndexBytes
import Derived.Lib.ParseIntBTie
import Derived.Lib.ItoaMem
import Derived.Lib.Strings
import Derived.Test.YtahoopmiipmgpaaDoorEvText
namespace Go.Proofs.YtahoopmiipmgpaaDoor
open Go Go.RowKit

theorem dd_digit (n : Nat) : ∀ b ∈ Lib.decDigits n, 48 ≤ b.toNat ∧ b.toNat ≤ 57 := by
  induction n using Nat.strongRecOn with
  | ind n ih =>
    intro b hb
    rw [Lib.decDigits] at hb
    split at hb
    · rename_i h
      simp only [List.mem_singleton] at hb
      subst hb
      rw [UInt8.toNat_ofNat', Nat.mod_eq_of_lt (by omega)]
      omega
    · rename_i h
      rcases List.mem_append.1 hb with h1 | h1
      · exact ih _ (by omega) b h1
      · simp only [List.mem_singleton] at h1
        subst h1
        rw [UInt8.toNat_ofNat', Nat.mod_eq_of_lt (by omega)]
        omega
theorem dd_pos (n : Nat) : 1 ≤ (Lib.decDigits n).length := by
  rw [Lib.decDigits]; split <;> simp
theorem dd_le {n : Nat} (h : n < 1000000000000000000) : (Lib.decDigits n).length ≤ 18 := decDigits_len n 17 (by omega)
/-- A number's value by its digits. -/
def valL (a : Nat) (l : List UInt8) : Nat := l.foldl (fun n b => 10 * n + (b.toNat - 48)) a
theorem val_dd (n : Nat) : valL 0 (Lib.decDigits n) = n := by
  induction n using Nat.strongRecOn with
  | ind n ih =>
    rw [Lib.decDigits]
    split
    · simp only [valL, List.foldl_cons, List.foldl_nil, UInt8.toNat_ofNat']
      omega
    · have := ih (n / 10) (by omega)
      rw [valL] at this
      rw [valL, List.foldl_append, this]
      simp only [List.foldl_cons, List.foldl_nil, UInt8.toNat_ofNat']
      omega
theorem valL_mono (l : List UInt8) : ∀ a, a ≤ valL a l := by
  induction l with
  | nil => intro a; exact Nat.le_refl _
  | cons b l ih => intro a; have := ih (10 * a + (b.toNat - 48)); show a ≤ valL (10 * a + (b.toNat - 48)) l; omega
theorem parseM {l : List UInt8} (h : ∀ b ∈ l, 48 ≤ b.toNat ∧ b.toNat ≤ 57) : ∀ a, valL a l < 1000000000000000000 → Lib.parseUintM (2 ^ 64 - 1) a l = .ok (valL a l) := by
  induction l with
  | nil => intro a _; rfl
  | cons b l ih =>
    intro a ha
    have hb := h b (List.mem_cons_self ..)
    have e1 : valL a (b :: l) = valL (a * 10 + (b.toNat - 48)) l := by rw [Nat.mul_comm]; rfl
    rw [e1] at ha ⊢
    have hm := valL_mono l (a * 10 + (b.toNat - 48))
    rw [Lib.parseUintM, if_pos hb, if_neg (by omega), if_neg (by omega)]
    exact ih (fun c hc => h c (List.mem_cons_of_mem _ hc)) _ ha

/-- What the program reads of a number's text. -/
def rdec (l : List UInt8) : Int × Bool :=
  if (Lib.trimPrefix l [45]).length < 1 ∨ 18 < (Lib.trimPrefix l [45]).length then (0, false)
  else match Lib.parseIntB 64 l with
    | .ok v => if Lib.itoa v = l then (v, true) else (0, false)
    | _ => (0, false)
theorem head_dd {n : Nat} {c : UInt8} {r : List UInt8} (h : Lib.decDigits n = c :: r) : 48 ≤ c.toNat ∧ c.toNat ≤ 57 := dd_digit n c (by rw [h]; exact List.mem_cons_self ..)
theorem parse_dd {n : Nat} (h : n < 1000000000000000000) : Lib.parseIntB 64 (Lib.decDigits n) = .ok (n : Int) := by
  have hp := dd_pos n
  have hm := parseM (dd_digit n) 0 (by rw [val_dd]; exact h)
  rw [val_dd] at hm
  cases hl : Lib.decDigits n with
  | nil => rw [hl] at hp; simp at hp
  | cons c r =>
    have hc := head_dd hl
    rw [Lib.parseIntB]
    have h1 : ¬ c.toNat = 43 := by omega
    have h2 : ¬ c.toNat = 45 := by omega
    rw [hl] at hm
    simp only [h1, h2, or_self, if_false, Lib.parseUintB, List.cons_ne_nil, hm]
    rw [if_neg (by omega), if_neg (by omega)]
theorem trim_dd (n : Nat) : Lib.trimPrefix (Lib.decDigits n) [45] = Lib.decDigits n := by
  rw [Lib.trimPrefix, if_neg]
  cases hl : Lib.decDigits n with
  | nil => simp [Lib.hasPrefix]
  | cons c r =>
    have hc := head_dd hl
    intro h
    simp only [Lib.hasPrefix, List.isPrefixOf, Bool.and_true, beq_iff_eq] at h
    rw [← h] at hc
    exact absurd hc.1 (by decide)
theorem rdec_dd {n : Nat} (h : n < 1000000000000000000) : rdec (Lib.decDigits n) = ((n : Int), true) := by
  rw [rdec, trim_dd, if_neg (by have := dd_pos n; have := dd_le h; omega), parse_dd h]
  simp [Lib.itoa_nonneg]

/-- What the reference reads of a number's text. -/
def numT (l : List UInt8) : List UInt8 := if l.head? = some 45 then l.tail else l
def numV (l : List UInt8) : Int := if l.head? = some 45 then -(valL 0 (numT l) : Int) else valL 0 (numT l)
def numR (l : List UInt8) : Int × Bool :=
  if (numT l).length < 1 ∨ 18 < (numT l).length then (0, false)
  else if ∀ b ∈ numT l, 48 ≤ b.toNat ∧ b.toNat ≤ 57 then (if Lib.itoa (numV l) = l then (numV l, true) else (0, false))
  else (0, false)
theorem head_dd' (n : Nat) : ¬ (Lib.decDigits n).head? = some 45 := by
  cases hl : Lib.decDigits n with
  | nil => simp
  | cons c r =>
    have hc := head_dd hl
    intro h
    simp only [List.head?_cons, Option.some.injEq] at h
    subst h
    exact absurd hc.1 (by decide)
theorem numR_dd {n : Nat} (h : n < 1000000000000000000) : numR (Lib.decDigits n) = ((n : Int), true) := by
  have h1 : numT (Lib.decDigits n) = Lib.decDigits n := if_neg (head_dd' n)
  have h2 : numV (Lib.decDigits n) = n := by rw [numV, if_neg (head_dd' n), h1, val_dd]
  rw [numR, h1, h2, if_neg (by have := dd_pos n; have := dd_le h; omega), if_pos (dd_digit n), if_pos (Lib.itoa_nonneg n)]
theorem numR_sound {l : List UInt8} {v : Int} (h : numR l = (v, true)) (h0 : 0 ≤ v) : l = Lib.decDigits v.toNat := by
  unfold numR at h
  split at h
  · simp at h
  · split at h
    · split at h
      · rename_i hi
        injection h with h1 _
        rw [h1] at hi
        obtain ⟨n, rfl⟩ : ∃ n : Nat, v = n := ⟨v.toNat, by omega⟩
        rw [← hi, Lib.itoa_nonneg]; simp
      · simp at h
    · simp at h

/-- The parts between blanks. -/
def splitL : List UInt8 → List (List UInt8)
  | [] => [[]]
  | b :: l => if b = 32 then [] :: splitL l else (b :: (splitL l).headD []) :: (splitL l).tail
theorem splitL_ne (l : List UInt8) : splitL l ≠ [] := by
  cases l with
  | nil => simp [splitL]
  | cons b l => rw [splitL]; split <;> simp
def joinL : List (List UInt8) → List UInt8
  | [] => []
  | [w] => w
  | w :: v :: r => w ++ 32 :: joinL (v :: r)
theorem join_split (l : List UInt8) : joinL (splitL l) = l := by
  induction l with
  | nil => rfl
  | cons b l ih =>
    rw [splitL]
    cases hs : splitL l with
    | nil => exact absurd hs (splitL_ne l)
    | cons w r =>
      rw [hs] at ih
      split
      · rename_i h; subst h
        rw [joinL, ih]; rfl
      · cases r with
        | nil => simp only [joinL, List.headD_cons, List.tail_cons] at ih ⊢; rw [ih]
        | cons v r => simp only [joinL, List.headD_cons, List.tail_cons] at ih ⊢; rw [← ih]; rfl
theorem split_word {w : List UInt8} (h : ∀ b ∈ w, b ≠ 32) : splitL w = [w] := by
  induction w with
  | nil => rfl
  | cons b w ih =>
    rw [splitL, if_neg (h b (List.mem_cons_self ..)), ih (fun c hc => h c (List.mem_cons_of_mem _ hc))]; rfl
theorem split_app {w r : List UInt8} (h : ∀ b ∈ w, b ≠ 32) : splitL (w ++ 32 :: r) = w :: splitL r := by
  induction w with
  | nil => rw [List.nil_append, splitL, if_pos rfl]
  | cons b w ih =>
    rw [List.cons_append, splitL, if_neg (h b (List.mem_cons_self ..)), ih (fun c hc => h c (List.mem_cons_of_mem _ hc))]; rfl
theorem cut_app {w r : List UInt8} (h : ∀ b ∈ w, b ≠ 32) : Lib.cut (w ++ 32 :: r) [32] = (w, r, true) := by
  have hi : Lib.index (w ++ 32 :: r) [32] = w.length := by
    rw [Lib.index_one]
    induction w with
    | nil => simp [Lib.indexByte]
    | cons b w ih =>
      have hb := h b (List.mem_cons_self ..)
      rw [List.cons_append, Lib.indexByte, ih (fun c hc => h c (List.mem_cons_of_mem _ hc))]
      simp only [beq_iff_eq, hb, if_false, List.length_cons]
      rw [if_neg (by omega)]; omega
  rw [Lib.cut, if_pos (by omega), hi]
  simp
theorem dd_noblank (n : Nat) : ∀ b ∈ Lib.decDigits n, b ≠ 32 := by
  intro b hb hc
  have := dd_digit n b hb
  subst hc
  exact absurd this.1 (by decide)
def nameL (k : Int) : List UInt8 := if k = 1 then [100, 111, 119, 110] else if k = 2 then [109, 111, 118, 101] else if k = 3 then [117, 112] else [112, 97, 117, 115, 101]
theorem name_noblank (k : Int) : ∀ b ∈ nameL k, b ≠ 32 := by
  unfold nameL
  split
  · decide
  · split
    · decide
    · split <;> decide
theorem nameB_list (k : Int) : (nameB k).data.toList = nameL k := by
  unfold nameB nameL
  split
  · rfl
  · split
    · rfl
    · split <;> rfl
/-- An event's text as a list. -/
def evL (e : PEvent) : List UInt8 :=
  if e.kind = 1 ∨ e.kind = 2 then nameL e.kind ++ 32 :: (Lib.decDigits e.x.toNat ++ 32 :: (Lib.decDigits e.y.toNat ++ 32 :: Lib.decDigits e.t.toNat))
  else nameL e.kind ++ 32 :: Lib.decDigits e.t.toNat
theorem toList_app (a b : ByteArray) : (a ++ b).data.toList = a.data.toList ++ b.data.toList := by simp
theorem evText_list {e : PEvent} (h : possB e = true) : (evText e).data.toList = evL e := by
  rw [evText, if_pos h, evL]
  split <;> simp only [toList_app, nameB_list, decB, List.append_assoc] <;> rfl

/-- The event that the program reads. -/
def kindL (l : List UInt8) : Int := if l = nameL 1 then 1 else if l = nameL 2 then 2 else if l = nameL 3 then 3 else if l = nameL 4 then 4 else 0
def implE (l : List UInt8) : PEvent :=
  let ns := (splitL (Lib.cut l [32]).2.1).map fun w => (rdec w).1
  ⟨kindL (Lib.cut l [32]).1, if ns.length = 3 then ns.getD 0 0 else 0, if ns.length = 3 then ns.getD 1 0 else 0, ns.getD (ns.length - 1) 0⟩
theorem kindL_name {k : Int} (h : (k = 1 ∨ k = 2) ∨ (k = 3 ∨ k = 4)) : kindL (nameL k) = k := by
  rcases h with (rfl | rfl) | (rfl | rfl) <;> decide
theorem possB_up {e : PEvent} (h : possB e = true) (hk : ¬ (e.kind = 1 ∨ e.kind = 2)) : e.x = 0 ∧ e.y = 0 := by
  unfold possB at h
  rw [if_neg hk] at h
  split at h
  · simp only [Bool.and_eq_true, decide_eq_true_eq] at h; omega
  · cases h
theorem implE_evL {e : PEvent} (h : possB e = true) : implE (evL e) = e := by
  have ht := possB_t h
  have hxy := possB_xy h
  have hk := possB_kind h
  have hu := possB_up h
  obtain ⟨kind, x, y, t⟩ := e
  dsimp only at ht hxy hk hu
  obtain ⟨x, rfl⟩ : ∃ n : Nat, x = n := ⟨x.toNat, by omega⟩
  obtain ⟨y, rfl⟩ : ∃ n : Nat, y = n := ⟨y.toNat, by omega⟩
  obtain ⟨t, rfl⟩ : ∃ n : Nat, t = n := ⟨t.toNat, by omega⟩
  unfold evL
  dsimp only [Int.toNat_natCast]
  split
  · simp only [implE, cut_app (name_noblank kind), split_app (dd_noblank _), split_word (dd_noblank _), List.map_cons, List.map_nil, rdec_dd (show x < 1000000000000000000 by omega), rdec_dd (show y < 1000000000000000000 by omega), rdec_dd (show t < 1000000000000000000 by omega), kindL_name hk]
    rfl
  · rename_i hn
    obtain ⟨hx, hy⟩ := hu hn
    simp only [implE, cut_app (name_noblank kind), split_word (dd_noblank _), List.map_cons, List.map_nil, rdec_dd (show t < 1000000000000000000 by omega), kindL_name hk, hx, hy]
    rfl
/-- The event that the reference reads. -/
def refE (l : List UInt8) : PEvent :=
  let w := splitL l
  let ns := w.tail.map fun w => (numR w).1
  if w.headD [] = nameL 1 ∧ w.length = 4 then ⟨1, ns.getD 0 0, ns.getD 1 0, ns.getD 2 0⟩
  else if w.headD [] = nameL 2 ∧ w.length = 4 then ⟨2, ns.getD 0 0, ns.getD 1 0, ns.getD 2 0⟩
  else if w.headD [] = nameL 3 ∧ w.length = 2 then ⟨3, 0, 0, ns.getD 0 0⟩
  else if w.headD [] = nameL 4 ∧ w.length = 2 then ⟨4, 0, 0, ns.getD 0 0⟩
  else ⟨0, 0, 0, 0⟩
def refOk (l : List UInt8) : Bool := ((splitL l).tail.all fun w => (numR w).2) && possB (refE l)
theorem refE_evL {e : PEvent} (h : possB e = true) : refE (evL e) = e ∧ refOk (evL e) = true := by
  have ht := possB_t h
  have hxy := possB_xy h
  have hk := possB_kind h
  have hu := possB_up h
  have hp := h
  obtain ⟨kind, x, y, t⟩ := e
  dsimp only at ht hxy hk hu
  obtain ⟨x, rfl⟩ : ∃ n : Nat, x = n := ⟨x.toNat, by omega⟩
  obtain ⟨y, rfl⟩ : ∃ n : Nat, y = n := ⟨y.toNat, by omega⟩
  obtain ⟨t, rfl⟩ : ∃ n : Nat, t = n := ⟨t.toNat, by omega⟩
  have nx := numR_dd (show x < 1000000000000000000 by omega)
  have ny := numR_dd (show y < 1000000000000000000 by omega)
  have nt := numR_dd (show t < 1000000000000000000 by omega)
  have d12 : ¬ nameL 2 = nameL 1 := by decide
  have d31 : ¬ nameL 3 = nameL 1 := by decide
  have d32 : ¬ nameL 3 = nameL 2 := by decide
  have d41 : ¬ nameL 4 = nameL 1 := by decide
  have d42 : ¬ nameL 4 = nameL 2 := by decide
  have d43 : ¬ nameL 4 = nameL 3 := by decide
  suffices hE : refE (evL ⟨kind, x, y, t⟩) = ⟨kind, x, y, t⟩ ∧ ((splitL (evL ⟨kind, x, y, t⟩)).tail.all fun w => (numR w).2) = true by
    refine ⟨hE.1, ?_⟩
    rw [refOk, hE.2, hE.1, hp]; rfl
  rcases hk with (rfl | rfl) | (rfl | rfl)
  · simp [evL, refE, split_app (name_noblank _), split_app (dd_noblank _), split_word (dd_noblank _), nx, ny, nt]
  · simp [evL, refE, split_app (name_noblank _), split_app (dd_noblank _), split_word (dd_noblank _), nx, ny, nt, d12]
  · obtain ⟨hx, hy⟩ := hu (by omega)
    simp [evL, refE, split_app (name_noblank _), split_word (dd_noblank _), nt, d31, d32, hx, hy]
  · obtain ⟨hx, hy⟩ := hu (by omega)
    simp [evL, refE, split_app (name_noblank _), split_word (dd_noblank _), nt, d41, d42, d43, hx, hy]
theorem four {α : Type} {l : List α} {d : α} (h : l.length = 4) : ∃ a b c, l = [l.headD d, a, b, c] := by
  match l, h with
  | [w, a, b, c], _ => exact ⟨a, b, c, rfl⟩
theorem two {α : Type} {l : List α} {d : α} (h : l.length = 2) : ∃ a, l = [l.headD d, a] := by
  match l, h with
  | [w, a], _ => exact ⟨a, rfl⟩
theorem ref_sound {l : List UInt8} (h : refOk l = true) : possB (refE l) = true ∧ evL (refE l) = l := by
  rw [refOk, Bool.and_eq_true] at h
  obtain ⟨ha, hp⟩ := h
  refine ⟨hp, ?_⟩
  have hj := join_split l
  have hs : ∀ w ∈ (splitL l).tail, ∀ v, (numR w).1 = v → 0 ≤ v → Lib.decDigits v.toNat = w := by
    intro w hw v hv h0
    have := List.all_eq_true.1 ha w hw
    exact (numR_sound (v := v) (by rw [← hv, ← this]) h0).symm
  have ht := possB_t hp
  have hxy := possB_xy hp
  have he : ∀ e, refE l = e → evL e = joinL (splitL l) := by
    intro e hr
    rw [hr] at ht hxy hp
    unfold refE at hr
    simp only at hr
    split at hr
    · rename_i h1
      obtain ⟨a, b, c, hl⟩ := four (d := []) h1.2
      rw [h1.1] at hl
      rw [hl] at hr hs ⊢
      subst hr
      simp only [List.tail_cons, List.map_cons, List.map_nil, List.getD_cons_zero, List.getD_cons_succ] at ht hxy ⊢
      simp only [evL, joinL]
      rw [if_pos (by simp), hs a (by simp) _ rfl hxy.1, hs b (by simp) _ rfl hxy.2.2.1, hs c (by simp) _ rfl ht.1]
    · split at hr
      · rename_i h1
        obtain ⟨a, b, c, hl⟩ := four (d := []) h1.2
        rw [h1.1] at hl
        rw [hl] at hr hs ⊢
        subst hr
        simp only [List.tail_cons, List.map_cons, List.map_nil, List.getD_cons_zero, List.getD_cons_succ] at ht hxy ⊢
        simp only [evL, joinL]
        rw [if_pos (by simp), hs a (by simp) _ rfl hxy.1, hs b (by simp) _ rfl hxy.2.2.1, hs c (by simp) _ rfl ht.1]
      · split at hr
        · rename_i h1
          obtain ⟨a, hl⟩ := two (d := []) h1.2
          rw [h1.1] at hl
          rw [hl] at hr hs ⊢
          subst hr
          simp only [List.tail_cons, List.map_cons, List.map_nil, List.getD_cons_zero] at ht ⊢
          simp only [evL, joinL]
          rw [if_neg (by simp), hs a (by simp) _ rfl ht.1]
        · split at hr
          · rename_i h1
            obtain ⟨a, hl⟩ := two (d := []) h1.2
            rw [h1.1] at hl
            rw [hl] at hr hs ⊢
            subst hr
            simp only [List.tail_cons, List.map_cons, List.map_nil, List.getD_cons_zero] at ht ⊢
            simp only [evL, joinL]
            rw [if_neg (by simp), hs a (by simp) _ rfl ht.1]
          · subst hr
            simp [possB] at hp
  exact (he _ rfl).trans hj
/-- Both read the same. -/
def readOk (s : ByteArray) : Bool := possB (implE s.data.toList) && decide (evText (implE s.data.toList) = s)
theorem ba_ext {a b : ByteArray} (h : a.data.toList = b.data.toList) : a = b := ByteArray.ext (Array.toList_inj.1 h)
theorem read_ref (s : ByteArray) : refOk s.data.toList = readOk s ∧ (readOk s = true → refE s.data.toList = implE s.data.toList) := by
  have key : readOk s = true → refOk s.data.toList = true ∧ refE s.data.toList = implE s.data.toList := by
    intro h
    rw [readOk, Bool.and_eq_true, decide_eq_true_eq] at h
    obtain ⟨h1, h2⟩ := h
    have h3 := evText_list h1
    rw [h2] at h3
    obtain ⟨h4, h5⟩ := refE_evL h1
    rw [← h3] at h4 h5
    exact ⟨h5, h4⟩
  refine ⟨?_, fun h => (key h).2⟩
  cases hr : readOk s with
  | true => exact (key hr).1
  | false =>
    cases ho : refOk s.data.toList with
    | false => rfl
    | true =>
      obtain ⟨h1, h2⟩ := ref_sound ho
      have h3 : implE s.data.toList = refE s.data.toList := by
        have := implE_evL h1
        rw [h2] at this
        exact this
      have : readOk s = true := by
        rw [readOk, h3, h1, Bool.true_and, decide_eq_true_eq]
        exact ba_ext (by rw [evText_list h1, h2])
      rw [hr] at this
      cases this
end Go.Proofs.YtahoopmiipmgpaaDoor
