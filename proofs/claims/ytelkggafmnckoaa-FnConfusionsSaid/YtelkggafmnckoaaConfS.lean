/- The reference's counting of one confusion. Conditions: none. -/
import Derived.Test.YtelkggafmnckoaaConfI
import Derived.Test.YtelkggafmnckoaaStepApp
namespace Go.Proofs.Ytelkggafmnckoaa
open Go Go.RowKit

theorem countIns_split (l : List (CKey × Int)) (q : CKey) : ∀ (p : Nat), p ≤ l.length → (∀ j (h : j < l.length), j < p → cLess (l[j]).1 q = true) → (∀ h : p < l.length, cLess (l[p]).1 q = false) →
    countIns cLess l q = l.take p ++ (match l[p]? with | some (a, n) => if a = q then (q, n + 1) :: l.drop (p + 1) else (q, 1) :: l.drop p | none => [(q, 1)]) := by
  induction l with
  | nil => intro p hp _ _; simp [countIns]
  | cons x r ih =>
    obtain ⟨a, n⟩ := x
    intro p hp h1 h2
    cases p with
    | zero =>
      have h := h2 (by simp)
      simp only [List.getElem_cons_zero] at h
      by_cases e : a = q
      · subst e; simp [countIns, h]
      · simp [countIns, h, e]
    | succ p =>
      have h := h1 0 (by simp) (by omega)
      simp only [List.getElem_cons_zero] at h
      rw [countIns_lt h, ih p (by simpa using hp) (fun j hj hjp => by have := h1 (j + 1) (by simpa using hj) (by omega); simpa using this) (fun hh => by have := h2 (by simpa using hh); simpa using this)]
      simp
section
variable {o : Bool} {w : World} {e : TypeId} {xs : List PConf} {A : Option Addr} {n c k : Nat} {F : List Nat}
theorem conf_take (h : (pConfs e).rep o w xs [.slice A n c] F) : CellsAt w A ((xs.take k).flatMap pConfCells) := by
  obtain ⟨A', c', ec, F0, F1, hv, _, hl, hc, hr, hlt, ha, _⟩ := h
  obtain ⟨rfl, rfl⟩ := repL_pConf_inv hr
  simp only [List.cons.injEq, Value.slice.injEq, and_true] at hv
  obtain ⟨rfl, rfl, rfl⟩ := hv
  intro hp
  have hx : 0 < xs.length := by
    rcases Nat.eq_zero_or_pos xs.length with h0 | h0
    · rw [List.length_eq_zero_iff.1 h0] at hp; simp at hp
    · exact h0
  obtain ⟨b, off, rfl, _, hcell⟩ := ha hx
  refine ⟨b, off, rfl, fun j u hu => hcell j u ?_⟩
  have e1 : xs.flatMap pConfCells = (xs.take k).flatMap pConfCells ++ (xs.drop k).flatMap pConfCells := by rw [← List.flatMap_append, List.take_append_drop]
  rw [e1, List.getElem?_append_left (List.getElem?_eq_some_iff.1 hu).1]
  exact hu
theorem conf_drop {b off : Nat} (h : (pConfs e).rep o w xs [.slice (some ⟨b, off, none⟩) n c] F) (hk : k ≤ n) (hne : k < n) : CellsAt w (some ⟨b, off + k * 3, none⟩) ((xs.drop k).flatMap pConfCells) := by
  obtain ⟨A', c', ec, F0, F1, hv, _, hl, hc, hr, hlt, ha, _⟩ := h
  obtain ⟨rfl, rfl⟩ := repL_pConf_inv hr
  simp only [List.cons.injEq, Value.slice.injEq, and_true] at hv
  obtain ⟨rfl, rfl, rfl⟩ := hv
  intro _
  obtain ⟨b', off', e2, _, hcell⟩ := ha (by omega)
  injection e2 with e2
  injection e2 with e2 e3 _
  subst e2; subst e3
  refine ⟨b, off + k * 3, rfl, fun j u hu => ?_⟩
  have := hcell (k * 3 + j) u ?_
  · rwa [← Nat.add_assoc] at this
  · have e1 : xs.flatMap pConfCells = (xs.take k).flatMap pConfCells ++ (xs.drop k).flatMap pConfCells := by rw [← List.flatMap_append, List.take_append_drop]
    have hl2 : ((xs.take k).flatMap pConfCells).length = k * 3 := by rw [pConfCells_len, List.length_take]; omega
    rw [e1, List.getElem?_append_right (by omega), hl2, Nat.add_sub_cancel_left]
    exact hu
end
/-- A list of confusions, in memory of its own. -/
def GivesConfL (e : TypeId) (xs : List PConf) (w : World) (en : Ending) (w' : World) : Prop :=
  ∃ u F, en = .returned u ∧ (pConfs e).rep true w' xs [u] F ∧ Fresh w.heap.size F ∧ Below w.heap.size w w'
theorem cLess_cases (kw kg a b : ByteArray) : (cLess (kw, kg) (a, b) = true ∧ (Op.bytesLess kw.toList a.toList = true ∨ Op.bytesLess kw.toList a.toList = false ∧ (kw.toList == a.toList) = true ∧ Op.bytesLess kg.toList b.toList = true)) ∨
    (cLess (kw, kg) (a, b) = false ∧ (kw, kg) ≠ (a, b) ∧ (Op.bytesLess kw.toList a.toList = false ∧ (kw.toList == a.toList) = false ∨ Op.bytesLess kw.toList a.toList = false ∧ (kw.toList == a.toList) = true ∧ Op.bytesLess kg.toList b.toList = false ∧ (kg.toList == b.toList) = false)) ∨
    (cLess (kw, kg) (a, b) = false ∧ (kw, kg) = (a, b) ∧ Op.bytesLess kw.toList a.toList = false ∧ (kw.toList == a.toList) = true ∧ Op.bytesLess kg.toList b.toList = false ∧ (kg.toList == b.toList) = true) := by
  unfold cLess bLess
  rw [str_eq kw a, str_eq kg b]
  dsimp only
  cases h1 : Op.bytesLess kw.toList a.toList with
  | true => exact .inl ⟨by simp, .inl rfl⟩
  | false =>
    by_cases h2 : kw = a
    · cases h3 : Op.bytesLess kg.toList b.toList with
      | true => exact .inl ⟨by simp [h2], .inr ⟨rfl, by simp [h2], rfl⟩⟩
      | false =>
        by_cases h4 : kg = b
        · exact .inr (.inr ⟨by simp, by rw [h2, h4], rfl, by simp [h2], rfl, by simp [h4]⟩)
        · exact .inr (.inl ⟨by simp, fun e => h4 (by injection e), .inr ⟨rfl, by simp [h2], rfl, by simp [h4]⟩⟩)
    · exact .inr (.inl ⟨by simp [h2], fun e => h2 (by injection e), .inl ⟨rfl, by simp [h2]⟩⟩)
theorem cells_on {w w' : World} {g o : Nat} {cs : List Value} (h : CellsAt w (some ⟨g, o, none⟩) cs) (hk : w'.heap[g]? = w.heap[g]?) : CellsAt w' (some ⟨g, o, none⟩) cs := by
  intro hp
  obtain ⟨b, off, e1, hc⟩ := h hp
  injection e1 with e1
  injection e1 with e1 e2 _
  subst e1; subst e2
  exact ⟨g, o, rfl, fun j u hu => (World.cell?_of_block (w := w) hk).trans (hc j u hu)⟩
theorem cell_on {w w' : World} {g o : Nat} {v : Value} (hk : w'.heap[g]? = w.heap[g]?) (h : w.cell? ⟨g, o, none⟩ = some v) : w'.cell? ⟨g, o, none⟩ = some v := (World.cell?_of_block (w := w) hk).trans h
theorem conf_nil (w : World) (e : TypeId) : (pConfs e).rep true (w.alloc (.cells #[] e)) [] [.slice (some ⟨w.heap.size, 0, none⟩) 0 0] [w.heap.size] := slice_of_row (xs := []) (Row.new w _ #[]) ⟨rfl, rfl⟩ (by simp)
theorem own_lt {w : World} {e : TypeId} {xs : List PConf} {g n c : Nat} {F : List Nat} (h : (pConfs e).rep true w xs [.slice (some ⟨g, 0, none⟩) n c] F) : g < w.heap.size := by
  obtain ⟨A', c', ec, F0, F1, hv, _, hl, hc, hr, hlt, ha, ho⟩ := h
  simp only [List.cons.injEq, Value.slice.injEq, and_true] at hv
  obtain ⟨rfl, rfl, rfl⟩ := hv
  obtain ⟨h1, -⟩ := ho rfl
  rcases h1.2 with ⟨h3, _⟩ | ⟨g', cap, cur, h3, _, hh, _⟩
  · cases h3
  · rw [Value.slice.injEq] at h3
    obtain ⟨h3, -, -⟩ := h3
    injection h3 with h3
    injection h3 with h3 _ _
    subst h3
    exact (Array.getElem?_eq_some_iff.1 hh).1
set_option maxRecDepth 100000 in
set_option maxHeartbeats 8000000 in
theorem spec_l25Count_c {e : TypeId} {l : List (CKey × Int)} {g n c : Nat} {F : List Nat} (a b : ByteArray) (w : World) (h : (pConfs e).rep true w (l.map confOf) [.slice (some ⟨g, 0, none⟩) n c] F) (hx : l.length ≤ 100000) (ha : a.size ≤ 1000) (hb : b.size ≤ 1000) (hn : ∀ x ∈ l, 0 ≤ x.2 ∧ x.2 ≤ 1000000) :
    Calls Try.prog 53 #[.slice (some ⟨g, 0, none⟩) n c, .string a, .string b] w (GivesConfL 55 ((countIns cLess l (a, b)).map confOf) w) := by
  have hok := pConfs_ok h
  obtain ⟨A, c', hv, hc1, hc2, hr⟩ := pConfs_open h
  rw [Value.slice.injEq] at hv
  obtain ⟨rfl, hnl, rfl⟩ := hv
  rw [List.length_map] at hnl hc1
  subst hnl
  have HR : ∀ k (hk : k < l.length), g < w.heap.size ∧ w.cell? ⟨g, 0 + k * 3, none⟩ = some (.string (l[k]).1.1) ∧ w.cell? ⟨g, 0 + k * 3 + 1, none⟩ = some (.string (l[k]).1.2) ∧ w.cell? ⟨g, 0 + k * 3 + 2, none⟩ = some (.int .i64 (l[k]).2) := by
    intro k hk
    obtain ⟨b', off, e1, h0, _, h1, h2, h3, _⟩ := hr k (by simpa using hk)
    injection e1 with e1
    injection e1 with e1 e2 _
    subst e1; subst e2
    simp only [List.getElem_map] at h1 h2 h3
    exact ⟨h0, h1, h2, h3⟩
  have hgs := own_lt h
  have HREP := Lib.hid h
  have HOK := Lib.hid hok
  have HN := Lib.hid hn
  have HRH := Lib.hid HR
  clear h hok hn hr HR
  go_enter Try.func53, Try.ntmps53
  go_wp2_with fail
  go_loop [7] (fun i => ∃ k : Nat, k ≤ l.length ∧ i = .int .i64 k ∧ Hid (∀ j (h : j < l.length), j < k → cLess (l[j]).1 (a, b) = true)) (fun i => l.length - (intOf i).toNat)
  case atStart => exact ⟨0, Nat.zero_le _, rfl, Lib.hid (fun _ _ h => by omega)⟩
  case round =>
    obtain ⟨k, hk, rfl, hall⟩ := hrel
    have i3 : (0 : Int) ≤ (k : Int) := by omega
    have i2 : IntKind.i64.wrap ((k : Int) + 1) = (k : Int) + 1 := IntWalk.i64_in _ (by omega)
    have hkc : k ≤ c := by omega
    by_cases hlt : k < l.length
    · obtain ⟨hg, q0, q1, q2⟩ := HRH.out k hlt
      have hnk := HN.out _ (List.getElem_mem hlt)
      obtain ⟨⟨⟨kw, kg⟩, m⟩, hlk⟩ : ∃ x, l[k] = x := ⟨_, rfl⟩
      rw [hlk] at q0 q1 q2 hnk
      dsimp only at q0 q1 q2 hnk
      rw [Nat.zero_add] at q0 q1 q2
      have HLK := Lib.hid hlk
      have i1 : (k : Int) < (l.length : Int) := by omega
      clear hlk
      rcases cLess_cases kw kg a b with ⟨hc, h1 | ⟨h1, h2, h3⟩⟩ | ⟨hc, hne, hcs⟩ | ⟨hc, heq, h1, h2, h3, h4⟩
      · have HA : Hid (∀ j (h : j < l.length), j < k + 1 → cLess (l[j]).1 (a, b) = true) := fun j hj hjk => by
          by_cases e : j = k
          · subst e; rw [HLK.out]; exact hc
          · exact hall.out j hj (by omega)
        clear hc
        go_wp2_with fail
        go_round
        case rel => exact ⟨k + 1, by omega, by go_num, HA⟩
        case measure => simp [intOf]; omega
      · have HA : Hid (∀ j (h : j < l.length), j < k + 1 → cLess (l[j]).1 (a, b) = true) := fun j hj hjk => by
          by_cases e : j = k
          · subst e; rw [HLK.out]; exact hc
          · exact hall.out j hj (by omega)
        clear hc
        go_wp2_with fail
        go_round
        case rel => exact ⟨k + 1, by omega, by go_num, HA⟩
        case measure => simp [intOf]; omega
      · /-EXIT2-/
        obtain ⟨ys, hys⟩ : ∃ ys, ys = (l.map confOf).take k := ⟨_, rfl⟩
        obtain ⟨zs, hzs⟩ : ∃ zs, zs = (l.map confOf).drop k := ⟨_, rfl⟩
        have hyl : ys.length = k := by rw [hys, List.length_take, List.length_map]; omega
        have hzl : zs.length = l.length - k := by rw [hzs, List.length_drop, List.length_map]
        have OKY := Lib.hid (show ∀ s ∈ ys, pConfOk s from fun s hs => HOK.out s (by rw [hys] at hs; exact List.mem_of_mem_take hs))
        have OKZ := Lib.hid (show ∀ s ∈ zs, pConfOk s from fun s hs => HOK.out s (by rw [hzs] at hs; exact List.mem_of_mem_drop hs))
        have CTH := Lib.hid (show CellsAt (w.alloc (.cells #[] 55)) (some ⟨g, 0, none⟩) (ys.flatMap pConfCells) by rw [hys]; exact conf_take (HREP.out.alloc _))
        have EMP := Lib.hid (conf_nil w 55)
        obtain ⟨AD, rfl, HCZ⟩ : ∃ AD : Addr, AD = ⟨g, k * 3, none⟩ ∧ Hid (∀ w' : World, w'.heap[g]? = w.heap[g]? → CellsAt w' (some AD) (zs.flatMap pConfCells)) := by
          refine ⟨⟨g, k * 3, none⟩, rfl, fun w' hw' hp => ?_⟩
          have hcd := conf_drop (k := k) HREP.out (by omega) (by omega)
          rw [Nat.zero_add, ← hzs] at hcd
          exact cells_on hcd hw' hp
        have HE : Hid ((countIns cLess l (a, b)).map confOf = ys ++ [⟨a, b, 1⟩] ++ zs) := by
          show _ = _
          rw [countIns_split l (a, b) k (by omega) hall.out (fun h => by rw [HLK.out]; exact hc), hys, hzs, List.getElem?_eq_getElem hlt, HLK.out]
          dsimp only
          rw [if_neg hne]
          simp [confOf]
        have oka : pConfOk ⟨a, b, 1⟩ := ⟨by show a.size ≤ maxLen; unfold maxLen; omega, by show b.size ≤ maxLen; unfold maxLen; omega, by show I64 (1); unfold I64; omega⟩
        have OKA := Lib.hid (show ∀ s ∈ [(⟨a, b, 1⟩ : PConf)], pConfOk s from fun s hs => by simp only [List.mem_singleton] at hs; rw [hs]; exact oka)
        have HYS := Lib.hid hys
        have HZS := Lib.hid hzs
        have HYL := Lib.hid hyl
        have HZL := Lib.hid hzl
        have HGS := Lib.hid hgs
        have HH := Lib.hid hc
        clear hc hne
        clear hys hzs hyl hzl oka hgs
        rcases hcs with ⟨h1, h2⟩ | ⟨h1, h2, h3, h4⟩
        all_goals
          go_wp2_with (first | (at_builtin; refine wpList_append_repX (T := pConf) (e := 55) (ys := ys) (ec := ys.flatMap pConfCells) (c := c) rfl (.tmp 42) (.tmp 45) rfl Try.underlying38 infoConf rfl (by decide) rfl EMP.out (by rw [HYL.out]; rfl) (repL_pConf _ OKY.out) CTH.out trivial (by simp) (by have := HYL.out; simp only [List.length_nil, maxLen]; omega) (by have := HYL.out; simp only [List.length_nil]; omega) ?_; intro v1 w1 F1 r1 o1 p1 x1; simp only [List.nil_append] at r1; have b1 : Below w.heap.size w w1 := ((Below.refl _ _).alloc (Nat.le_refl _) _).trans (o1.below (by simp) (by simp)); have f1 : Fresh w.heap.size F1 := p1 w.heap.size ⟨by simp, by simp⟩ (by simp); have y0 := cell_on (b1.block g HGS.out) q0; have y1 := cell_on (b1.block g HGS.out) q1; have y2 := cell_on (b1.block g HGS.out) q2) | (at_builtin; refine wpList_append_repX (T := pConf) (e := 55) (ys := [⟨a, b, 1⟩]) (ec := [.string a, .string b, .int .i64 (1)]) (c := _) rfl (.tmp 87) (.tmp 91) rfl Try.underlying38 infoConf rfl (by decide) rfl (r1.alloc _) rfl (repL_pConf _ OKA.out) (cellsAt_new _ _ _) trivial (by rw [List.append_nil]; exact f1.1) (by have := HYL.out; simp only [List.length_singleton, maxLen]; omega) (by have := HYL.out; simp only [List.length_singleton]; omega) ?_; intro v2 w2 F2 r2 o2 p2 x2; have b2 : Below w.heap.size w w2 := (b1.alloc b1.size _).trans (o2.below (by have := b1.size; simp; omega) f1.2); have f2 : Fresh w.heap.size F2 := p2 w.heap.size (by rw [List.append_nil]; exact f1) (by have := b1.size; simp; omega)) | (at_builtin; refine wpList_append_repX (T := pConf) (e := 55) (ys := zs) (ec := zs.flatMap pConfCells) (c := (c - k)) rfl (.tmp 93) (.tmp 96) rfl Try.underlying38 infoConf rfl (by decide) rfl r2 (by rw [HZL.out]; rfl) (repL_pConf _ OKZ.out) (HCZ.out _ (b2.block g HGS.out)) trivial (by rw [List.append_nil]; exact f2.1) (by have h8 := HYL.out; have h9 := HZL.out; simp only [List.length_append, List.length_singleton, maxLen]; omega) (by have h8 := HYL.out; have h9 := HZL.out; simp only [List.length_append, List.length_singleton]; omega) ?_; intro v3 w3 F3 r3 o3 p3 x3))
          go_ret
          exact ⟨v3, F3, rfl, by rw [HE.out]; exact r3, p3 w.heap.size (by rw [List.append_nil]; exact f2) b2.size, b2.trans (o3.below b2.size f2.2)⟩
        /-END2-/
      · /-EXIT3-/
        obtain ⟨ys, hys⟩ : ∃ ys, ys = (l.map confOf).take k := ⟨_, rfl⟩
        obtain ⟨zs, hzs⟩ : ∃ zs, zs = (l.map confOf).drop (k + 1) := ⟨_, rfl⟩
        have hyl : ys.length = k := by rw [hys, List.length_take, List.length_map]; omega
        have hzl : zs.length = l.length - (k + 1) := by rw [hzs, List.length_drop, List.length_map]
        have OKY := Lib.hid (show ∀ s ∈ ys, pConfOk s from fun s hs => HOK.out s (by rw [hys] at hs; exact List.mem_of_mem_take hs))
        have OKZ := Lib.hid (show ∀ s ∈ zs, pConfOk s from fun s hs => HOK.out s (by rw [hzs] at hs; exact List.mem_of_mem_drop hs))
        have CTH := Lib.hid (show CellsAt (w.alloc (.cells #[] 55)) (some ⟨g, 0, none⟩) (ys.flatMap pConfCells) by rw [hys]; exact conf_take (HREP.out.alloc _))
        have EMP := Lib.hid (conf_nil w 55)
        obtain ⟨AD, hAD, HCZ⟩ : ∃ AD : Addr, (if c = k + 1 then (some ⟨g, 0, none⟩ : Option Addr) else some ⟨g, (k + 1) * 3, none⟩) = some AD ∧ Hid (∀ w' : World, w'.heap[g]? = w.heap[g]? → CellsAt w' (some AD) (zs.flatMap pConfCells)) := by
          have hvac : l.length ≤ k + 1 → (zs.flatMap pConfCells).length = 0 := fun h => by have := pConfCells_len zs; omega
          by_cases hcK : c = k + 1
          · refine ⟨⟨g, 0, none⟩, by rw [if_pos hcK], fun w' hw' hp => ?_⟩
            have := hvac (by omega); omega
          · refine ⟨⟨g, (k + 1) * 3, none⟩, by rw [if_neg hcK], fun w' hw' hp => ?_⟩
            by_cases hlK : l.length ≤ k + 1
            · have := hvac hlK; omega
            · have hcd := conf_drop (k := k + 1) HREP.out (by omega) (by omega)
              rw [Nat.zero_add, ← hzs] at hcd
              exact cells_on hcd hw' hp
        have hAD2 : (if k + 1 = c then (some ⟨g, 0, none⟩ : Option Addr) else some ⟨g, (k + 1) * 3, none⟩) = some AD := by rw [← hAD]; simp only [eq_comm]
        have HE : Hid ((countIns cLess l (a, b)).map confOf = ys ++ [⟨a, b, m + 1⟩] ++ zs) := by
          show _ = _
          rw [countIns_split l (a, b) k (by omega) hall.out (fun h => by rw [HLK.out]; exact hc), hys, hzs, List.getElem?_eq_getElem hlt, HLK.out]
          dsimp only
          rw [if_pos heq]
          simp [confOf]
        have mw : IntKind.i64.wrap (m + 1) = m + 1 := IntWalk.i64_in _ (by omega)
        have j1 : ((k : Int) + 1).toNat = k + 1 := by omega
        have j2 : (0 : Int) ≤ (k : Int) + 1 := by omega
        have j3 : (k : Int) + 1 ≤ (l.length : Int) := by omega
        have j4 : k + 1 ≤ c := by omega
        have oka : pConfOk ⟨a, b, m + 1⟩ := ⟨by show a.size ≤ maxLen; unfold maxLen; omega, by show b.size ≤ maxLen; unfold maxLen; omega, by show I64 (m + 1); unfold I64; omega⟩
        have OKA := Lib.hid (show ∀ s ∈ [(⟨a, b, m + 1⟩ : PConf)], pConfOk s from fun s hs => by simp only [List.mem_singleton] at hs; rw [hs]; exact oka)
        have HYS := Lib.hid hys
        have HZS := Lib.hid hzs
        have HYL := Lib.hid hyl
        have HZL := Lib.hid hzl
        have HGS := Lib.hid hgs
        clear hc heq
        clear hys hzs hyl hzl oka hgs
        go_wp2_with (first | (at_builtin; refine wpList_append_repX (T := pConf) (e := 55) (ys := ys) (ec := ys.flatMap pConfCells) (c := c) rfl (.tmp 42) (.tmp 45) rfl Try.underlying38 infoConf rfl (by decide) rfl EMP.out (by rw [HYL.out]; rfl) (repL_pConf _ OKY.out) CTH.out trivial (by simp) (by have := HYL.out; simp only [List.length_nil, maxLen]; omega) (by have := HYL.out; simp only [List.length_nil]; omega) ?_; intro v1 w1 F1 r1 o1 p1 x1; simp only [List.nil_append] at r1; have b1 : Below w.heap.size w w1 := ((Below.refl _ _).alloc (Nat.le_refl _) _).trans (o1.below (by simp) (by simp)); have f1 : Fresh w.heap.size F1 := p1 w.heap.size ⟨by simp, by simp⟩ (by simp); have y0 := cell_on (b1.block g HGS.out) q0; have y1 := cell_on (b1.block g HGS.out) q1; have y2 := cell_on (b1.block g HGS.out) q2) | (at_builtin; refine wpList_append_repX (T := pConf) (e := 55) (ys := [⟨a, b, m + 1⟩]) (ec := [.string a, .string b, .int .i64 (m + 1)]) (c := _) rfl (.tmp 69) (.tmp 79) rfl Try.underlying38 infoConf rfl (by decide) rfl (r1.alloc _) rfl (repL_pConf _ OKA.out) (cellsAt_new _ _ _) trivial (by rw [List.append_nil]; exact f1.1) (by have := HYL.out; simp only [List.length_singleton, maxLen]; omega) (by have := HYL.out; simp only [List.length_singleton]; omega) ?_; intro v2 w2 F2 r2 o2 p2 x2; have b2 : Below w.heap.size w w2 := (b1.alloc b1.size _).trans (o2.below (by have := b1.size; simp; omega) f1.2); have f2 : Fresh w.heap.size F2 := p2 w.heap.size (by rw [List.append_nil]; exact f1) (by have := b1.size; simp; omega)) | (at_builtin; refine wpList_append_repX (T := pConf) (e := 55) (ys := zs) (ec := zs.flatMap pConfCells) (c := (c - (k + 1))) rfl (.tmp 81) (.tmp 85) rfl Try.underlying38 infoConf rfl (by decide) rfl r2 (by rw [HZL.out]; rfl) (repL_pConf _ OKZ.out) (HCZ.out _ (b2.block g HGS.out)) trivial (by rw [List.append_nil]; exact f2.1) (by have h8 := HYL.out; have h9 := HZL.out; simp only [List.length_append, List.length_singleton, maxLen]; omega) (by have h8 := HYL.out; have h9 := HZL.out; simp only [List.length_append, List.length_singleton]; omega) ?_; intro v3 w3 F3 r3 o3 p3 x3))
        go_ret
        exact ⟨v3, F3, rfl, by rw [HE.out]; exact r3, p3 w.heap.size (by rw [List.append_nil]; exact f2) b2.size, b2.trans (o3.below b2.size f2.2)⟩
        /-END3-/
    · obtain rfl : k = l.length := by omega
      /-EXIT1-/
      obtain ⟨ys, hys⟩ : ∃ ys, ys = (l.map confOf).take l.length := ⟨_, rfl⟩
      obtain ⟨zs, hzs⟩ : ∃ zs, zs = (l.map confOf).drop l.length := ⟨_, rfl⟩
      have hyl : ys.length = l.length := by rw [hys, List.length_take, List.length_map]; omega
      have hzl : zs.length = 0 := by rw [hzs, List.length_drop, List.length_map, Nat.sub_self]
      have OKY := Lib.hid (show ∀ s ∈ ys, pConfOk s from fun s hs => HOK.out s (by rw [hys] at hs; exact List.mem_of_mem_take hs))
      have OKZ := Lib.hid (show ∀ s ∈ zs, pConfOk s from fun s hs => HOK.out s (by rw [hzs] at hs; exact List.mem_of_mem_drop hs))
      have CTH := Lib.hid (show CellsAt (w.alloc (.cells #[] 55)) (some ⟨g, 0, none⟩) (ys.flatMap pConfCells) by rw [hys]; exact conf_take (HREP.out.alloc _))
      have EMP := Lib.hid (conf_nil w 55)
      obtain ⟨AD, hAD, HCZ⟩ : ∃ AD : Addr, (if c = l.length then (some ⟨g, 0, none⟩ : Option Addr) else some ⟨g, l.length * 3, none⟩) = some AD ∧ Hid (∀ w' : World, w'.heap[g]? = w.heap[g]? → CellsAt w' (some AD) (zs.flatMap pConfCells)) := by
        have hvac : l.length ≤ l.length → (zs.flatMap pConfCells).length = 0 := fun h => by have := pConfCells_len zs; omega
        by_cases hcK : c = l.length
        · refine ⟨⟨g, 0, none⟩, by rw [if_pos hcK], fun w' hw' hp => ?_⟩
          have := hvac (by omega); omega
        · refine ⟨⟨g, l.length * 3, none⟩, by rw [if_neg hcK], fun w' hw' hp => ?_⟩
          by_cases hlK : l.length ≤ l.length
          · have := hvac hlK; omega
          · have hcd := conf_drop (k := l.length) HREP.out (by omega) (by omega)
            rw [Nat.zero_add, ← hzs] at hcd
            exact cells_on hcd hw' hp
      have hAD2 : (if l.length = c then (some ⟨g, 0, none⟩ : Option Addr) else some ⟨g, l.length * 3, none⟩) = some AD := by rw [← hAD]; simp only [eq_comm]
      have HE : Hid ((countIns cLess l (a, b)).map confOf = ys ++ [⟨a, b, 1⟩] ++ zs) := by
        show _ = _
        rw [countIns_split l (a, b) l.length (by omega) hall.out (fun h => by omega), hys, hzs, List.getElem?_eq_none (by omega)]
        rw [List.take_length, List.take_of_length_le (by simp), List.drop_of_length_le (by simp)]; simp [confOf]
      have oka : pConfOk ⟨a, b, 1⟩ := ⟨by show a.size ≤ maxLen; unfold maxLen; omega, by show b.size ≤ maxLen; unfold maxLen; omega, by show I64 (1); unfold I64; omega⟩
      have OKA := Lib.hid (show ∀ s ∈ [(⟨a, b, 1⟩ : PConf)], pConfOk s from fun s hs => by simp only [List.mem_singleton] at hs; rw [hs]; exact oka)
      have HYS := Lib.hid hys
      have HZS := Lib.hid hzs
      have HYL := Lib.hid hyl
      have HZL := Lib.hid hzl
      have HGS := Lib.hid hgs
      clear hys hzs hyl hzl oka hgs
      have g9 : ¬ ((l.length : Int) < (l.length : Int)) := by omega
      go_wp2_with (first | (at_builtin; refine wpList_append_repX (T := pConf) (e := 55) (ys := ys) (ec := ys.flatMap pConfCells) (c := c) rfl (.tmp 42) (.tmp 45) rfl Try.underlying38 infoConf rfl (by decide) rfl EMP.out (by rw [HYL.out]; rfl) (repL_pConf _ OKY.out) CTH.out trivial (by simp) (by have := HYL.out; simp only [List.length_nil, maxLen]; omega) (by have := HYL.out; simp only [List.length_nil]; omega) ?_; intro v1 w1 F1 r1 o1 p1 x1; simp only [List.nil_append] at r1; have b1 : Below w.heap.size w w1 := ((Below.refl _ _).alloc (Nat.le_refl _) _).trans (o1.below (by simp) (by simp)); have f1 : Fresh w.heap.size F1 := p1 w.heap.size ⟨by simp, by simp⟩ (by simp)) | (at_builtin; refine wpList_append_repX (T := pConf) (e := 55) (ys := [⟨a, b, 1⟩]) (ec := [.string a, .string b, .int .i64 (1)]) (c := _) rfl (.tmp 87) (.tmp 91) rfl Try.underlying38 infoConf rfl (by decide) rfl (r1.alloc _) rfl (repL_pConf _ OKA.out) (cellsAt_new _ _ _) trivial (by rw [List.append_nil]; exact f1.1) (by have := HYL.out; simp only [List.length_singleton, maxLen]; omega) (by have := HYL.out; simp only [List.length_singleton]; omega) ?_; intro v2 w2 F2 r2 o2 p2 x2; have b2 : Below w.heap.size w w2 := (b1.alloc b1.size _).trans (o2.below (by have := b1.size; simp; omega) f1.2); have f2 : Fresh w.heap.size F2 := p2 w.heap.size (by rw [List.append_nil]; exact f1) (by have := b1.size; simp; omega)) | (at_builtin; refine wpList_append_repX (T := pConf) (e := 55) (ys := zs) (ec := zs.flatMap pConfCells) (c := (c - l.length)) rfl (.tmp 93) (.tmp 96) rfl Try.underlying38 infoConf rfl (by decide) rfl r2 (by rw [HZL.out]; rfl) (repL_pConf _ OKZ.out) (HCZ.out _ (b2.block g HGS.out)) trivial (by rw [List.append_nil]; exact f2.1) (by have h8 := HYL.out; have h9 := HZL.out; simp only [List.length_append, List.length_singleton, maxLen]; omega) (by have h8 := HYL.out; have h9 := HZL.out; simp only [List.length_append, List.length_singleton]; omega) ?_; intro v3 w3 F3 r3 o3 p3 x3))
      go_ret
      exact ⟨v3, F3, rfl, by rw [HE.out]; exact r3, p3 w.heap.size (by rw [List.append_nil]; exact f2) b2.size, b2.trans (o3.below b2.size f2.2)⟩
      /-END1-/
end Go.Proofs.Ytelkggafmnckoaa
