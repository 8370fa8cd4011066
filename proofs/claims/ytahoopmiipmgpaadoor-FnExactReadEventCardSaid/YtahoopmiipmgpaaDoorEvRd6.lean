/- Numbers of a text's parts as the reference reads them. Conditions: none. -/
import Derived.Test.YtahoopmiipmgpaaDoorEvRd5
namespace Go.Proofs.YtahoopmiipmgpaaDoor
open Go Go.RowKit

theorem valL_lt : ∀ (l : List UInt8), (∀ b ∈ l, 48 ≤ b.toNat ∧ b.toNat ≤ 57) → ∀ a, valL a l + 1 ≤ (a + 1) * 10 ^ l.length
  | [], _, a => by simp [valL]
  | b :: l, h, a => by
    have hb := h b (List.mem_cons_self ..)
    have := valL_lt l (fun c hc => h c (List.mem_cons_of_mem _ hc)) (10 * a + (b.toNat - 48))
    show valL (10 * a + (b.toNat - 48)) l + 1 ≤ _
    refine Nat.le_trans this ?_
    rw [List.length_cons, Nat.pow_succ, Nat.mul_comm (10 ^ l.length) 10, ← Nat.mul_assoc]
    exact Nat.mul_le_mul_right _ (by omega)
theorem numR_ok (l : List UInt8) : I64 (numR l).1 := by
  unfold numR
  split
  · exact ⟨by decide, by decide⟩
  · rename_i h1
    split
    · rename_i h2
      split
      · have h3 := valL_lt _ h2 0
        have h4 : (10 : Nat) ^ (numT l).length ≤ 10 ^ 18 := Nat.pow_le_pow_right (by decide) (by omega)
        have h5 : valL 0 (numT l) < 10 ^ 18 := by omega
        unfold numV
        split <;> constructor <;> simp <;> omega
      · exact ⟨by decide, by decide⟩
    · exact ⟨by decide, by decide⟩
/-- The numbers of the parts. -/
def numsR (ws : List ByteArray) : List Int := ws.map fun b => (numR b.data.toList).1
def okR (ws : List ByteArray) : Bool := ws.all fun b => (numR b.data.toList).2
set_option maxRecDepth 100000 in
set_option maxHeartbeats 4000000 in
theorem spec_l03Numbers_c (ws : List ByteArray) (A : Option Addr) (c : Nat) (w : World) (hr : ∀ k (hk : k < ws.length), ∃ b off, A = some ⟨b, off, none⟩ ∧ b < w.heap.size ∧ w.cell? ⟨b, off + k, none⟩ = some (.string ws[k])) (hz : ∀ b ∈ ws, b.size ≤ 1048576) (hn : ws.length ≤ 1048577) :
    Calls Tryd.prog 48 #[.slice A ws.length c] w fun e w' => ∃ v F, e = .returned (.tuple #[v, .bool (okR ws)]) ∧ (nums 2).rep true w' (numsR ws) [v] F ∧ Fresh w.heap.size F ∧ Below w.heap.size w w' := by
  go_enter Tryd.func48, Tryd.ntmps48
  go_wp2_with fail
  go_loopw [4, 5, 6] (fun nv bv iv wr => ∃ (k : Nat) (v : Value) (F : List Nat), k ≤ ws.length ∧ iv = .int .i64 k ∧ v = nv ∧ bv = .bool (okR (ws.take k)) ∧ (nums 2).rep true wr (numsR (ws.take k)) [v] F ∧ Fresh w.heap.size F ∧ Below w.heap.size w wr) (fun _ _ iv _ => ws.length - (intOf iv).toNat)
  case atStart => exact ⟨0, _, [w.heap.size], Nat.zero_le _, rfl, rfl, rfl, slice_of_row (xs := []) (Row.new w _ _) ⟨rfl, rfl⟩ (by simp [maxLen]), ⟨by simp, by simp⟩, (Below.refl _ _).alloc (Nat.le_refl _) _⟩
  case round =>
    obtain ⟨k, v, F, hk, rfl, rfl, rfl, hrep, hfr, hb⟩ := hrel
    have hbs := hb.size
    by_cases hlt : k < ws.length
    · obtain ⟨b, off, rfl, hbb, h0⟩ := hr k hlt
      rw [← hb.cell (p := ⟨b, _, none⟩) hbb] at h0
      have C := Lib.hid (spec_l01Number_c ws[k] wr (hz _ (List.getElem_mem hlt)))
      have hzz : I64 (numR ws[k].data.toList).1 := numR_ok _
      have htk : ws.take (k + 1) = ws.take k ++ [ws[k]] := List.take_succ_eq_append_getElem hlt
      have hnx : numsR (ws.take (k + 1)) = numsR (ws.take k) ++ [(numR ws[k].data.toList).1] := by rw [htk, numsR, numsR, List.map_append]; rfl
      have hox : okR (ws.take (k + 1)) = (okR (ws.take k) && (numR ws[k].data.toList).2) := by rw [htk, okR, okR, List.all_append]; simp only [List.all_cons, List.all_nil, Bool.and_true]
      have hkl : (numsR (ws.take k)).length = k := by simp [numsR]; omega
      have HN := Lib.hid hnx
      have HO := Lib.hid hox
      have HKL := Lib.hid hkl
      generalize numsR (ws.take k) = xs at hrep HN HKL hkl hnx
      generalize okR (ws.take k) = ok at HO hox ⊢
      generalize (numR ws[k].data.toList).1 = z at C hzz hnx HN
      generalize (numR ws[k].data.toList).2 = zb at C HO hox
      have i1 : (k : Int) < (ws.length : Int) := by omega
      have i2 : IntKind.i64.wrap ((k : Int) + 1) = (k : Int) + 1 := IntWalk.i64_in _ (by omega)
      have i3 : (0 : Int) ≤ (k : Int) := by omega
      have HREP := Lib.hid hrep
      obtain ⟨U, uc, rfl⟩ := slice_len hrep
      clear hr hrep hnx hkl hox htk
      cases ok
      all_goals
        go_wp2_with fail
        refine C.out.mono ?_
        rintro en w3 ⟨rfl, b3⟩
        go_wp2_with (at_builtin; go_loud (refine wpList_append_repX (T := int64) (e := 2) (ys := [z]) (ec := [.int .i64 z]) rfl (.tmp 28) (.tmp 30) rfl Tryd.underlying52 infoN rfl (by decide) rfl ((HREP.out.below b3).alloc _) rfl (repL_nums _ (by intro s hs; simp at hs; subst hs; exact hzz)) (cellsAt_new _ _ _) trivial (by rw [List.append_nil]; exact hfr.1) (by have := HKL.out; rw [this]; simp only [List.length_singleton, maxLen]; omega) (by have := HKL.out; rw [this]; simp only [List.length_singleton]; omega) ?_); intro v2 w4 F2 r2 o2 q2 x2)
        go_roundw
        case rel =>
          have b4 := hb.trans (b3.mono hbs)
          refine ⟨k + 1, v2, F2, by omega, by go_num, rfl, by rw [HO.out]; simp, ?_, q2 _ (by rw [List.append_nil]; exact hfr) (by have := b4.size; simp; omega), (b4.alloc b4.size _).trans (o2.below (by have := b4.size; simp; omega) (fun b hb => hfr.2 b hb))⟩
          rw [HN.out]
          exact r2
        case measure => simp [intOf]; omega
    · obtain rfl : k = ws.length := by omega
      rw [List.take_length] at hrep ⊢
      go_wp2_with fail
      go_ret2
      exact ⟨v, F, rfl, hrep, hfr, hb⟩
end Go.Proofs.YtahoopmiipmgpaaDoor
