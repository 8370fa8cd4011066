/- The source of choices from which the laws draw. Conditions: none. -/
import Derived.Test.YtmopioaojdlnkaaDoorStrSp
import Derived.Test.YtmopioaojdlnkaaDoorRowp
import Derived.Laws.BitsLemmas
namespace Go.Proofs.YtmopioaojdlnkaaDoor
open Go Go.RowKit
theorem u64w (x : Int) : 0 ≤ IntKind.u64.wrap x ∧ IntKind.u64.wrap x < 18446744073709551616 := by
 rw [IntKind.wrap_u64]; omega
theorem and255 (x : Int) (h0 : 0 ≤ x) (h1 : x < 9223372036854775808) : 0 ≤ bits .and .u64 x 255 ∧ bits .and .u64 x 255 ≤ 255 := by
 have h := bits_mask .u64 63 (by decide) (fun n h₀ h₁ => by rw [IntKind.wrap_u64]; omega) 8 (by decide) x (by omega) (by omega)
 have e : ((2 : Int) ^ 8 - 1) = 255 := by decide
 have e2 : ((2 : Int) ^ 8) = 256 := by decide
 rw [e, e2] at h
 rw [h]; omega
theorem w64 (x : Int) (h0 : 0 ≤ x) (h1 : x ≤ 255) : wrap64 x = x := by unfold wrap64; omega
theorem bytes_open {o : Bool} {w : World} {e : TypeId} {xs : List UInt8} {v : Value} {F : List Nat} (h : (byte.slice e).rep o w xs [v] F) :
 ∃ A c, v = .slice A xs.length c ∧ xs.length ≤ c ∧ c ≤ maxLen ∧ ∀ k (hk : k < xs.length), ∃ b off, A = some ⟨b, off, none⟩ ∧ b < w.heap.size ∧ b ∈ F ∧ w.cell? ⟨b, off + k, none⟩ = some (.int .u8 (xs[k].toNat : Int)) := by
 obtain ⟨A, c, hv, h1, h2, h3⟩ := slice_open h
 refine ⟨A, c, hv, h1, h2, fun k hk => ?_⟩
 obtain ⟨b, off, ck, Fk, hA, hb, hin, ⟨rfl, -, -⟩, _, hc⟩ := h3 k hk
 have h0 := hc 0 _ rfl
 rw [show k * byte.size + 0 = k from Nat.mul_one k] at h0
 exact ⟨b, off, hA, hb, hin, h0⟩
structure SrcIs (B g : Nat) (code : List UInt8) (m : Nat) (w : World) : Prop where
 few : code.length ≤ 4096
 low : g < B
 at_ : ∃ (e : TypeId) (v : Value) (F : List Nat) (i : Nat) (seed : Int), Row w g 75 [v, .int .i64 (i : Int), .int .u64 seed] ∧ (byte.slice e).rep false w code [v] F ∧ (∀ b ∈ F, b < B ∧ b ≠ g) ∧ i ≤ m ∧ 0 ≤ seed ∧ seed < 18446744073709551616
section
variable {B g m : Nat} {code : List UInt8} {w w' : World}
theorem SrcIs.below (h : SrcIs B g code m w) (hb : Below w.heap.size w w') : SrcIs B g code m w' := by
 obtain ⟨h0, h1, e, v, F, i, s, R, hr, hF, hi⟩ := h
 exact ⟨h0, h1, e, v, F, i, s, R.later hb, hr.below hb, hF, hi⟩
theorem SrcIs.only {G : List Nat} (h : SrcIs B g code m w) (ho : Only G w w') (hG : ∀ b ∈ G, B ≤ b) : SrcIs B g code m w' := by
 obtain ⟨h0, h1, e, v, F, i, s, R, hr, hF, hi⟩ := h
 refine ⟨h0, h1, e, v, F, i, s, (ho.block g R.lt (fun hin => by have := hG _ hin; omega)).trans R, hr.only ho (fun b hb hin => by have := hG _ hin; have := (hF b hb).1; omega), hF, hi⟩
theorem SrcIs.more (h : SrcIs B g code m w) {k : Nat} (hk : m ≤ k) : SrcIs B g code k w := by
 obtain ⟨h0, h1, e, v, F, i, s, R, hr, hF, hi, h2⟩ := h
 exact ⟨h0, h1, e, v, F, i, s, R, hr, hF, by omega, h2⟩
theorem SrcIs.lt (h : SrcIs B g code m w) : g < w.heap.size := by
 obtain ⟨h0, h1, e, v, F, i, s, R, _⟩ := h
 exact R.lt
end
theorem only_drewN {F : List Nat} {a b : World} (h : Only F a b) (n : Nat) : Only F a (b.drewN n) := ⟨h.os, h.tape, h.output, h.size, h.block⟩
theorem byte_kept {o : Bool} {w w' : World} {e : TypeId} {xs : List UInt8} {cs : List Value} {F : List Nat} (h : (byte.slice e).rep o w xs cs F) (hk : ∀ b ∈ F, w'.heap[b]? = w.heap[b]?) : (byte.slice e).rep o w' xs cs F := Ty.kept _ h hk
set_option maxRecDepth 100000 in
set_option maxHeartbeats 1000000 in
theorem src_next_c {B g m : Nat} {code : List UInt8} (w : World) (h : SrcIs B g code m w) (hm : m ≤ 1000000) :
 Calls Tryd.prog 60 #[.pointer (some ⟨g, 0, none⟩)] w fun e w' => (∃ r : Int, 0 ≤ r ∧ r ≤ 255 ∧ e = .returned (.int .i64 r)) ∧ SrcIs B g code (m + 1) w' ∧ Only [g] w w' := by
 obtain ⟨h0, h1, e, v, F, i, seed, R, hr, hF, hi, s0, s1⟩ := h
 have hr' := hr
 obtain ⟨A, c, rfl, hc1, hc2, ho⟩ := bytes_open hr
 have r0 := R.c0
 have r1 := R.c1
 have r2 := R.c2
 have rf := R.frozen
 have kw := IntWalk.i64_in ((i : Int) + 1) (by omega)
 clear hr
 by_cases hlt : i < code.length
 · obtain ⟨b, off, rfl, hbb, hbF, hcell⟩ := ho i hlt
   have g1 : (i : Int) < (code.length : Int) := by omega
   have g2 : (0 : Int) ≤ (i : Int) := by omega
   have g3 : (i : Int) + 1 ≤ (code.length : Int) := by omega
   clear ho
   go_enter Tryd.func60, Tryd.ntmps60
   go_wp2_with fail
   go_quiet (fail)
   obtain ⟨n1, rfl⟩ : ∃ n : Nat, n = nq := ⟨_, rfl⟩
   go_wp2_with fail
   go_quiet (fail)
   obtain ⟨n2, rfl⟩ : ∃ n : Nat, n = nq := ⟨_, rfl⟩
   go_wp2_with fail
   go_quiet (fail)
   obtain ⟨n3, rfl⟩ : ∃ n : Nat, n = nq := ⟨_, rfl⟩
   go_wp2_with fail
   have u8 : (code[i].toNat : Int) ≤ 255 := by have := code[i].toNat_lt; omega
   have hs := u64w (IntKind.u64.wrap (IntKind.u64.wrap (seed * 6364136223846793005) + IntKind.u64.wrap (wrap64 (code[i].toNat : Int))) + 1442695040888963407)
   go_ret
   refine ⟨⟨_, ?_, ?_, rfl⟩, ⟨h0, h1, e, _, F, i + 1, _, ((((R.drewN n1).drewN n2).set 1 (.int .i64 ((i : Int) + 1))).set 2 _).drewN n3, ?_, hF, by omega, hs.1, hs.2⟩, ?_⟩
   · show 0 ≤ wrap64 (code[i].toNat : Int); rw [w64 _ (by omega) u8]; omega
   · show wrap64 (code[i].toNat : Int) ≤ 255; rw [w64 _ (by omega) u8]; exact u8
   · exact byte_kept hr' (fun b hb => ((Below.heap_setCell _ ⟨g, 2, none⟩ _ b (hF b hb).2).trans (Below.heap_setCell _ ⟨g, 1, none⟩ _ b (hF b hb).2)))
   · exact only_drewN (((only_drewN (Only.refl [g] w) _).set (p := ⟨g, 1, none⟩) (by simp) _).set (p := ⟨g, 2, none⟩) (by simp) _) _
 · have g1 : ¬ ((i : Int) < (code.length : Int)) := by omega
   clear ho
   go_enter Tryd.func60, Tryd.ntmps60
   go_wp2_with fail
   go_quiet (fail)
   obtain ⟨n1, rfl⟩ : ∃ n : Nat, n = nq := ⟨_, rfl⟩
   go_wp2_with fail
   go_quiet (fail)
   obtain ⟨n3, rfl⟩ : ∃ n : Nat, n = nq := ⟨_, rfl⟩
   go_wp2_with fail
   have hs := u64w (IntKind.u64.wrap (IntKind.u64.wrap (seed * 6364136223846793005)) + 1442695040888963407)
   have hx : 0 ≤ IntKind.u64.wrap (IntKind.u64.wrap (IntKind.u64.wrap (seed * 6364136223846793005)) + 1442695040888963407) / 1099511627776 ∧ IntKind.u64.wrap (IntKind.u64.wrap (IntKind.u64.wrap (seed * 6364136223846793005)) + 1442695040888963407) / 1099511627776 < 9223372036854775808 := by omega
   have ha := and255 _ hx.1 hx.2
   go_ret
   refine ⟨⟨_, ?_, ?_, rfl⟩, ⟨h0, h1, e, _, F, i + 1, _, (((R.drewN n1).set 1 (.int .i64 ((i : Int) + 1))).set 2 _).drewN n3, ?_, hF, by omega, hs.1, hs.2⟩, ?_⟩
   · show 0 ≤ wrap64 _; rw [w64 _ ha.1 ha.2]; exact ha.1
   · show wrap64 _ ≤ 255; rw [w64 _ ha.1 ha.2]; exact ha.2
   · exact byte_kept hr' (fun b hb => ((Below.heap_setCell _ ⟨g, 2, none⟩ _ b (hF b hb).2).trans (Below.heap_setCell _ ⟨g, 1, none⟩ _ b (hF b hb).2)))
   · exact only_drewN (((only_drewN (Only.refl [g] w) _).set (p := ⟨g, 1, none⟩) (by simp) _).set (p := ⟨g, 2, none⟩) (by simp) _) _
set_option maxRecDepth 100000 in
set_option maxHeartbeats 1000000 in
theorem src_pick_c {B g m : Nat} {code : List UInt8} (w : World) (h : SrcIs B g code m w) (hm : m ≤ 1000000) (n : Int) (hn : n ≤ 200) :
 Calls Tryd.prog 32 #[.pointer (some ⟨g, 0, none⟩), .int .i64 n] w fun e w' => (∃ r : Int, 0 ≤ r ∧ (r = 0 ∨ r < n) ∧ e = .returned (.int .i64 r)) ∧ SrcIs B g code (m + 1) w' ∧ Only [g] w w' := by
 by_cases h1 : n ≤ 1
 · go_enter Tryd.func32, Tryd.ntmps32
   go_wp2_with fail
   go_ret
   exact ⟨⟨0, by omega, .inl rfl, rfl⟩, h.more (by omega), Only.refl _ _⟩
 · have h2 : ¬ 200 < n := by omega
   have H := Lib.hid (src_next_c w h hm)
   clear h
   go_enter Tryd.func32, Tryd.ntmps32
   go_wp2_with fail
   refine H.out.mono ?_
   rintro e w1 ⟨⟨r, r0, r1, rfl⟩, S, O⟩
   have hm1 := Int.emod_nonneg r (show n ≠ 0 by omega)
   have hm2 := Int.emod_lt_of_pos r (show 0 < n by omega)
   have ht : r.tmod n = r % n := Int.tmod_eq_emod_of_nonneg r0
   have nz : ¬ n = 0 := by omega
   have nz' : (n == 0) = false := by simpa using nz
   go_wp2_with fail
   go_ret
   refine ⟨⟨r % n, hm1, .inr hm2, ?_⟩, S, O⟩
   first | rfl | exact congrArg (fun x => Ending.returned (.int .i64 x)) (by rw [ht]) | exact congrArg (fun x => Ending.returned (.int .i64 x)) (by rw [ht]; exact IntWalk.i64_in _ (by omega))
set_option maxHeartbeats 1000000 in
theorem src_one_c {B g m : Nat} {code : List UInt8} (w : World) (h : SrcIs B g code m w) (hm : m ≤ 1000000) (n : Int) (hn : n ≤ 200) :
 Calls Tryd.prog 35 #[.pointer (some ⟨g, 0, none⟩), .int .i64 n] w fun e w' => (∃ b : Bool, e = .returned (.bool b)) ∧ SrcIs B g code (m + 1) w' ∧ Only [g] w w' := by
 have H := Lib.hid (src_pick_c w h hm n hn)
 clear h
 go_enter Tryd.func35, Tryd.ntmps35
 go_wp2_with fail
 refine H.out.mono ?_
 rintro e w1 ⟨⟨r, r0, r1, rfl⟩, S, O⟩
 go_wp2_with fail
 go_ret
 exact ⟨⟨_, rfl⟩, S, O⟩
set_option maxRecDepth 100000 in
set_option maxHeartbeats 1000000 in
theorem src_text_c {B g m : Nat} {code : List UInt8} {o : Bool} {e : TypeId} {xs : List ByteArray} {v : Value} {F : List Nat} (w : World) (h : SrcIs B g code m w) (hm : m ≤ 1000000) (hl : (strs e).rep o w xs [v] F) (hF : g ∉ F) (h1 : 1 ≤ xs.length) (h2 : xs.length ≤ 200) :
 Calls Tryd.prog 38 #[.pointer (some ⟨g, 0, none⟩), v] w fun e w' => (∃ t, t ∈ xs ∧ e = .returned (.string t)) ∧ SrcIs B g code (m + 1) w' ∧ Only [g] w w' := by
 have H := Lib.hid (src_pick_c w h hm (xs.length : Int) (by omega))
 have HL := Lib.hid hl
 obtain ⟨A, c, rfl⟩ := slice_len hl
 clear h hl
 go_enter Tryd.func38, Tryd.ntmps38
 go_wp2_with fail
 refine H.out.mono ?_
 rintro e w1 ⟨⟨r, r0, r1, rfl⟩, S, O⟩
 obtain ⟨k, rfl⟩ := Int.eq_ofNat_of_zero_le r0
 have hk : k < xs.length := by omega
 have hl2 := HL.out.only O (fun b hb hin => by simp at hin; subst hin; exact hF hb)
 obtain ⟨A', c', he, _, _, hr⟩ := strs_open hl2
 cases he
 obtain ⟨b, off, rfl, hbb, _, h0, _⟩ := hr k hk
 have g1 : (k : Int) < (xs.length : Int) := by omega
 clear hr hl2 r1
 go_wp2_with fail
 go_ret
 exact ⟨⟨_, List.getElem_mem hk, rfl⟩, S, O⟩
end Go.Proofs.YtmopioaojdlnkaaDoor
