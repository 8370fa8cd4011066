/- Slices of strings: the law's own eq, mark, held, to, sz. Conditions: none. -/
import Derived.Test.YtkfadfddhbpngaaGreatMarkv
import Derived.Test.YtkfadfddhbpngaaGreatLawv
import Derived.StillTailTactics
import Derived.BigQuiet
import Derived.Deep.QuietTactic
import Derived.Deep.RegionHeld3
namespace Go.Proofs.YtkfadfddhbpngaaGreat
open Go Go.RowKit

def strs (e : TypeId) : Ty (List ByteArray) := str.slice e
theorem strs_open {o : Bool} {w : World} {e : TypeId} {xs : List ByteArray} {v : Value} {F : List Nat} (h : (strs e).rep o w xs [v] F) :
 ∃ A c, v = .slice A xs.length c ∧ xs.length ≤ c ∧ c ≤ maxLen ∧ ∀ k (hk : k < xs.length), ∃ b off, A = some ⟨b, off, none⟩ ∧ b < w.heap.size ∧ b ∈ F ∧ w.cell? ⟨b, off + k, none⟩ = some (.string xs[k]) ∧ xs[k].size ≤ maxLen := by
 obtain ⟨A, c, hv, h1, h2, h3⟩ := slice_open h
 refine ⟨A, c, hv, h1, h2, fun k hk => ?_⟩
 obtain ⟨b, off, ck, Fk, hA, hb, hin, hr, _, hc⟩ := h3 k hk
 obtain ⟨rfl, rfl, i1⟩ := str_rep.1 hr
 have h0 := hc 0 _ rfl
 rw [show k * str.size + 0 = k from Nat.mul_one k] at h0
 exact ⟨b, off, hA, hb, hin, h0, i1⟩
theorem repL_strs {o : Bool} {w : World} : ∀ (xs : List ByteArray), (∀ s ∈ xs, s.size ≤ maxLen) → repL str o w xs (xs.map .string) []
 | [], _ => ⟨rfl, rfl⟩
 | s :: r, h => ⟨[.string s], _, [], [], rfl, rfl, str_rep.2 ⟨rfl, rfl, h s (by simp)⟩, repL_strs r (fun t ht => h t (by simp [ht]))⟩
theorem repL_strs_inv {o : Bool} {w : World} : ∀ {xs : List ByteArray} {cs : List Value} {F : List Nat}, repL str o w xs cs F → cs = xs.map .string ∧ F = []
 | [], _, _, ⟨rfl, rfl⟩ => ⟨rfl, rfl⟩
 | s :: r, _, _, ⟨c1, c2, F1, F2, rfl, rfl, h1, h2⟩ => by
  obtain ⟨rfl, rfl, _⟩ := str_rep.1 h1
  obtain ⟨rfl, rfl⟩ := repL_strs_inv h2
  exact ⟨rfl, rfl⟩

theorem str_eq (a b : ByteArray) : (a.toList == b.toList) = decide (a = b) := by
 by_cases h : a = b
 · subst h; simp
 · have : ¬ a.toList = b.toList := fun e => h (by
    rw [ByteArray.toList_eq, ByteArray.toList_eq] at e
    obtain ⟨⟨a⟩⟩ := a
    obtain ⟨⟨b⟩⟩ := b
    simp at e
    rw [e])
   simp [h, this]
theorem str_eq_true {a b : ByteArray} (h : (a.toList == b.toList) = true) : a = b := by rw [str_eq] at h; simpa using h
theorem str_ne_true {a b : ByteArray} (h : (!a.toList == b.toList) = false) : a = b := str_eq_true (by simpa using h)
theorem str_ne {a b : ByteArray} (h : (!a.toList == b.toList) = true) : ¬ a = b := by
 intro e; subst e; simp at h
theorem below_drewN {B : Nat} {a w : World} (h : Below B a w) (n : Nat) : Below B a (w.drewN n) := h.trans ⟨rfl, rfl, rfl, Nat.le_refl _, fun _ _ => rfl⟩

set_option maxRecDepth 100000 in
set_option maxHeartbeats 400000 in
theorem eqStringS_c {oa ob : Bool} {ea eb : TypeId} {xs ys : List ByteArray} {v u : Value} {F G : List Nat} (w : World) (h : (strs ea).rep oa w xs [v] F) (h' : (strs eb).rep ob w ys [u] G) (hx : xs.length ≤ 1048576) (hy : ys.length ≤ 1048576) :
 Calls Tryz.prog 53 #[v, u] w fun e w' => e = .returned (.bool (decide (xs = ys))) ∧ Below w.heap.size w w' := by
 obtain ⟨A, c, rfl, hc1, hc2, hr⟩ := strs_open h
 obtain ⟨B, d, rfl, hd1, hd2, hs⟩ := strs_open h'
 clear h h'
 by_cases hl : xs.length = ys.length
 · have hne : ((xs.length : Int) != (ys.length : Int)) = false := by simp [hl]
   have HL := Lib.hid hl
   clear hl
   go_enter Tryz.func53, Tryz.ntmps53
   go_wp2_with fail
   go_loopw [5] (fun i wr => ∃ k : Nat, k ≤ xs.length ∧ i = .int .i64 k ∧ (∀ j (hj : j < xs.length) (hj' : j < ys.length), j < k → xs[j] = ys[j]) ∧ Below w.heap.size w wr) (fun i _ => xs.length - (intOf i).toNat)
   case atStart => exact ⟨0, Nat.zero_le _, rfl, fun _ _ _ h => by omega, Below.refl _ _⟩
   case round =>
    obtain ⟨k, hk, rfl, hall, hb⟩ := hrel
    have hbs := hb.size
    by_cases hlt : k < xs.length
    · have hlt' : k < ys.length := by have := HL.out; omega
      obtain ⟨b, off, rfl, hbb, _, h0, _⟩ := hr k hlt
      obtain ⟨b', off', rfl, hbb', _, h0', _⟩ := hs k hlt'
      rw [← hb.cell (p := ⟨b, _, none⟩) hbb] at h0
      rw [← hb.cell (p := ⟨b', _, none⟩) hbb'] at h0'
      have HA := Lib.hid hall
      clear hr hs hall
      go_wp2_with fail
      go_quiet (fail)
      go_wp2_with fail
      · go_ret
        have hne : ¬ xs = ys := fun e => by
         subst e
         exact str_ne (by assumption) rfl
        exact ⟨by simp [hne], below_drewN hb nq⟩
      · go_roundw
        case rel =>
         refine ⟨k + 1, by omega, by go_num, fun j hj hj' hjk => ?_, below_drewN hb nq⟩
         by_cases e : j = k
         · subst e; exact str_ne_true (by assumption)
         · exact HA.out j hj hj' (by omega)
        case measure => simp [intOf]; omega
    · obtain rfl : k = xs.length := by omega
      have heq : xs = ys := List.ext_getElem HL.out (fun j h1 h2 => hall j h1 h2 h1)
      clear hall
      go_wp2_with fail
      go_ret
      exact ⟨by simp [heq], hb⟩
 · have hne : ((xs.length : Int) != (ys.length : Int)) = true := by rw [bne_iff_ne]; omega
   have hxy : ¬ xs = ys := fun e => hl (by rw [e])
   have HL := Lib.hid hxy
   clear hl hxy
   go_enter Tryz.func53, Tryz.ntmps53
   go_wp2_with fail
   go_ret
   exact ⟨by simp [HL.out], Below.refl _ _⟩

/-- What a slice of strings weighs. -/
def szStrs (xs : List ByteArray) : Nat := xs.length + (xs.map ByteArray.size).sum
/-- The marks from number k on. -/
def markS (n k : Nat) : List ByteArray := (List.range' k n).map markB
theorem markB_size (k : Nat) : (markB k).size ≤ 21 := by
 have := digs_len 20 k
 show (109 :: digs 20 k).length ≤ 21
 simp; omega

set_option maxRecDepth 100000 in
set_option maxHeartbeats 400000 in
theorem markStringS_c {e : TypeId} {xs : List ByteArray} {v : Value} {F : List Nat} (w : World) (h : (strs e).rep true w xs [v] F) (hx : xs.length ≤ 1048576) (s : Nat) (hs0 : 0 < s) (hs : s ≤ 10000000) :
 Calls Tryz.prog 63 #[v, .int .i64 s] w fun e' w' => e' = .returned (.int .i64 (s + xs.length : Nat)) ∧ (strs e).rep true w' (markS xs.length s) [v] F ∧ Only F w w' := by
 by_cases hn : xs.length = 0
 · obtain ⟨A, c, hv, hc1, hc2, hr⟩ := slice_open h
   have hxs : xs = [] := List.eq_nil_of_length_eq_zero hn
   have h' : (strs e).rep true w (markS xs.length s) [v] F := by rw [hn]; rw [hxs] at h; exact h
   have HN := Lib.hid hn
   rw [hn] at hv
   subst hv
   rw [hn] at h' ⊢
   clear hn hr h hx HN hc1
   go_enter Tryz.func63, Tryz.ntmps63
   go_wp2_with fail
   refine wp_loop_rounds 1 ?_; rw [rounds_succ]
   go_wp2_with fail
   go_ret
   exact ⟨rfl, h', Only.refl _ _⟩
 · obtain ⟨g, c, cs, rest, G, rfl, hl, hc, hrow, hrp, hlen, rfl⟩ := row_of_slice h (by omega)
   obtain ⟨rfl, rfl⟩ := repL_strs_inv hrp
   have hgl := hrow.lt
   clear hrp h
   go_enter Tryz.func63, Tryz.ntmps63
   go_wp2_with fail
   go_loopw [1, 5] (fun m i wr => ∃ k : Nat, k ≤ xs.length ∧ i = .int .i64 k ∧ m = .int .i64 ((s : Int) + (k : Int)) ∧ Row wr g e (((markS k s).map Value.string ++ (xs.drop k).map Value.string) ++ rest) ∧ Only [g] w wr) (fun _ i _ => xs.length - (intOf i).toNat)
   case atStart => exact ⟨0, Nat.zero_le _, rfl, by simp, by simpa [markS] using hrow, Only.refl _ _⟩
   case round =>
    obtain ⟨k, hk, rfl, rfl, hrk, hb⟩ := hrel
    have hbs := hb.size
    by_cases hlt : k < xs.length
    · have hpl : ((markS k s).map Value.string).length = k := by simp [markS]
      have HP := Lib.hid hpl
      have hkl : k < ((((markS k s).map Value.string ++ (xs.drop k).map Value.string) ++ rest)).length := by simp [markS]; omega
      have HL := Lib.hid hkl
      have HN := Lib.hid hn
      have HE := Lib.hid hlen
      clear hpl hkl hn hlen hrow
      go_wp2_with (go_at_call 133; refine (markText_i _ _ (by omega) (by omega)).mono ?_; rintro e' w1 ⟨rfl, hb1⟩; have hr1 := hrk.later hb1; obtain ⟨⟨v0, hv0⟩, hf0⟩ := hr1.can HL.out)
      go_roundw
      case rel =>
       refine ⟨k + 1, by omega, by go_num, by go_num, ?_, (hb.trans (Only.of_below hb1)).set (by simp) _⟩
       rw [List.append_assoc] at hr1
       have R := hr1.put (j := 0) (i := k) (by rw [HP.out]; rfl) (.string (markB (s + k)))
       rw [List.drop_eq_getElem_cons hlt] at R
       have e1 : markS (k + 1) s = markS k s ++ [markB (s + k)] := by simp [markS, List.range'_concat]
       rw [e1]
       simp only [List.map_append, List.map_cons, List.map_nil, List.append_assoc, List.cons_append, List.nil_append, List.set_cons_zero] at R ⊢
       exact R
      case measure => simp [intOf]; omega
    · obtain rfl : k = xs.length := by omega
      have HN := Lib.hid hn
      clear hn
      go_wp2_with fail
      go_ret
      rw [List.drop_length, List.map_nil, List.append_nil] at hrk
      exact ⟨rfl, slice_of_room hrk (repL_strs _ (fun b hb => by
       obtain ⟨i, _, rfl⟩ := List.mem_map.1 hb
       have := markB_size i; unfold maxLen; omega)) (by simp [markS]) hl hc (by rw [← hlen]; simp [markS]), hb⟩

set_option maxRecDepth 100000 in
set_option maxHeartbeats 400000 in
theorem heldStringS_c {o : Bool} {e : TypeId} {n : Nat} {v : Value} {F : List Nat} (w : World) (s : Nat) (h : (strs e).rep o w (markS n s) [v] F) (hx : n ≤ 1048576) (hs0 : 0 < s) (hs : s ≤ 10000000) :
 Calls Tryz.prog 67 #[v, .int .i64 s] w fun e' w' => e' = .returned (.int .i64 (s + n : Nat)) ∧ Below w.heap.size w w' := by
 obtain ⟨A, c, rfl, hc1, hc2, hr⟩ := strs_open h
 have hn : (markS n s).length = n := by simp [markS]
 rw [hn] at hc1 ⊢
 have hr' : ∀ k, k < n → ∃ b off, A = some ⟨b, off, none⟩ ∧ b < w.heap.size ∧ w.cell? ⟨b, off + k, none⟩ = some (.string (markB (s + k))) := by
  intro k hk
  obtain ⟨b, off, hA, hb, _, hc, _⟩ := hr k (by rw [hn]; exact hk)
  refine ⟨b, off, hA, hb, ?_⟩
  rw [hc]; simp [markS]
 clear hr h hn
 go_enter Tryz.func67, Tryz.ntmps67
 go_wp2_with fail
 go_loopw [1, 5] (fun m i wr => ∃ k : Nat, k ≤ n ∧ i = .int .i64 k ∧ m = .int .i64 ((s : Int) + (k : Int)) ∧ Below w.heap.size w wr) (fun _ i _ => n - (intOf i).toNat)
 case atStart => exact ⟨0, Nat.zero_le _, rfl, by simp, Below.refl _ _⟩
 case round =>
  obtain ⟨k, hk, rfl, rfl, hb⟩ := hrel
  have hbs := hb.size
  by_cases hlt : k < n
  · obtain ⟨b, off, rfl, hbb, h0⟩ := hr' k hlt
    have hbw : b < wr.heap.size := by omega
    rw [← hb.cell (p := ⟨b, _, none⟩) hbb] at h0
    clear hr'
    go_wp2_with fail
    go_region_held3 (fun w' => w'.cell? ⟨b, off + k, none⟩ = some (.string (markB (s + k)))) (first | exact h0 | exact (Below.cell (p := ⟨b, _, none⟩) hb1 (by simpa using hbw)).trans h0) (first | (go_at_call 133; refine (markText_i _ _ (by omega) (by omega)).mono ?_; rintro e' w1 ⟨rfl, hb1⟩))
    have ek : ((s : Int) + (k : Int)).toNat = s + k := by omega
    rw [ek]
    go_wp2_with fail
    · exact absurd rfl (str_ne (a := markB (s + k)) (b := markB (s + k)) (by assumption))
    go_roundw
    case rel => exact ⟨k + 1, by omega, by go_num, by go_num, hb.drew.trans (hb1.mono hbs)⟩
    case measure => simp [intOf]; omega
  · obtain rfl : k = n := by omega
    go_wp2_with fail
    go_ret
    exact ⟨rfl, hb⟩
end Go.Proofs.YtkfadfddhbpngaaGreat
