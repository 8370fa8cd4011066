/- markText: the text that marks a cell. Conditions: none. -/
import Derived.Test.YtkfadfddhbpngaaGreatRows
import Derived.Test.YtkfadfddhbpngaaGreatRowv
namespace Go.Proofs.YtkfadfddhbpngaaGreat
open Go Go.RowKit

/-- The decimal digits of n, none for 0. -/
def digs : Nat → Nat → List UInt8
 | 0, _ => []
 | f + 1, n => if n = 0 then [] else digs f (n / 10) ++ [48 + UInt8.ofNat (n % 10)]
theorem digs_step (f n : Nat) (h : n ≠ 0) : digs (f + 1) n = digs f (n / 10) ++ [48 + UInt8.ofNat (n % 10)] := by simp [digs, h]
theorem digs_zero (f : Nat) : digs f 0 = [] := by cases f <;> simp [digs]
theorem digs_len : ∀ f n, (digs f n).length ≤ f
 | 0, _ => by simp [digs]
 | f + 1, n => by
  unfold digs
  split
  · simp
  · have := digs_len f (n / 10); simp; omega

/-- The mark of number k. -/
def markB (k : Nat) : ByteArray := ⟨(109 :: digs 20 k).toArray⟩

/-- Nothing old but the blocks of F has changed. -/
structure Only (F : List Nat) (w w' : World) : Prop where
 os : w'.os = w.os
 tape : w'.tape = w.tape
 output : w'.output = w.output
 size : w.heap.size ≤ w'.heap.size
 block : ∀ k, k < w.heap.size → k ∉ F → w'.heap[k]? = w.heap[k]?
theorem Only.refl (F : List Nat) (w : World) : Only F w w := ⟨rfl, rfl, rfl, Nat.le_refl _, fun _ _ _ => rfl⟩
theorem Only.trans {F : List Nat} {a b c : World} (h : Only F a b) (k : Only F b c) : Only F a c :=
 ⟨k.os.trans h.os, k.tape.trans h.tape, k.output.trans h.output, Nat.le_trans h.size k.size, fun i hi hn => (k.block i (Nat.lt_of_lt_of_le hi h.size) hn).trans (h.block i hi hn)⟩
theorem Only.of_below {F : List Nat} {a b : World} (h : Below a.heap.size a b) : Only F a b := ⟨h.os, h.tape, h.output, h.size, fun k hk _ => h.block k hk⟩
theorem Only.mono {F G : List Nat} {a b : World} (h : Only F a b) (hs : ∀ x ∈ F, x ∈ G) : Only G a b := ⟨h.os, h.tape, h.output, h.size, fun k hk hn => h.block k hk (fun e => hn (hs k e))⟩
theorem Only.set {F : List Nat} {a b : World} (h : Only F a b) {p : Addr} (hp : p.block ∈ F) (u : Value) : Only F a (b.setCell p u) :=
 h.trans ⟨rfl, rfl, rfl, by simp [World.setCell], fun k _ hn => Below.heap_setCell b p u k (fun e => hn (e ▸ hp))⟩
theorem Only.below {F : List Nat} {B : Nat} {a b : World} (h : Only F a b) (hB : B ≤ a.heap.size) (hF : ∀ x ∈ F, B ≤ x) : Below B a b :=
 ⟨h.os, h.tape, h.output, h.size, fun k hk => h.block k (Nat.lt_of_lt_of_le hk hB) (fun e => absurd (hF k e) (by omega))⟩
theorem Ty.rep.only {α : Type} {T : Ty α} {o : Bool} {w w' : World} {a : α} {cs : List Value} {F G : List Nat} (h : T.rep o w a cs F) (hb : Only G w w') (hd : ∀ x ∈ F, x ∉ G) : T.rep o w' a cs F :=
 T.kept h fun b hin => hb.block b (T.lt h b hin) (hd b hin)
theorem ret_int {k : IntKind} {a b : Int} (h : a = b) : Ending.returned (.int k a) = .returned (.int k b) := by rw [h]

theorem bcell {W w1 : World} (hb : Below W.heap.size W w1) : (∀ b o, b < W.heap.size → w1.cell? ⟨b, o, none⟩ = W.cell? ⟨b, o, none⟩) ∧ (∀ b o, b < W.heap.size → w1.frozen? ⟨b, o, none⟩ = W.frozen? ⟨b, o, none⟩) :=
 ⟨fun b o h => hb.cell (p := ⟨b, o, none⟩) h, fun b o h => hb.frozen (p := ⟨b, o, none⟩) h⟩
theorem bt {a b c : World} (h : Below a.heap.size a b) (k : Below b.heap.size b c) : Below a.heap.size a c := h.trans (k.mono h.size)

theorem conv_one {P : Program} {src dst e : TypeId} (hs : P.underlying src = some (.slice e)) (he : P.underlying e = some (.int .u8)) (hd : P.underlying dst = some .string) (W : World) (c : Int) :
 (convert src dst (.slice (some ⟨W.heap.size, 0, none⟩) 1 1)).run P (W.alloc (.cells #[.int .u8 c] e)) = .ok (.string ⟨[UInt8.ofNat c.toNat].toArray⟩) (W.alloc (.cells #[.int .u8 c] e)) := by
 rw [run_convert_bytes_string _ src dst e _ _ _ hs he hd]
 have hload : (loadCells ⟨W.heap.size, 0, none⟩ 1).run P (W.alloc (.cells #[.int .u8 c] e)) = .ok ([c].map (Value.int .u8)).toArray (W.alloc (.cells #[.int .u8 c] e)) := by
  simp [loadCells, loadCellsFrom, go_sem]
 rw [run_bytesToString _ _ _ _ [c] hload]
 rfl

set_option maxRecDepth 100000 in
set_option maxHeartbeats 400000 in
theorem markText_c (k : Nat) (w : World) (h0 : 0 < k) (h1 : k ≤ 100000000) :
 Calls Tryz.prog 133 #[.int .i64 k] w fun e w' => e = .returned (.string (markB k)) ∧ Below w.heap.size w w' := by
 have g0 : (0 : Int) < (k : Int) := by omega
 have g1 : (k : Int) ≤ 100000000 := by omega
 have hcv := conv_one (P := Tryz.prog) (src := 255) (dst := 9) (e := 5) Tryz.underlying255 Tryz.underlying5 Tryz.underlying9
 go_enter Tryz.func133, Tryz.ntmps133
 go_wp2_with fail
 go_loopw [0, 3] (fun n out wr => ∃ (m : Nat) (f : Nat) (l : List UInt8), m ≤ k ∧ f ≤ 20 ∧ Hid (m < 10 ^ f) ∧ l.length + f ≤ 20 ∧ Hid (digs 20 k = digs f m ++ l) ∧ n = .int .i64 m ∧ out = .string ⟨l.toArray⟩ ∧ Below w.heap.size w wr) (fun n _ _ => (intOf n).toNat)
 case atStart =>
  exact ⟨k, 20, [], Nat.le_refl _, Nat.le_refl _, (by show k < 10 ^ 20; omega), by simp, (by show digs 20 k = digs 20 k ++ []; simp), rfl, rfl, Below.refl _ _⟩
 case round =>
  obtain ⟨m, f, l, hm, hf, hlt, hl, hd, rfl, rfl, hb⟩ := hrel
  have hbs := hb.size
  by_cases hz : 0 < m
  · have gz : (0 : Int) < (m : Int) := by omega
    clear h1
    go_wp2_with fail
    obtain ⟨f', rfl⟩ : ∃ f', f = f' + 1 := by
     cases f with
     | zero => have := hlt.out; simp at this; omega
     | succ f' => exact ⟨f', rfl⟩
    go_roundw
    case rel =>
     have hlt' := hlt.out
     refine ⟨m / 10, f', (48 + UInt8.ofNat (m % 10)) :: l, by omega, by omega, ?_, by simp; omega, ?_, by go_num, ?_, hb.alloc hbs _⟩
     · show m / 10 < 10 ^ f'
       rw [Nat.pow_succ] at hlt'; omega
     · show digs 20 k = _
       rw [hd.out, digs_step f' m (by omega)]; simp
     · rw [show (ByteArray.mk #[48 + UInt8.ofNat (m % 10)]) = ByteArray.mk [48 + UInt8.ofNat (m % 10)].toArray from rfl, ByteArray.mk_append_mk]; try rfl
    case measure => simp [intOf]; omega
  · obtain rfl : m = 0 := by omega
    have gz : ¬ ((0 : Int) < ((0 : Nat) : Int)) := by omega
    go_wp2_with fail
    go_ret
    refine ⟨?_, hb⟩
    have e := hd.out
    rw [digs_zero, List.nil_append] at e
    unfold markB
    rw [e]
    congr 2
theorem markText_i (n : Int) (w : World) (h0 : 0 < n) (h1 : n ≤ 100000000) :
 Calls Tryz.prog 133 #[.int .i64 n] w fun e w' => e = .returned (.string (markB n.toNat)) ∧ Below w.heap.size w w' := by
 have h := markText_c n.toNat w (by omega) (by omega)
 rwa [show ((n.toNat : Nat) : Int) = n from by omega] at h
section
variable {α : Type} {T : Ty α} {o : Bool} {w w' : World} {xs : List α} {cs : List Value} {F G : List Nat}
theorem repL_below (h : repL T o w xs cs F) (hb : Below w.heap.size w w') : repL T o w' xs cs F := repL_kept h fun b hin => hb.block b (repL_lt h b hin)
theorem repL_set (h : repL T o w xs cs F) {p : Addr} (hp : p.block ∉ F) (u : Value) : repL T o (w.setCell p u) xs cs F := repL_kept h fun b hin => Below.heap_setCell w p u b (fun e => hp (e ▸ hin))
theorem repL_only (h : repL T o w xs cs F) (ho : Only G w w') (hd : ∀ x ∈ F, x ∉ G) : repL T o w' xs cs F := repL_kept h fun b hin => ho.block b (repL_lt h b hin) (hd b hin)
end
end Go.Proofs.YtkfadfddhbpngaaGreat
