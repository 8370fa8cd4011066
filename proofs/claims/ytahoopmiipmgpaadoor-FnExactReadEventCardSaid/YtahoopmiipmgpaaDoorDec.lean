/- Numbers as decimal text: the program's Decimal and the reference's l01Dec, of numbers that are not negative. Conditions: none. -/
import Derived.Test.YtahoopmiipmgpaaDoorShelfItoa
import Derived.Test.YtahoopmiipmgpaaDoorAppend
import Derived.Test.YtahoopmiipmgpaaDoorRows
namespace Go.Proofs.YtahoopmiipmgpaaDoor
open Go Go.RowKit Go.Shelf

/-- A number's text. -/
def decB (n : Nat) : ByteArray := ⟨(Lib.decDigits n).toArray⟩
/-- Its digits, none for 0. -/
def decP (m : Nat) : List UInt8 := if m = 0 then [] else Lib.decDigits m
theorem decP_step {m : Nat} (h : 0 < m) : decP m = decP (m / 10) ++ [UInt8.ofNat (48 + m % 10)] := by
  unfold decP
  rw [if_neg (by omega), Lib.decDigits]
  by_cases h2 : m < 10
  · rw [dif_pos h2, if_pos (by omega), show m % 10 = m by omega]; rfl
  · rw [dif_neg h2, if_neg (by omega)]
theorem decDigits_len (m : Nat) : ∀ f, m < 10 ^ (f + 1) → (Lib.decDigits m).length ≤ f + 1 := by
  intro f
  induction f generalizing m with
  | zero => intro h; rw [Lib.decDigits, dif_pos (by omega)]; simp
  | succ f ih =>
    intro h
    rw [Lib.decDigits]
    by_cases h2 : m < 10
    · rw [dif_pos h2]; simp
    · rw [dif_neg h2, List.length_append, List.length_singleton]
      have := ih (m / 10) (by rw [Nat.pow_succ] at h; omega)
      omega
theorem decB_size {n : Nat} (h : n ≤ 9223372036854775807) : (decB n).size ≤ 19 := by
  have := decDigits_len n 18 (by omega)
  simpa [decB, ByteArray.size] using this
theorem grow_below {w : World} {os : Array Obj} {k : Nat} : Below w.heap.size w (Sort.grow (w.drewN k) os) := by
  refine ⟨rfl, rfl, rfl, ?_, fun i hi => ?_⟩
  · show w.heap.size ≤ (w.heap ++ os).size
    simp
  · show (w.heap ++ os)[i]? = w.heap[i]?
    rw [Array.getElem?_append_left hi]
theorem FormatInt_c (n : Nat) (w : World) (hn : n ≤ 9223372036854775807) (htab : Lib.TabIs Tryd.prog w "internal/strconv.uint64pow10" .u64 Lib.pow10Tab) :
    Calls Tryd.prog 74 #[.int .i64 n, .int .i64 10] w fun e w' => e = .returned (.string (decB n)) ∧ Below w.heap.size w w' := by
  have C := FormatInt10_c (n : Int) (by omega) (by omega)
  have e1 : Lib.itoa (n : Int) = Lib.decDigits n := by simp [Lib.itoa]
  rw [e1] at C
  have HC := Lib.hid C
  clear C e1
  go_enter Tryd.func74, Tryd.ntmps74
  go_wp2_with fail
  refine (HC.out _ htab).mono ?_
  rintro e w1 ⟨rfl, k, os, rfl⟩
  go_wp2_with fail
  go_ret
  exact ⟨rfl, grow_below⟩
theorem impl_Decimal_c (n : Nat) (w : World) (hn : n ≤ 9223372036854775807) (htab : Lib.TabIs Tryd.prog w "internal/strconv.uint64pow10" .u64 Lib.pow10Tab) :
    Calls Tryd.prog 53 #[.int .i64 n] w fun e w' => e = .returned (.string (decB n)) ∧ Below w.heap.size w w' := by
  have HC := Lib.hid (FormatInt_c n w hn htab)
  go_enter Tryd.func53, Tryd.ntmps53
  go_wp2_with fail
  refine HC.out.mono ?_
  rintro e w1 ⟨rfl, b1⟩
  go_wp2_with fail
  go_ret
  exact ⟨rfl, b1⟩
/-- Bytes. -/
def bytesT (e : TypeId) : Ty (List UInt8) := byte.slice e
theorem byte_rep {o : Bool} {w : World} {n : UInt8} {cs : List Value} {F : List Nat} : byte.rep o w n cs F ↔ cs = [.int .u8 n.toNat] ∧ F = [] :=
  ⟨fun ⟨h1, h2, _⟩ => ⟨h1, h2⟩, fun ⟨h1, h2⟩ => ⟨h1, h2, trivial⟩⟩
theorem repL_byte {o : Bool} {w : World} : ∀ (xs : List UInt8), repL byte o w xs (xs.map fun b => .int .u8 b.toNat) []
  | [] => ⟨rfl, rfl⟩
  | s :: r => ⟨[.int .u8 s.toNat], _, [], [], rfl, rfl, byte_rep.2 ⟨rfl, rfl⟩, repL_byte r⟩
theorem repL_byte_inv {o : Bool} {w : World} : ∀ {xs : List UInt8} {cs : List Value} {F : List Nat}, repL byte o w xs cs F → cs = xs.map (fun b => .int .u8 b.toNat) ∧ F = []
  | [], _, _, ⟨rfl, rfl⟩ => ⟨rfl, rfl⟩
  | s :: r, _, _, ⟨c1, c2, F1, F2, rfl, rfl, h1, h2⟩ => by
    obtain ⟨rfl, rfl⟩ := byte_rep.1 h1
    obtain ⟨rfl, rfl⟩ := repL_byte_inv h2
    exact ⟨rfl, rfl⟩
theorem bytes_at {o : Bool} {w : World} {e : TypeId} {xs : List UInt8} {v : Value} {F : List Nat} (h : (bytesT e).rep o w xs [v] F) : ∃ A c, v = .slice A xs.length c ∧ CellsAt w A (xs.map fun b => .int .u8 b.toNat) := by
  obtain ⟨A, c, ec, F0, F1, hv, _, _, _, hr, _, ha, _⟩ := h
  obtain ⟨rfl, rfl⟩ := repL_byte_inv hr
  refine ⟨A, c, by simpa using hv, fun hp => ?_⟩
  obtain ⟨b, off, h1, _, h3⟩ := ha (by simpa using hp)
  exact ⟨b, off, h1, h3⟩
theorem slice_form0 {o : Bool} {w : World} {e : TypeId} {v : Value} {F : List Nat} (h : (bytesT e).rep o w [] [v] F) : ∃ A c, v = .slice A 0 c := by
  obtain ⟨A, c, rfl⟩ := slice_len h
  exact ⟨A, c, rfl⟩
theorem infoU8 : (Tryd.prog.info? 5).map (fun i => (i.zero, i.size, i.bytes)) = some (some (.int .u8 0), byte.size, 1) := by kernel_rfl
theorem foldl_push (l : List UInt8) : ∀ (r : ByteArray), (l.map fun b => (b.toNat : Int)).foldl (fun r n => r.push (UInt8.ofNat n.toNat)) r = ⟨r.data ++ l.toArray⟩ := by
  induction l with
  | nil => intro r; simp
  | cons b l ih =>
    intro r
    simp only [List.map_cons, List.foldl_cons]
    rw [ih]
    simp [ByteArray.push]
theorem conv_bytes {o : Bool} {w : World} {e : TypeId} {xs : List UInt8} {v : Value} {F : List Nat} {src dst : TypeId} (h : (bytesT e).rep o w xs [v] F) (hs : Tryd.prog.underlying src = some (.slice e)) (he : Tryd.prog.underlying e = some (.int .u8)) (hd : Tryd.prog.underlying dst = some .string) (hp : 0 < xs.length) :
    (convert src dst v).run Tryd.prog w = .ok (.string ⟨xs.toArray⟩) w := by
  obtain ⟨A, c, rfl, hat⟩ := bytes_at h
  obtain ⟨b, off, rfl, hc⟩ := hat (by simpa using hp)
  rw [run_convert_bytes_string _ src dst e _ _ _ hs he hd]
  have hl := run_loadCells_list (P := Tryd.prog) (w := w) ⟨b, off, none⟩ ((xs.map fun b => (b.toNat : Int)).map (Value.int .u8)) (fun j v hv => by
    have hadd : (⟨b, off, none⟩ : Addr).add j = ⟨b, off + j, none⟩ := by unfold Addr.add; split <;> simp_all
    rw [hadd]
    refine hc j v ?_
    rw [List.map_map] at hv
    exact hv)
  have hlen : ((xs.map fun b => (b.toNat : Int)).map (Value.int .u8)).length = xs.length := by simp
  rw [hlen] at hl
  rw [run_bytesToString _ _ _ _ _ hl, foldl_push]
  simp
set_option maxRecDepth 100000 in
set_option maxHeartbeats 1000000 in
theorem spec_l01Dec_c (n : Nat) (w : World) (hn : n ≤ 9223372036854775807) :
    Calls Tryd.prog 90 #[.int .i64 n] w fun e w' => e = .returned (.string (decB n)) ∧ Below w.heap.size w w' := by
  go_enter Tryd.func90, Tryd.ntmps90
  go_wp2_with fail
  go_loopw [3, 4] (fun ov kv wr => ∃ (m f : Nat) (l : List UInt8) (u : Value) (G : List Nat), m ≤ n ∧ kv = .int .i64 m ∧ u = ov ∧ Hid (decP n = decP m ++ l) ∧ Hid (m < 10 ^ f) ∧ l.length + f ≤ 19 ∧ (bytesT 5).rep true wr l [u] G ∧ Fresh w.heap.size G ∧ Below w.heap.size w wr) (fun _ kv _ => (intOf kv).toNat)
  case atStart => exact ⟨n, 19, [], _, [w.heap.size], Nat.le_refl _, rfl, rfl, (by show _ = _; simp), (by show n < 10 ^ 19; omega), by simp, slice_of_row (xs := []) (Row.new w _ _) ⟨rfl, rfl⟩ (by simp [maxLen]), ⟨by simp, by simp⟩, (Below.refl _ _).alloc (Nat.le_refl _) _⟩
  case round =>
    obtain ⟨m, f, l, u, G, hm, rfl, rfl, hd, hlt, hlf, hrep, hfr, hb⟩ := hrel
    have hbs := hb.size
    by_cases hz : 0 < m
    · have gz : ((m : Int) != 0) = true := by rw [bne_iff_ne]; omega
      have e1 : (m : Int).tmod 10 = ((m % 10 : Nat) : Int) := by rw [Int.tmod_eq_emod_of_nonneg (by omega)]; omega
      have e2 : (m : Int).tdiv 10 = ((m / 10 : Nat) : Int) := by rw [Int.tdiv_eq_ediv_of_nonneg (by omega)]; omega
      obtain ⟨f', rfl⟩ : ∃ f', f = f' + 1 := by
        cases f with
        | zero => have := hlt.out; simp at this; omega
        | succ f' => exact ⟨f', rfl⟩
      obtain ⟨A, c, rfl, _⟩ := bytes_at hrep
      have HREP := Lib.hid hrep
      have ed : (48 + (m : Int) % 10) = ((UInt8.ofNat (48 + m % 10)).toNat : Int) := by
        rw [UInt8.toNat_ofNat', Nat.mod_eq_of_lt (by omega)]; omega
      have HD : (bytesT 5).rep true (wr.alloc (.cells #[.int .u8 (48 + (m : Int) % 10)] 5)) [UInt8.ofNat (48 + m % 10)] [.slice (some ⟨wr.heap.size, 0, none⟩) 1 1] [wr.heap.size] := by
        rw [ed]
        exact slice_of_row (xs := [UInt8.ofNat (48 + m % 10)]) (Row.new wr _ _) (repL_byte _) (by simp [maxLen])
      have hat : CellsAt (wr.alloc (.cells #[.int .u8 (48 + (m : Int) % 10)] 5)) A (l.map fun b => .int .u8 b.toNat) := by
        obtain ⟨A', c', hv, h2⟩ := bytes_at (hrep.alloc (.cells #[.int .u8 (48 + (m : Int) % 10)] 5))
        injection hv with h1
        subst h1
        exact h2
      have HA := Lib.hid hat
      have HDD := Lib.hid HD
      have hlt' := hlt.out
      have hdP := hd.out
      clear hrep hat HD ed
      go_wp2_with (at_builtin; refine wpList_append_repX (T := byte) (e := 5) (xs := [UInt8.ofNat (48 + m % 10)]) (ys := l) (ec := l.map fun b => .int .u8 b.toNat) rfl (.tmp 21) (.tmp 22) rfl Tryd.underlying68 infoU8 rfl (by decide) rfl HDD.out rfl (repL_byte _) HA.out trivial (by simp) (by simp only [List.length_singleton, maxLen]; omega) (by simp only [List.length_singleton]; omega) ?_; intro v2 w4 F2 r2 o2 q2 x2)
      go_roundw
      case rel =>
        refine ⟨m / 10, f', UInt8.ofNat (48 + m % 10) :: l, v2, F2, by omega, by go_num, rfl, ?_, ?_, by simp only [List.length_cons]; omega, r2, q2 _ ⟨by simp, by simpa using hbs⟩ (by simp; omega), (hb.alloc hbs _).trans (o2.below (by simp; omega) (by simpa using hbs))⟩
        · show decP n = _
          rw [hdP, decP_step hz]; simp
        · show m / 10 < 10 ^ f'
          rw [Nat.pow_succ] at hlt'; omega
      case measure => simp [intOf]; omega
    · obtain rfl : m = 0 := by omega
      have hd' := hd.out
      rw [show decP 0 = [] from rfl, List.nil_append] at hd'
      by_cases h0 : n = 0
      · subst h0
        have hl0 : l = [] := by rw [← hd']; rfl
        subst hl0
        obtain ⟨A, c, rfl⟩ := slice_form0 hrep
        clear hd'
        go_wp2_with fail
        go_ret
        exact ⟨by rw [decB, Lib.decDigits, dif_pos (by omega)]; rfl, hb⟩
      · have hl : l = Lib.decDigits n := by rw [← hd']; simp [decP, h0]
        have hpos : 0 < l.length := by
          rw [hl, Lib.decDigits]
          split <;> simp
        have hcv := conv_bytes hrep Tryd.underlying68 Tryd.underlying5 Tryd.underlying9 hpos
        obtain ⟨A, c, rfl⟩ := slice_len hrep
        have g1 : ((l.length : Int) == 0) = false := by rw [beq_eq_false_iff_ne]; omega
        have g2 : ¬ ((n : Int) < 0) := by omega
        have HL := Lib.hid hl
        clear hl hd' h0 hpos
        go_wp2_with fail
        go_ret
        exact ⟨by have e := HL.out; subst e; rfl, hb⟩
end Go.Proofs.YtahoopmiipmgpaaDoor
