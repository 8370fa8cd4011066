/- Numbers as decimal text: the program's Decimal and the reference's l01Dec, of numbers that are not negative. Conditions: none. -/
import Derived.Test.YtboijogahclekaaGreatDoorDkValidk
import Derived.Test.YtboijogahclekaaGreatDoorAppendk
import Derived.Test.YtboijogahclekaaGreatDoorRows
import Derived.Test.YtboijogahclekaaGreatDoorStrSk
import Derived.Test.YtboijogahclekaaGreatDoorTyBigramk
import Derived.Test.YtboijogahclekaaGreatDoorConfk
import Derived.Test.YtboijogahclekaaGreatDoorSeVk
import Derived.Shelf.Strings.Builder1
import Derived.Shelf.Strings.OnBuilder
import Derived.Test.YtboijogahclekaaGreatDoorLibk
import Derived.Test.YtboijogahclekaaGreatDoorProg
namespace Go.Proofs.YtboijogahclekaaGreatDoor
open Go Go.RowKit Go.Shelf
def decB (n : Nat) : ByteArray := ⟨(Lib.decDigits n).toArray⟩
def decP (m : Nat) : List UInt8 := if m = 0 then [] else Lib.decDigits m
theorem decP_step {m : Nat} (h : 0 < m) : decP m = decP (m / 10) ++ [UInt8.ofNat (48 + m % 10)] := by
 unfold decP
 rw [if_neg (by omega), Lib.decDigits]
 by_cases h2 : m < 10
 · rw [dif_pos h2, if_pos (by omega), show m % 10 = m by omega]; rfl
 · rw [dif_neg h2, if_neg (by omega)]
theorem decDigits_len (m : Nat) : ∀ f, m < 10 ^ (f + 1) → (Lib.decDigits m).length ≤ f + 1 := by
 intro f
 induction f generalizing m with
 | zero => intro h; rw [Lib.decDigits, dif_pos (by omega)]; simp
 | succ f ih =>
   intro h
   rw [Lib.decDigits]
   by_cases h2 : m < 10
   · rw [dif_pos h2]; simp
   · rw [dif_neg h2, List.length_append, List.length_singleton]
     have := ih (m / 10) (by rw [Nat.pow_succ] at h; omega)
     omega
theorem decB_size {n : Nat} (h : n ≤ 9223372036854775807) : (decB n).size ≤ 19 := by
 have := decDigits_len n 18 (by omega)
 simpa [decB, ByteArray.size] using this
theorem grow_below {w : World} {os : Array Obj} {k : Nat} : Below w.heap.size w (Sort.grow (w.drewN k) os) := by
 refine ⟨rfl, rfl, rfl, ?_, fun i hi => ?_⟩
 · show w.heap.size ≤ (w.heap ++ os).size
   simp
 · show (w.heap ++ os)[i]? = w.heap[i]?
   rw [Array.getElem?_append_left hi]
theorem FormatInt_c (n : Nat) (w : World) (hn : n ≤ 9223372036854775807) (htab : Lib.TabIs Tryz.prog w "internal/strconv.uint64pow10" .u64 Lib.pow10Tab) :
 Calls Tryz.prog 37 #[.int .i64 n, .int .i64 10] w fun e w' => e = .returned (.string (decB n)) ∧ Below w.heap.size w w' := by
 have C := FormatInt10_c (n : Int) (by omega) (by omega)
 have e1 : Lib.itoa (n : Int) = Lib.decDigits n := by simp [Lib.itoa]
 rw [e1] at C
 have HC := Lib.hid C
 clear C e1
 go_enter Tryz.func37, Tryz.ntmps37
 go_wp2_with fail
 refine (HC.out _ htab).mono ?_
 rintro e w1 ⟨rfl, k, os, rfl⟩
 go_wp2_with fail
 go_ret
 exact ⟨rfl, grow_below⟩
theorem impl_Decimal_c (n : Nat) (w : World) (hn : n ≤ 9223372036854775807) (htab : Lib.TabIs Tryz.prog w "internal/strconv.uint64pow10" .u64 Lib.pow10Tab) :
 Calls Tryz.prog 16 #[.int .i64 n] w fun e w' => e = .returned (.string (decB n)) ∧ Below w.heap.size w w' := by
 have HC := Lib.hid (FormatInt_c n w hn htab)
 go_enter Tryz.func16, Tryz.ntmps16
 go_wp2_with fail
 refine HC.out.mono ?_
 rintro e w1 ⟨rfl, b1⟩
 go_wp2_with fail
 go_ret
 exact ⟨rfl, b1⟩
def bytesT (e : TypeId) : Ty (List UInt8) := byte.slice e
theorem byte_rep {o : Bool} {w : World} {n : UInt8} {cs : List Value} {F : List Nat} : byte.rep o w n cs F ↔ cs = [.int .u8 n.toNat] ∧ F = [] :=
 ⟨fun ⟨h1, h2, _⟩ => ⟨h1, h2⟩, fun ⟨h1, h2⟩ => ⟨h1, h2, trivial⟩⟩
theorem repL_byte {o : Bool} {w : World} : ∀ (xs : List UInt8), repL byte o w xs (xs.map fun b => .int .u8 b.toNat) []
 | [] => ⟨rfl, rfl⟩
 | s :: r => ⟨[.int .u8 s.toNat], _, [], [], rfl, rfl, byte_rep.2 ⟨rfl, rfl⟩, repL_byte r⟩
theorem repL_byte_inv {o : Bool} {w : World} : ∀ {xs : List UInt8} {cs : List Value} {F : List Nat}, repL byte o w xs cs F → cs = xs.map (fun b => .int .u8 b.toNat) ∧ F = []
 | [], _, _, ⟨rfl, rfl⟩ => ⟨rfl, rfl⟩
 | s :: r, _, _, ⟨c1, c2, F1, F2, rfl, rfl, h1, h2⟩ => by
   obtain ⟨rfl, rfl⟩ := byte_rep.1 h1
   obtain ⟨rfl, rfl⟩ := repL_byte_inv h2
   exact ⟨rfl, rfl⟩
theorem bytes_at {o : Bool} {w : World} {e : TypeId} {xs : List UInt8} {v : Value} {F : List Nat} (h : (bytesT e).rep o w xs [v] F) : ∃ A c, v = .slice A xs.length c ∧ CellsAt w A (xs.map fun b => .int .u8 b.toNat) := by
 obtain ⟨A, c, ec, F0, F1, hv, _, _, _, hr, _, ha, _⟩ := h
 obtain ⟨rfl, rfl⟩ := repL_byte_inv hr
 refine ⟨A, c, by simpa using hv, fun hp => ?_⟩
 obtain ⟨b, off, h1, _, h3⟩ := ha (by simpa using hp)
 exact ⟨b, off, h1, h3⟩
theorem slice_form0 {o : Bool} {w : World} {e : TypeId} {v : Value} {F : List Nat} (h : (bytesT e).rep o w [] [v] F) : ∃ A c, v = .slice A 0 c := by
 obtain ⟨A, c, rfl⟩ := slice_len h
 exact ⟨A, c, rfl⟩
theorem infoU8 : (Tryz.prog.info? 5).map (fun i => (i.zero, i.size, i.bytes)) = some (some (.int .u8 0), byte.size, 1) := by kernel_rfl
theorem foldl_push (l : List UInt8) : ∀ (r : ByteArray), (l.map fun b => (b.toNat : Int)).foldl (fun r n => r.push (UInt8.ofNat n.toNat)) r = ⟨r.data ++ l.toArray⟩ := by
 induction l with
 | nil => intro r; simp
 | cons b l ih =>
   intro r
   simp only [List.map_cons, List.foldl_cons]
   rw [ih]
   simp [ByteArray.push]
theorem conv_bytes {o : Bool} {w : World} {e : TypeId} {xs : List UInt8} {v : Value} {F : List Nat} {src dst : TypeId} (h : (bytesT e).rep o w xs [v] F) (hs : Tryz.prog.underlying src = some (.slice e)) (he : Tryz.prog.underlying e = some (.int .u8)) (hd : Tryz.prog.underlying dst = some .string) (hp : 0 < xs.length) :
 (convert src dst v).run Tryz.prog w = .ok (.string ⟨xs.toArray⟩) w := by
 obtain ⟨A, c, rfl, hat⟩ := bytes_at h
 obtain ⟨b, off, rfl, hc⟩ := hat (by simpa using hp)
 rw [run_convert_bytes_string _ src dst e _ _ _ hs he hd]
 have hl := run_loadCells_list (P := Tryz.prog) (w := w) ⟨b, off, none⟩ ((xs.map fun b => (b.toNat : Int)).map (Value.int .u8)) (fun j v hv => by
  have hadd : (⟨b, off, none⟩ : Addr).add j = ⟨b, off + j, none⟩ := by unfold Addr.add; split <;> simp_all
  rw [hadd]
  refine hc j v ?_
  rw [List.map_map] at hv
  exact hv)
 have hlen : ((xs.map fun b => (b.toNat : Int)).map (Value.int .u8)).length = xs.length := by simp
 rw [hlen] at hl
 rw [run_bytesToString _ _ _ _ _ hl, foldl_push]
 simp
set_option maxRecDepth 100000 in
set_option maxHeartbeats 1000000 in
theorem spec_l01Dec_c (n : Nat) (w : World) (hn : n ≤ 9223372036854775807) :
 Calls Tryz.prog 28 #[.int .i64 n] w fun e w' => e = .returned (.string (decB n)) ∧ Below w.heap.size w w' := by
 go_enter Tryz.func28, Tryz.ntmps28
 go_wp2_with fail
 go_loopw [3, 4] (fun ov kv wr => ∃ (m f : Nat) (l : List UInt8) (u : Value) (G : List Nat), m ≤ n ∧ kv = .int .i64 m ∧ u = ov ∧ Hid (decP n = decP m ++ l) ∧ Hid (m < 10 ^ f) ∧ l.length + f ≤ 19 ∧ (bytesT 5).rep true wr l [u] G ∧ Fresh w.heap.size G ∧ Below w.heap.size w wr) (fun _ kv _ => (intOf kv).toNat)
 case atStart => exact ⟨n, 19, [], _, [w.heap.size], Nat.le_refl _, rfl, rfl, (by show _ = _; simp), (by show n < 10 ^ 19; omega), by simp, slice_of_row (xs := []) (Row.new w _ _) ⟨rfl, rfl⟩ (by simp [maxLen]), ⟨by simp, by simp⟩, (Below.refl _ _).alloc (Nat.le_refl _) _⟩
 case round =>
  obtain ⟨m, f, l, u, G, hm, rfl, rfl, hd, hlt, hlf, hrep, hfr, hb⟩ := hrel
  have hbs := hb.size
  by_cases hz : 0 < m
  · have gz : ((m : Int) != 0) = true := by rw [bne_iff_ne]; omega
    have e1 : (m : Int).tmod 10 = ((m % 10 : Nat) : Int) := by rw [Int.tmod_eq_emod_of_nonneg (by omega)]; omega
    have e2 : (m : Int).tdiv 10 = ((m / 10 : Nat) : Int) := by rw [Int.tdiv_eq_ediv_of_nonneg (by omega)]; omega
    obtain ⟨f', rfl⟩ : ∃ f', f = f' + 1 := by
     cases f with
     | zero => have := hlt.out; simp at this; omega
     | succ f' => exact ⟨f', rfl⟩
    obtain ⟨A, c, rfl, _⟩ := bytes_at hrep
    have HREP := Lib.hid hrep
    have ed : (48 + (m : Int) % 10) = ((UInt8.ofNat (48 + m % 10)).toNat : Int) := by
     rw [UInt8.toNat_ofNat', Nat.mod_eq_of_lt (by omega)]; omega
    have HD : (bytesT 5).rep true (wr.alloc (.cells #[.int .u8 (48 + (m : Int) % 10)] 5)) [UInt8.ofNat (48 + m % 10)] [.slice (some ⟨wr.heap.size, 0, none⟩) 1 1] [wr.heap.size] := by
     rw [ed]
     exact slice_of_row (xs := [UInt8.ofNat (48 + m % 10)]) (Row.new wr _ _) (repL_byte _) (by simp [maxLen])
    have hat : CellsAt (wr.alloc (.cells #[.int .u8 (48 + (m : Int) % 10)] 5)) A (l.map fun b => .int .u8 b.toNat) := by
     obtain ⟨A', c', hv, h2⟩ := bytes_at (hrep.alloc (.cells #[.int .u8 (48 + (m : Int) % 10)] 5))
     injection hv with h1
     subst h1
     exact h2
    have HA := Lib.hid hat
    have HDD := Lib.hid HD
    have hlt' := hlt.out
    have hdP := hd.out
    clear hrep hat HD ed
    go_wp2_with (at_builtin; refine wpList_append_repX (T := byte) (e := 5) (xs := [UInt8.ofNat (48 + m % 10)]) (ys := l) (ec := l.map fun b => .int .u8 b.toNat) rfl (.tmp 21) (.tmp 22) rfl Tryz.underlying111 infoU8 rfl (by decide) rfl HDD.out rfl (repL_byte _) HA.out trivial (by simp) (by simp only [List.length_singleton, maxLen]; omega) (by simp only [List.length_singleton]; omega) ?_; intro v2 w4 F2 r2 o2 q2 x2)
    go_roundw
    case rel =>
     refine ⟨m / 10, f', UInt8.ofNat (48 + m % 10) :: l, v2, F2, by omega, by go_num, rfl, ?_, ?_, by simp only [List.length_cons]; omega, r2, q2 _ ⟨by simp, by simpa using hbs⟩ (by simp; omega), (hb.alloc hbs _).trans (o2.below (by simp; omega) (by simpa using hbs))⟩
     · show decP n = _
       rw [hdP, decP_step hz]; simp
     · show m / 10 < 10 ^ f'
       rw [Nat.pow_succ] at hlt'; omega
    case measure => simp [intOf]; omega
  · obtain rfl : m = 0 := by omega
    have hd' := hd.out
    rw [show decP 0 = [] from rfl, List.nil_append] at hd'
    by_cases h0 : n = 0
    · subst h0
      have hl0 : l = [] := by rw [← hd']; rfl
      subst hl0
      obtain ⟨A, c, rfl⟩ := slice_form0 hrep
      clear hd'
      go_wp2_with fail
      go_ret
      exact ⟨by rw [decB, Lib.decDigits, dif_pos (by omega)]; rfl, hb⟩
    · have hl : l = Lib.decDigits n := by rw [← hd']; simp [decP, h0]
      have hpos : 0 < l.length := by
       rw [hl, Lib.decDigits]
       split <;> simp
      have hcv := conv_bytes hrep Tryz.underlying111 Tryz.underlying5 Tryz.underlying9 hpos
      obtain ⟨A, c, rfl⟩ := slice_len hrep
      have g1 : ((l.length : Int) == 0) = false := by rw [beq_eq_false_iff_ne]; omega
      have g2 : ¬ ((n : Int) < 0) := by omega
      have HL := Lib.hid hl
      clear hl hd' h0 hpos
      go_wp2_with fail
      go_ret
      exact ⟨by have e := HL.out; subst e; rfl, hb⟩
end Go.Proofs.YtboijogahclekaaGreatDoor
namespace Go.Proofs.YtboijogahclekaaGreatDoor
open Go Go.RowKit
def nums (e : TypeId) : Ty (List Int) := int64.slice e
theorem nums_open {o : Bool} {w : World} {e : TypeId} {xs : List Int} {v : Value} {F : List Nat} (h : (nums e).rep o w xs [v] F) :
 ∃ A c, v = .slice A xs.length c ∧ xs.length ≤ c ∧ c ≤ maxLen ∧ ∀ k (hk : k < xs.length), ∃ b off, A = some ⟨b, off, none⟩ ∧ b < w.heap.size ∧ b ∈ F ∧ w.cell? ⟨b, off + k, none⟩ = some (.int .i64 xs[k]) ∧ I64 xs[k] := by
 obtain ⟨A, c, hv, h1, h2, h3⟩ := slice_open h
 refine ⟨A, c, hv, h1, h2, fun k hk => ?_⟩
 obtain ⟨b, off, ck, Fk, hA, hb, hin, hr, _, hc⟩ := h3 k hk
 obtain ⟨rfl, rfl, i1⟩ := int64_rep.1 hr
 have h0 := hc 0 _ rfl
 rw [show k * int64.size + 0 = k from Nat.mul_one k] at h0
 exact ⟨b, off, hA, hb, hin, h0, i1⟩
theorem repL_nums {o : Bool} {w : World} : ∀ (xs : List Int), (∀ s ∈ xs, I64 s) → repL int64 o w xs (xs.map (.int .i64)) []
 | [], _ => ⟨rfl, rfl⟩
 | s :: r, h => ⟨[.int .i64 s], _, [], [], rfl, rfl, int64_rep.2 ⟨rfl, rfl, h s (by simp)⟩, repL_nums r (fun t ht => h t (by simp [ht]))⟩
end Go.Proofs.YtboijogahclekaaGreatDoor
namespace Go.Proofs.YtboijogahclekaaGreatDoor
open Go Go.RowKit
def joinK (xs : List Nat) : Nat → ByteArray
 | 0 => .empty
 | k + 1 => (if k = 0 then joinK xs k else joinK xs k ++ ⟨#[32]⟩) ++ decB (xs.getD k 0)
theorem joinK_size {xs : List Nat} (h : ∀ x ∈ xs, x ≤ 9223372036854775807) : ∀ k, (joinK xs k).size ≤ k * 20
 | 0 => by simp [joinK]
 | k + 1 => by
   have h1 := joinK_size h k
   have h2 : (decB (xs.getD k 0)).size ≤ 19 := decB_size (by
    rw [List.getD_eq_getElem?_getD]
    by_cases hk : k < xs.length
    · rw [List.getElem?_eq_getElem hk]; exact h _ (List.getElem_mem hk)
    · rw [List.getElem?_eq_none (by omega)]; simp)
   rw [joinK]
   generalize decB (xs.getD k 0) = d at h2
   have e1 : (ByteArray.mk #[32]).size = 1 := rfl
   split <;> simp only [ByteArray.size_append] <;> omega
set_option maxRecDepth 100000 in
set_option maxHeartbeats 1000000 in
theorem spec_l03Join_c {o : Bool} {e : TypeId} {xs : List Nat} {v : Value} {F : List Nat} (w : World) (h : (nums e).rep o w (xs.map fun x : Nat => (x : Int)) [v] F) (hx : xs.length ≤ 1000) (hs : ∀ x ∈ xs, x ≤ 9223372036854775807) :
 Calls Tryz.prog 12 #[v, .string ⟨#[32]⟩] w fun en w' => en = .returned (.string (joinK xs xs.length)) ∧ Below w.heap.size w w' := by
 obtain ⟨A, c, hv, hc1, hc2, hr⟩ := nums_open h
 rw [List.length_map] at hv hc1
 subst hv
 clear h
 go_enter Tryz.func12, Tryz.ntmps12
 go_wp2_with fail
 go_loopw [5, 6] (fun ov i wr => ∃ k : Nat, k ≤ xs.length ∧ i = .int .i64 k ∧ ov = .string (joinK xs k) ∧ Below w.heap.size w wr) (fun _ i _ => xs.length - (intOf i).toNat)
 case atStart => exact ⟨0, Nat.zero_le _, rfl, rfl, Below.refl _ _⟩
 case round =>
  obtain ⟨k, hk, rfl, rfl, hb⟩ := hrel
  have hbs := hb.size
  by_cases hlt : k < xs.length
  · obtain ⟨b, off, rfl, hbb, _, h0, _⟩ := hr k (by simpa using hlt)
    rw [← hb.cell (p := ⟨b, _, none⟩) hbb] at h0
    rw [List.getElem_map] at h0
    have C := Lib.hid (spec_l01Dec_c xs[k] wr (hs _ (List.getElem_mem hlt)))
    have hg : xs.getD k 0 = xs[k] := by simp [List.getD_eq_getElem?_getD, List.getElem?_eq_getElem hlt]
    have hsz := joinK_size hs k
    have hdz : (decB xs[k]).size ≤ 19 := decB_size (hs _ (List.getElem_mem hlt))
    by_cases hz : k = 0
    · have hstep : joinK xs (k + 1) = joinK xs k ++ decB xs[k] := by rw [joinK, if_pos hz, hg]
      have g0 : (0 < k) = False := eq_false (by omega)
      have HS := Lib.hid hstep
      clear hr hz hstep hg hs
      go_wp2_with fail
      refine C.out.mono ?_
      rintro en w1 ⟨rfl, b1⟩
      go_wp2_with fail
      go_roundw
      case rel => exact ⟨k + 1, by omega, by go_num, by rw [HS.out], hb.trans (b1.mono hbs)⟩
      case measure => simp [intOf]; omega
    · have hstep : joinK xs (k + 1) = (joinK xs k ++ ⟨#[32]⟩) ++ decB xs[k] := by rw [joinK, if_neg hz, hg]
      have g0 : (0 < k) = True := eq_true (by omega)
      have HS := Lib.hid hstep
      clear hr hz hstep hg hs
      go_wp2_with fail
      refine C.out.mono ?_
      rintro en w1 ⟨rfl, b1⟩
      go_wp2_with fail
      go_roundw
      case rel => exact ⟨k + 1, by omega, by go_num, by rw [HS.out], hb.trans (b1.mono hbs)⟩
      case measure => simp [intOf]; omega
  · obtain rfl : k = xs.length := by omega
    go_wp2_with fail
    go_ret
    exact ⟨rfl, hb⟩
end Go.Proofs.YtboijogahclekaaGreatDoor
namespace Go.Proofs.YtboijogahclekaaGreatDoor
open Go Go.RowKit
def Tab (w : World) : Prop := Lib.TabIs Tryz.prog w "internal/strconv.uint64pow10" .u64 Lib.pow10Tab
theorem Tab.below {w w' : World} (h : Tab w) (hb : Below w.heap.size w w') : Tab w' := by
 unfold Tab Lib.TabIs World.var? at h ⊢
 cases hg : Tryz.prog.globalNamed "internal/strconv.uint64pow10" with
 | none => rw [hg] at h; cases h
 | some g =>
   rw [hg] at h
   simp only [Option.bind_some] at h ⊢
   have hlt : g < w.heap.size := by
    rcases Nat.lt_or_ge g w.heap.size with h' | h'
    · exact h'
    · rw [Array.getElem?_eq_none h'] at h; cases h
   rw [hb.block g hlt]
   exact h
end Go.Proofs.YtboijogahclekaaGreatDoor
namespace Go.Proofs.YtboijogahclekaaGreatDoor
open Go Go.Shelf Go.RowKit
def Tryz.lays156_ren : Go.Shelf.Ren := ⟨fun | 156 => 17 | 165 => 38 | 166 => 39 | 169 => 40 | 240 => 85 | 241 => 86 | 276 => 126 | 277 => 127 | n => n, fun | 31 => 39 | 9 => 9 | 3 => 3 | 4 => 4 | 0 => 0 | 20 => 20 | 72 => 113 | 76 => 117 | 70 => 110 | 37 => 111 | 75 => 116 | 127 => 172 | 164 => 218 | 5 => 5 | 80 => 119 | n => n, fun | n => n⟩
theorem Tryz.lays156 : Go.Proofs.Lays.n156 Tryz.prog Tryz.lays156_ren := {
 mixed := by kernel_rfl
 f156 := Tryz.func17.trans (congrArg some (by kernel_rfl))
 f165 := Tryz.func38.trans (congrArg some (by kernel_rfl))
 f166 := Tryz.func39.trans (congrArg some (by kernel_rfl))
 f169 := Tryz.func40.trans (congrArg some (by kernel_rfl))
 f240 := Tryz.func85.trans (congrArg some (by kernel_rfl))
 f241 := Tryz.func86.trans (congrArg some (by kernel_rfl))
 f276 := Tryz.func126.trans (congrArg some (by kernel_rfl))
 f277 := Tryz.func127.trans (congrArg some (by kernel_rfl))
 t0 := Tryz.underlying0
 a0 := Tryz.isAgg0
 z0 := Tryz.sizeOf0
 v0 := Tryz.zeroValue0
 t3 := Tryz.underlying3
 a3 := Tryz.isAgg3
 z3 := Tryz.sizeOf3
 v3 := Tryz.zeroValue3
 t4 := Tryz.underlying4
 a4 := Tryz.isAgg4
 z4 := Tryz.sizeOf4
 v4 := Tryz.zeroValue4
 t9 := Tryz.underlying9
 a9 := Tryz.isAgg9
 z9 := Tryz.sizeOf9
 v9 := Tryz.zeroValue9
 t20 := Tryz.underlying20
 a20 := Tryz.isAgg20
 z20 := Tryz.sizeOf20
 v20 := Tryz.zeroValue20
 t31 := Tryz.underlying39
 a31 := Tryz.isAgg39
 z31 := Tryz.sizeOf39
 v31 := Tryz.zeroValue39
 t37 := Tryz.underlying111
 a37 := Tryz.isAgg111
 z37 := Tryz.sizeOf111
 v37 := Tryz.zeroValue111
 t70 := Tryz.underlying110
 a70 := Tryz.isAgg110
 z70 := Tryz.sizeOf110
 v70 := Tryz.zeroValue110
 t72 := Tryz.underlying113
 a72 := Tryz.isAgg113
 z72 := Tryz.sizeOf113
 v72 := Tryz.zeroValue113
 t75 := Tryz.underlying116
 a75 := Tryz.isAgg116
 z75 := Tryz.sizeOf116
 v75 := Tryz.zeroValue116
 t76 := Tryz.underlying117
 a76 := Tryz.isAgg117
 z76 := Tryz.sizeOf117
 v76 := Tryz.zeroValue117
 t127 := Tryz.underlying172
 a127 := Tryz.isAgg172
 z127 := Tryz.sizeOf172
 v127 := Tryz.zeroValue172
 t164 := Tryz.underlying218
 a164 := Tryz.isAgg218
 z164 := Tryz.sizeOf218
 v164 := Tryz.zeroValue218 }
theorem Tryz.Builder_Extra_156 : Builder.Extra Tryz.prog Tryz.lays156_ren := {
 sizeBuilder := by kernel_rfl
 liesBuilder := by kernel_rfl
 t5 := Tryz.underlying5
 a5 := Tryz.isAgg5
 z5 := Tryz.sizeOf5
 v5 := Tryz.zeroValue5
 infoByte := by kernel_rfl
 cellsByte := by kernel_rfl
 sizeByte := by kernel_rfl
 neB5 := by decide }
theorem Join_c (bk o c : Nat) (xs : List ByteArray) (sep : ByteArray) (w : World) (hcells : ∀ (j : Nat) x, xs[j]? = some x → w.cell? ⟨bk, o + j, none⟩ = some (.string x)) (hbk : bk < w.heap.size) (hN : xs.length ≤ 140737488355328) (hcap : xs.length ≤ c) (hlen : (Lib.join (xs.map (·.data.toList)) sep.data.toList).length ≤ 140737488355328) :
 Calls Tryz.prog 17 #[.slice (some ⟨bk, o, none⟩) xs.length c, .string sep] w fun e w' => e = .returned (.string ⟨(Lib.join (xs.map (·.data.toList)) sep.data.toList).toArray⟩) ∧ Below w.heap.size w w' := Any.strings_Join Tryz.lays156 Tryz.Builder_Extra_156 bk o c xs sep w hcells hbk hN hcap hlen
end Go.Proofs.YtboijogahclekaaGreatDoor
