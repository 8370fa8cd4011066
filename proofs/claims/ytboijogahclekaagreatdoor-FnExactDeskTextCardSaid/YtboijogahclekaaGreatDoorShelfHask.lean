/- The shelf's contract for strings.Contains at one byte, at this program: what it says is proved in the library for any program. Conditions: none. -/
import Derived.Shelf.Strings.Search1
import Derived.Shelf.Strings.Search2
import Derived.Shelf.Strings.Search3
import Derived.Test.YtboijogahclekaaGreatDoorLibk
import Derived.Test.YtboijogahclekaaGreatDoorProg
import Derived.Test.YtboijogahclekaaGreatDoorRows
import Derived.Test.YtboijogahclekaaGreatDoorTyStrokek
import Derived.Test.YtboijogahclekaaGreatDoorConfk
import Derived.Test.YtboijogahclekaaGreatDoorInkCk
import Derived.Test.YtboijogahclekaaGreatDoorInkFk
import Derived.Test.YtboijogahclekaaGreatDoorPgMathk
namespace Go.Proofs.YtboijogahclekaaGreatDoor
open Go Go.Shelf Go.RowKit
def lays144_ren : Go.Shelf.Ren := ⟨fun | 144 => 184 | 143 => 190 | 219 => 196 | 217 => 198 | 225 => 199 | 224 => 200 | 267 => 201 | 266 => 202 | 314 => 203 | n => n, fun | 9 => 9 | 4 => 4 | 3 => 3 | 5 => 5 | 46 => 265 | 146 => 295 | 51 => 262 | n => n, fun | 1 => 1 | n => n⟩
theorem lays144 : Go.Proofs.Lays.n144 Tryz.prog lays144_ren := {
 mixed := by kernel_rfl
 f143 := Tryz.func190.trans (congrArg some (by kernel_rfl))
 f144 := Tryz.func184.trans (congrArg some (by kernel_rfl))
 f217 := Tryz.func198.trans (congrArg some (by kernel_rfl))
 f219 := Tryz.func196.trans (congrArg some (by kernel_rfl))
 f224 := Tryz.func200.trans (congrArg some (by kernel_rfl))
 f225 := Tryz.func199.trans (congrArg some (by kernel_rfl))
 f266 := Tryz.func202.trans (congrArg some (by kernel_rfl))
 f267 := Tryz.func201.trans (congrArg some (by kernel_rfl))
 f314 := Tryz.func203.trans (congrArg some (by kernel_rfl))
 t3 := Tryz.underlying3
 a3 := Tryz.isAgg3
 z3 := Tryz.sizeOf3
 v3 := Tryz.zeroValue3
 t4 := Tryz.underlying4
 a4 := Tryz.isAgg4
 z4 := Tryz.sizeOf4
 v4 := Tryz.zeroValue4
 t5 := Tryz.underlying5
 a5 := Tryz.isAgg5
 z5 := Tryz.sizeOf5
 v5 := Tryz.zeroValue5
 t9 := Tryz.underlying9
 a9 := Tryz.isAgg9
 z9 := Tryz.sizeOf9
 v9 := Tryz.zeroValue9
 t46 := Tryz.underlying265
 a46 := Tryz.isAgg265
 z46 := Tryz.sizeOf265
 v46 := Tryz.zeroValue265
 t51 := Tryz.underlying262
 a51 := Tryz.isAgg262
 z51 := Tryz.sizeOf262
 v51 := Tryz.zeroValue262
 t146 := Tryz.underlying295
 a146 := Tryz.isAgg295
 z146 := Tryz.sizeOf295
 v146 := Tryz.zeroValue295
 g1 := by kernel_rfl }
open Go.RowKit Go.Lib in
theorem strings_Contains_one (s : ByteArray) (c : UInt8) (w : World) :
 Calls Tryz.prog 184 #[.string s, .string ⟨#[c]⟩] w fun e w' => e = .returned (.bool (decide (0 ≤ Lib.indexByte s.data.toList c))) ∧ w' = w := Any.strings_Contains_one lays144 s c w
end Go.Proofs.YtboijogahclekaaGreatDoor
namespace Go.Proofs.YtboijogahclekaaGreatDoor
open Go Go.RowKit
theorem ret_boolL {a b : Bool} (h : a = b) : Ending.returned (.bool a) = .returned (.bool b) := by rw [h]
def labelC (n : Int) : Bool := (decide (97 ≤ n) && decide (n ≤ 122)) || ((decide (48 ≤ n) && decide (n ≤ 57)) || decide (n = 43 ∨ n = 45 ∨ n = 42 ∨ n = 47 ∨ n = 61 ∨ n = 40 ∨ n = 41 ∨ n = 46 ∨ n = 44))
set_option maxHeartbeats 400000 in
theorem impl_isLetter_i (n : Int) (w : World) :
 Calls Tryz.prog 118 #[.int .u8 n] w fun e w' => e = .returned (.bool (decide (97 ≤ n) && decide (n ≤ 122))) ∧ w' = w := by
 by_cases h : 97 ≤ n
 · have g : decide (97 ≤ n) = true := by simpa using h
   go_enter Tryz.func118, Tryz.ntmps118
   go_wp2_with fail
   all_goals go_ret
   all_goals exact ⟨ret_boolL (by simp [*]), rfl⟩
 · have g : decide (97 ≤ n) = false := by simpa using h
   go_enter Tryz.func118, Tryz.ntmps118
   go_wp2_with fail
   all_goals go_ret
   all_goals exact ⟨ret_boolL (by simp [*]), rfl⟩
set_option maxHeartbeats 400000 in
theorem spec_l01Small_i (n : Int) (w : World) :
 Calls Tryz.prog 138 #[.int .u8 n] w fun e w' => e = .returned (.bool (decide (97 ≤ n) && decide (n ≤ 122))) ∧ w' = w := by
 by_cases h : 97 ≤ n
 · have g : decide (97 ≤ n) = true := by simpa using h
   go_enter Tryz.func138, Tryz.ntmps138
   go_wp2_with fail
   all_goals go_ret
   all_goals exact ⟨ret_boolL (by simp [*]), rfl⟩
 · have g : decide (97 ≤ n) = false := by simpa using h
   go_enter Tryz.func138, Tryz.ntmps138
   go_wp2_with fail
   all_goals go_ret
   all_goals exact ⟨ret_boolL (by simp [*]), rfl⟩
set_option maxHeartbeats 1000000 in
theorem spec_l11Label_c (n : Int) (w : World) :
 Calls Tryz.prog 181 #[.int .u8 n] w fun e w' => e = .returned (.bool (labelC n)) ∧ w' = w := by
 by_cases hs : n = 43 ∨ n = 45 ∨ n = 42 ∨ n = 47 ∨ n = 61 ∨ n = 40 ∨ n = 41 ∨ n = 46 ∨ n = 44
 · have hl : labelC n = true := by simp [labelC, hs]
   rw [hl]
   clear hl
   rcases hs with rfl | rfl | rfl | rfl | rfl | rfl | rfl | rfl | rfl
   all_goals
    go_enter Tryz.func181, Tryz.ntmps181
    go_wp2_with fail
    go_ret
    exact ⟨rfl, rfl⟩
 · have hl : labelC n = ((decide (97 ≤ n) && decide (n ≤ 122)) || (decide (48 ≤ n) && decide (n ≤ 57))) := by simp [labelC, hs]
   rw [hl]
   clear hl
   have C := spec_l01Small_i n
   generalize (decide (97 ≤ n) && decide (n ≤ 122)) = d at C ⊢
   have HC := Lib.hid C
   clear C
   have g1 : (n == 43) = false := by simp; omega
   have g2 : (n == 45) = false := by simp; omega
   have g3 : (n == 42) = false := by simp; omega
   have g4 : (n == 47) = false := by simp; omega
   have g5 : (n == 61) = false := by simp; omega
   have g6 : (n == 40) = false := by simp; omega
   have g7 : (n == 41) = false := by simp; omega
   have g8 : (n == 46) = false := by simp; omega
   have g9 : (n == 44) = false := by simp; omega
   clear hs
   cases d
   · by_cases h : 48 ≤ n
     · have g : decide (48 ≤ n) = true := by simpa using h
       go_enter Tryz.func181, Tryz.ntmps181
       go_wp2_with (go_at_call 138; refine (HC.out _).mono ?_; rintro e w1 ⟨rfl, rfl⟩)
       all_goals go_ret
       all_goals exact ⟨ret_boolL (by simp [*]), rfl⟩
     · have g : decide (48 ≤ n) = false := by simpa using h
       go_enter Tryz.func181, Tryz.ntmps181
       go_wp2_with (go_at_call 138; refine (HC.out _).mono ?_; rintro e w1 ⟨rfl, rfl⟩)
       all_goals go_ret
       all_goals exact ⟨ret_boolL (by simp [*]), rfl⟩
   · go_enter Tryz.func181, Tryz.ntmps181
     go_wp2_with (go_at_call 138; refine (HC.out _).mono ?_; rintro e w1 ⟨rfl, rfl⟩)
     all_goals go_ret
     all_goals exact ⟨rfl, rfl⟩
def labelB (s : ByteArray) : Bool := decide (s.size = 1) && labelC ((s.data[0]?.getD 0).toNat : Int)
theorem one_byte {s : ByteArray} (h : s.size = 1) : ∃ c, s = ⟨#[c]⟩ := by
 obtain ⟨⟨l⟩⟩ := s
 simp only [ByteArray.size] at h
 match l, h with
 | [c], _ => exact ⟨c, rfl⟩
theorem has_label : ∀ c : UInt8, ((decide (97 ≤ (c.toNat : Int)) && decide ((c.toNat : Int) ≤ 122)) || decide (0 ≤ Lib.indexByte [48, 49, 50, 51, 52, 53, 54, 55, 56, 57, 43, 45, 42, 47, 61, 40, 41, 46, 44] c)) = labelC (c.toNat : Int) := by
 have h : ∀ n : Fin 256, ((decide (97 ≤ ((UInt8.ofNat n.val).toNat : Int)) && decide (((UInt8.ofNat n.val).toNat : Int) ≤ 122)) || decide (0 ≤ Lib.indexByte [48, 49, 50, 51, 52, 53, 54, 55, 56, 57, 43, 45, 42, 47, 61, 40, 41, 46, 44] (UInt8.ofNat n.val))) = labelC ((UInt8.ofNat n.val).toNat : Int) := by decide +kernel
 intro c
 have := h ⟨c.toNat, UInt8.toNat_lt c⟩
 simpa using this
set_option maxHeartbeats 400000 in
theorem spec_IsLabel_c (s : ByteArray) (w : World) (hs : s.size ≤ 1048576) :
 Calls Tryz.prog 165 #[.string s] w fun e w' => e = .returned (.bool (labelB s)) ∧ w' = w := by
 by_cases h : s.size = 1
 · obtain ⟨c, rfl⟩ := one_byte h
   have hl : labelB ⟨#[c]⟩ = labelC (c.toNat : Int) := by simp [labelB, ByteArray.size]
   rw [hl]
   have HC := Lib.hid (spec_l11Label_c (c.toNat : Int))
   clear hl
   go_enter Tryz.func165, Tryz.ntmps165
   go_wp2_with fail
   refine (HC.out _).mono ?_
   rintro e w1 ⟨rfl, rfl⟩
   go_wp2_with fail
   go_ret
   exact ⟨rfl, rfl⟩
 · have hl : labelB s = false := by simp [labelB, h]
   rw [hl]
   have g : ((s.size : Int) == 1) = false := by rw [beq_eq_false_iff_ne]; omega
   clear hl h
   go_enter Tryz.func165, Tryz.ntmps165
   go_wp2_with fail
   go_ret
   exact ⟨rfl, rfl⟩
set_option maxHeartbeats 400000 in
theorem impl_IsLabel_c (s : ByteArray) (w : World) (hs : s.size ≤ 1048576) :
 Calls Tryz.prog 170 #[.string s] w fun e w' => e = .returned (.bool (labelB s)) ∧ w' = w := by
 by_cases h : s.size = 1
 · obtain ⟨c, rfl⟩ := one_byte h
   have hl : labelB ⟨#[c]⟩ = labelC (c.toNat : Int) := by simp [labelB, ByteArray.size]
   have hh := has_label c
   rw [hl, ← hh]
   have C1 := impl_isLetter_i (c.toNat : Int)
   have C2 := strings_Contains_one ⟨#[48, 49, 50, 51, 52, 53, 54, 55, 56, 57, 43, 45, 42, 47, 61, 40, 41, 46, 44]⟩ c
   generalize (decide (97 ≤ (c.toNat : Int)) && decide ((c.toNat : Int) ≤ 122)) = d at C1 ⊢
   generalize decide (0 ≤ Lib.indexByte [48, 49, 50, 51, 52, 53, 54, 55, 56, 57, 43, 45, 42, 47, 61, 40, 41, 46, 44] c) = b at C2 ⊢
   have H1 := Lib.hid C1
   have H2 := Lib.hid C2
   clear hl hh C1 C2
   cases d
   all_goals
    go_enter Tryz.func170, Tryz.ntmps170
    go_wp2_with (first | (go_at_call 118; refine (H1.out _).mono ?_; rintro e w1 ⟨rfl, rfl⟩) | (go_at_call 184; refine (H2.out _).mono ?_; rintro e w1 ⟨rfl, rfl⟩))
    go_ret
    exact ⟨rfl, rfl⟩
 · have hl : labelB s = false := by simp [labelB, h]
   rw [hl]
   have g : ((s.size : Int) == 1) = false := by rw [beq_eq_false_iff_ne]; omega
   clear hl h
   go_enter Tryz.func170, Tryz.ntmps170
   go_wp2_with fail
   go_ret
   exact ⟨rfl, rfl⟩
end Go.Proofs.YtboijogahclekaaGreatDoor
namespace Go.Proofs.YtboijogahclekaaGreatDoor
open Go Go.RowKit
def featB (f : PFeat) : Bool := inR f.x 0 255 && (inR f.y 0 255 && inR f.d 0 7)
def featsB (fs : List PFeat) : Bool := fs.all featB && (decide (1 ≤ fs.length) && decide (fs.length ≤ 72))
def tempB (t : PTemp) : Bool := labelB t.label && featsB t.feats
def storeB (p : PSetup) : Bool := p.temps.all tempB && (inR p.band 0 72 && decide (p.temps.length ≤ 40))
def settingB (p : PSetting) : Bool := inR p.points 2 24 && (inR p.most 1 8 && inR p.pen 0 1000)
def costB (n : Int) : Bool := inR n 0 1000000
def entAt (xs : List PEntry) (k : Nat) : PEntry := xs.getD k ⟨.empty, 0⟩
def entOk (xs : List PEntry) (k : Nat) : Bool := isWordB (entAt xs k).word && (costB (entAt xs k).cost && (decide (k = 0) || bLess (entAt xs (k - 1)).word (entAt xs k).word))
def entsOk (xs : List PEntry) : Nat → Bool
 | 0 => true
 | k + 1 => entsOk xs k && entOk xs k
def lexB (xs : List PEntry) : Bool := entsOk xs xs.length && decide (xs.length ≤ 60)
def bigKey (b : PBigram) : CKey := (b.first, b.second)
def bigB (b : PBigram) : Bool := isWordB b.second && ((decide (b.first = .empty) || isWordB b.first) && costB b.cost)
def bigAt (xs : List PBigram) (k : Nat) : PBigram := xs.getD k ⟨.empty, .empty, 0⟩
def bigOk (xs : List PBigram) (k : Nat) : Bool := bigB (bigAt xs k) && (decide (k = 0) || cLess (bigKey (bigAt xs (k - 1))) (bigKey (bigAt xs k)))
def bigsOk (xs : List PBigram) : Nat → Bool
 | 0 => true
 | k + 1 => bigsOk xs k && bigOk xs k
def modelB (n : Int) (xs : List PBigram) : Bool := bigsOk xs xs.length && (costB n && decide (xs.length ≤ 60))
def setupB (p : PSetup) : Bool := storeB p && (settingB ⟨p.points, p.most, p.pen⟩ && (lexB p.entries && (modelB p.dflt p.bigrams && inR p.pause 1 60000)))
theorem entAt_get {xs : List PEntry} {k : Nat} (h : k < xs.length) : entAt xs k = xs[k] := by simp [entAt, List.getD_eq_getElem?_getD, List.getElem?_eq_getElem h]
theorem bigAt_get {xs : List PBigram} {k : Nat} (h : k < xs.length) : bigAt xs k = xs[k] := by simp [bigAt, List.getD_eq_getElem?_getD, List.getElem?_eq_getElem h]
theorem upto_false {f : Nat → Bool} {g : Nat → Bool} (hg : ∀ k, g (k + 1) = (g k && f k)) {k : Nat} (h : f k = false) : ∀ n, k < n → g n = false
 | 0, hk => by omega
 | n + 1, hk => by
   by_cases e : k = n
   · subst e; simp [hg, h]
   · rw [hg, upto_false hg h n (by omega)]; rfl
theorem entsOk_false {xs : List PEntry} {k n : Nat} (h : entOk xs k = false) (hk : k < n) : entsOk xs n = false := upto_false (f := entOk xs) (g := entsOk xs) (fun _ => rfl) h n hk
theorem bigsOk_false {xs : List PBigram} {k n : Nat} (h : bigOk xs k = false) (hk : k < n) : bigsOk xs n = false := upto_false (f := bigOk xs) (g := bigsOk xs) (fun _ => rfl) h n hk
def inkEndI (xs : List PStroke) : Int := if xs.length = 0 then -1 else (pt (xs.getD (xs.length - 1) []) ((xs.getD (xs.length - 1) []).length - 1)).t
def openB (q : PSess) : Bool := decide (q.opn.length = 0) || (strokeB q.opn && (decide (inkEndI q.strokes < (pt q.opn 0).t) && decide ((pt q.opn (q.opn.length - 1)).t ≤ q.time)))
def sessB (q : PSess) : Bool := setupB q.setup && (inkB q.strokes && (inR q.time 0 3600000 && (decide (inkEndI q.strokes ≤ q.time) && (openB q && (q.words.all isWordB && decide (q.words.length ≤ 60))))))
end Go.Proofs.YtboijogahclekaaGreatDoor
