/- Labels and boxes: which are valid, in the program and in the reference. Conditions: none. -/
import Derived.Test.YtkfadfddhbpngaaGreatLibv
import Derived.Test.YtkfadfddhbpngaaGreatRows
import Derived.Test.YtkfadfddhbpngaaGreatConfv
import Derived.Test.YtkfadfddhbpngaaGreatTyInkv
import Derived.Test.YtkfadfddhbpngaaGreatStrSv
import Derived.Test.YtkfadfddhbpngaaGreatTkv
import Derived.Test.YtkfadfddhbpngaaGreatSlOpsv
import Derived.Test.YtkfadfddhbpngaaGreatTyPointv
import Derived.Test.YtkfadfddhbpngaaGreatAppendv
import Derived.Test.YtkfadfddhbpngaaGreatPgMathv
import Derived.Laws.StructEq
import Derived.Deep.RegionHeld3
namespace Go.Proofs.YtkfadfddhbpngaaGreat
open Go Go.RowKit

theorem ret_boolL {a b : Bool} (h : a = b) : Ending.returned (.bool a) = .returned (.bool b) := by rw [h]
/-- A byte that a label may have. -/
def labelC (n : Int) : Bool := (decide (97 ≤ n) && decide (n ≤ 122)) || ((decide (48 ≤ n) && decide (n ≤ 57)) || decide (n = 43 ∨ n = 45 ∨ n = 42 ∨ n = 47 ∨ n = 61 ∨ n = 40 ∨ n = 41 ∨ n = 46 ∨ n = 44))
set_option maxHeartbeats 400000 in
theorem impl_isLetter_i (n : Int) (w : World) :
 Calls Tryz.prog 203 #[.int .u8 n] w fun e w' => e = .returned (.bool (decide (97 ≤ n) && decide (n ≤ 122))) ∧ w' = w := by
 by_cases h : 97 ≤ n
 · have g : decide (97 ≤ n) = true := by simpa using h
   go_enter Tryz.func203, Tryz.ntmps203
   go_wp2_with fail
   all_goals go_ret
   all_goals exact ⟨ret_boolL (by simp [*]), rfl⟩
 · have g : decide (97 ≤ n) = false := by simpa using h
   go_enter Tryz.func203, Tryz.ntmps203
   go_wp2_with fail
   all_goals go_ret
   all_goals exact ⟨ret_boolL (by simp [*]), rfl⟩
/-- Is a text a label? -/
def labelB (s : ByteArray) : Bool := decide (s.size = 1) && labelC ((s.data[0]?.getD 0).toNat : Int)
theorem one_byte {s : ByteArray} (h : s.size = 1) : ∃ c, s = ⟨#[c]⟩ := by
 obtain ⟨⟨l⟩⟩ := s
 simp only [ByteArray.size] at h
 match l, h with
 | [c], _ => exact ⟨c, rfl⟩
theorem has_label : ∀ c : UInt8, ((decide (97 ≤ (c.toNat : Int)) && decide ((c.toNat : Int) ≤ 122)) || decide (0 ≤ Lib.indexByte [48, 49, 50, 51, 52, 53, 54, 55, 56, 57, 43, 45, 42, 47, 61, 40, 41, 46, 44] c)) = labelC (c.toNat : Int) := by
 have h : ∀ n : Fin 256, ((decide (97 ≤ ((UInt8.ofNat n.val).toNat : Int)) && decide (((UInt8.ofNat n.val).toNat : Int) ≤ 122)) || decide (0 ≤ Lib.indexByte [48, 49, 50, 51, 52, 53, 54, 55, 56, 57, 43, 45, 42, 47, 61, 40, 41, 46, 44] (UInt8.ofNat n.val))) = labelC ((UInt8.ofNat n.val).toNat : Int) := by decide +kernel
 intro c
 have := h ⟨c.toNat, UInt8.toNat_lt c⟩
 simpa using this
set_option maxHeartbeats 400000 in
theorem impl_IsLabel_c (s : ByteArray) (w : World) (hs : s.size ≤ 1048576) :
 Calls Tryz.prog 216 #[.string s] w fun e w' => e = .returned (.bool (labelB s)) ∧ w' = w := by
 by_cases h : s.size = 1
 · obtain ⟨c, rfl⟩ := one_byte h
   have hl : labelB ⟨#[c]⟩ = labelC (c.toNat : Int) := by simp [labelB, ByteArray.size]
   have hh := has_label c
   rw [hl, ← hh]
   have C1 := impl_isLetter_i (c.toNat : Int)
   have C2 := strings_Contains_one ⟨#[48, 49, 50, 51, 52, 53, 54, 55, 56, 57, 43, 45, 42, 47, 61, 40, 41, 46, 44]⟩ c
   generalize (decide (97 ≤ (c.toNat : Int)) && decide ((c.toNat : Int) ≤ 122)) = d at C1 ⊢
   generalize decide (0 ≤ Lib.indexByte [48, 49, 50, 51, 52, 53, 54, 55, 56, 57, 43, 45, 42, 47, 61, 40, 41, 46, 44] c) = b at C2 ⊢
   have H1 := Lib.hid C1
   have H2 := Lib.hid C2
   clear hl hh C1 C2
   cases d
   all_goals
    go_enter Tryz.func216, Tryz.ntmps216
    go_wp2_with (first | (go_at_call 203; refine (H1.out _).mono ?_; rintro e w1 ⟨rfl, rfl⟩) | (go_at_call 237; refine (H2.out _).mono ?_; rintro e w1 ⟨rfl, rfl⟩))
    go_ret
    exact ⟨rfl, rfl⟩
 · have hl : labelB s = false := by simp [labelB, h]
   rw [hl]
   have g : ((s.size : Int) == 1) = false := by rw [beq_eq_false_iff_ne]; omega
   clear hl h
   go_enter Tryz.func216, Tryz.ntmps216
   go_wp2_with fail
   go_ret
   exact ⟨rfl, rfl⟩
end Go.Proofs.YtkfadfddhbpngaaGreat
namespace Go.Proofs.YtkfadfddhbpngaaGreat
open Go Go.RowKit

def featB (f : PFeat) : Bool := inR f.x 0 255 && (inR f.y 0 255 && inR f.d 0 7)
def featsB (fs : List PFeat) : Bool := fs.all featB && (decide (1 ≤ fs.length) && decide (fs.length ≤ 72))
def tempB (t : PTemp) : Bool := labelB t.label && featsB t.feats
def storeB (p : PSetup) : Bool := p.temps.all tempB && (inR p.band 0 72 && decide (p.temps.length ≤ 40))
def settingB (p : PSetting) : Bool := inR p.points 2 24 && (inR p.most 1 8 && inR p.pen 0 1000)
def costB (n : Int) : Bool := inR n 0 1000000
def entAt (xs : List PEntry) (k : Nat) : PEntry := xs.getD k ⟨.empty, 0⟩
def entOk (xs : List PEntry) (k : Nat) : Bool := isWordB (entAt xs k).word && (costB (entAt xs k).cost && (decide (k = 0) || bLess (entAt xs (k - 1)).word (entAt xs k).word))
def entsOk (xs : List PEntry) : Nat → Bool
 | 0 => true
 | k + 1 => entsOk xs k && entOk xs k
def lexB (xs : List PEntry) : Bool := entsOk xs xs.length && decide (xs.length ≤ 60)
def bigKey (b : PBigram) : CKey := (b.first, b.second)
def bigB (b : PBigram) : Bool := isWordB b.second && ((decide (b.first = .empty) || isWordB b.first) && costB b.cost)
def bigAt (xs : List PBigram) (k : Nat) : PBigram := xs.getD k ⟨.empty, .empty, 0⟩
def bigOk (xs : List PBigram) (k : Nat) : Bool := bigB (bigAt xs k) && (decide (k = 0) || cLess (bigKey (bigAt xs (k - 1))) (bigKey (bigAt xs k)))
def bigsOk (xs : List PBigram) : Nat → Bool
 | 0 => true
 | k + 1 => bigsOk xs k && bigOk xs k
def modelB (n : Int) (xs : List PBigram) : Bool := bigsOk xs xs.length && (costB n && decide (xs.length ≤ 60))
def setupB (p : PSetup) : Bool := storeB p && (settingB ⟨p.points, p.most, p.pen⟩ && (lexB p.entries && (modelB p.dflt p.bigrams && inR p.pause 1 60000)))
theorem entAt_get {xs : List PEntry} {k : Nat} (h : k < xs.length) : entAt xs k = xs[k] := by simp [entAt, List.getD_eq_getElem?_getD, List.getElem?_eq_getElem h]
theorem bigAt_get {xs : List PBigram} {k : Nat} (h : k < xs.length) : bigAt xs k = xs[k] := by simp [bigAt, List.getD_eq_getElem?_getD, List.getElem?_eq_getElem h]
theorem upto_false {f : Nat → Bool} {g : Nat → Bool} (hg : ∀ k, g (k + 1) = (g k && f k)) {k : Nat} (h : f k = false) : ∀ n, k < n → g n = false
 | 0, hk => by omega
 | n + 1, hk => by
  by_cases e : k = n
  · subst e; simp [hg, h]
  · rw [hg, upto_false hg h n (by omega)]; rfl
theorem entsOk_false {xs : List PEntry} {k n : Nat} (h : entOk xs k = false) (hk : k < n) : entsOk xs n = false := upto_false (f := entOk xs) (g := entsOk xs) (fun _ => rfl) h n hk
theorem bigsOk_false {xs : List PBigram} {k n : Nat} (h : bigOk xs k = false) (hk : k < n) : bigsOk xs n = false := upto_false (f := bigOk xs) (g := bigsOk xs) (fun _ => rfl) h n hk
end Go.Proofs.YtkfadfddhbpngaaGreat
