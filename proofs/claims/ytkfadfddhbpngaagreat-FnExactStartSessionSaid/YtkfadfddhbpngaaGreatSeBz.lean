/- Setups and sessions: which are valid, as plain data; the order of bigrams. Conditions: none. -/
import Derived.Test.YtkfadfddhbpngaaGreatSeTyz
import Derived.Test.YtkfadfddhbpngaaGreatConfz
import Derived.Test.YtkfadfddhbpngaaGreatEqStrz
import Derived.Test.YtkfadfddhbpngaaGreatSlOpsz
import Derived.Test.YtkfadfddhbpngaaGreatTyPointz
import Derived.Test.YtkfadfddhbpngaaGreatAppendz
import Derived.Test.YtkfadfddhbpngaaGreatLabelz
import Derived.Test.YtkfadfddhbpngaaGreatTyStepz
import Derived.Deep.RegionHeld3
import Derived.Test.YtkfadfddhbpngaaGreatRows
namespace Go.Proofs.YtkfadfddhbpngaaGreat
open Go Go.RowKit

def featB (f : PFeat) : Bool := inR f.x 0 255 && (inR f.y 0 255 && inR f.d 0 7)
def featsB (fs : List PFeat) : Bool := fs.all featB && (decide (1 ≤ fs.length) && decide (fs.length ≤ 72))
def tempB (t : PTemp) : Bool := labelB t.label && featsB t.feats
def storeB (p : PSetup) : Bool := p.temps.all tempB && (inR p.band 0 72 && decide (p.temps.length ≤ 40))
def settingB (p : PSetting) : Bool := inR p.points 2 24 && (inR p.most 1 8 && inR p.pen 0 1000)
def costB (n : Int) : Bool := inR n 0 1000000
def entAt (xs : List PEntry) (k : Nat) : PEntry := xs.getD k ⟨.empty, 0⟩
def entOk (xs : List PEntry) (k : Nat) : Bool := isWordB (entAt xs k).word && (costB (entAt xs k).cost && (decide (k = 0) || bLess (entAt xs (k - 1)).word (entAt xs k).word))
def entsOk (xs : List PEntry) : Nat → Bool
  | 0 => true
  | k + 1 => entsOk xs k && entOk xs k
def lexB (xs : List PEntry) : Bool := entsOk xs xs.length && decide (xs.length ≤ 60)
def bigKey (b : PBigram) : CKey := (b.first, b.second)
def bigB (b : PBigram) : Bool := isWordB b.second && ((decide (b.first = .empty) || isWordB b.first) && costB b.cost)
def bigAt (xs : List PBigram) (k : Nat) : PBigram := xs.getD k ⟨.empty, .empty, 0⟩
def bigOk (xs : List PBigram) (k : Nat) : Bool := bigB (bigAt xs k) && (decide (k = 0) || cLess (bigKey (bigAt xs (k - 1))) (bigKey (bigAt xs k)))
def bigsOk (xs : List PBigram) : Nat → Bool
  | 0 => true
  | k + 1 => bigsOk xs k && bigOk xs k
def modelB (n : Int) (xs : List PBigram) : Bool := bigsOk xs xs.length && (costB n && decide (xs.length ≤ 60))
def setupB (p : PSetup) : Bool := storeB p && (settingB ⟨p.points, p.most, p.pen⟩ && (lexB p.entries && (modelB p.dflt p.bigrams && inR p.pause 1 60000)))
theorem entAt_get {xs : List PEntry} {k : Nat} (h : k < xs.length) : entAt xs k = xs[k] := by simp [entAt, List.getD_eq_getElem?_getD, List.getElem?_eq_getElem h]
theorem bigAt_get {xs : List PBigram} {k : Nat} (h : k < xs.length) : bigAt xs k = xs[k] := by simp [bigAt, List.getD_eq_getElem?_getD, List.getElem?_eq_getElem h]
theorem upto_false {f : Nat → Bool} {g : Nat → Bool} (hg : ∀ k, g (k + 1) = (g k && f k)) {k : Nat} (h : f k = false) : ∀ n, k < n → g n = false
  | 0, hk => by omega
  | n + 1, hk => by
    by_cases e : k = n
    · subst e; simp [hg, h]
    · rw [hg, upto_false hg h n (by omega)]; rfl
theorem entsOk_false {xs : List PEntry} {k n : Nat} (h : entOk xs k = false) (hk : k < n) : entsOk xs n = false := upto_false (f := entOk xs) (g := entsOk xs) (fun _ => rfl) h n hk
theorem bigsOk_false {xs : List PBigram} {k n : Nat} (h : bigOk xs k = false) (hk : k < n) : bigsOk xs n = false := upto_false (f := bigOk xs) (g := bigsOk xs) (fun _ => rfl) h n hk
end Go.Proofs.YtkfadfddhbpngaaGreat
