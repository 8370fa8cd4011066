/- The type Ink: the law's own helpers over it. Conditions: none. -/
import Derived.Test.YtkfadfddhbpngaaGreatTyStroke4v
import Derived.Test.YtkfadfddhbpngaaGreatTyTempv
import Derived.Test.YtkfadfddhbpngaaGreatTyEntryv
import Derived.Test.YtkfadfddhbpngaaGreatTyBigramv
import Derived.Test.YtkfadfddhbpngaaGreatTySettingv
namespace Go.Proofs.YtkfadfddhbpngaaGreat
open Go Go.RowKit

set_option maxHeartbeats 400000 in
theorem eqInk_c {oa ob : Bool} {pa pb ea eb : TypeId} {xs ys : List PStroke} {v u : Value} {F G : List Nat} (w : World) (h : (pStrokes pa ea).rep oa w xs [v] F) (h' : (pStrokes pb eb).rep ob w ys [u] G) (hx : xs.length ≤ 1048576) (hy : ys.length ≤ 1048576) (hxe : ∀ l ∈ xs, l.length ≤ 1048576) (hye : ∀ l ∈ ys, l.length ≤ 1048576) :
 Calls Tryz.prog 51 #[.agg #[v], .agg #[u]] w fun e w' => e = .returned (.bool (decide (xs = ys))) ∧ Below w.heap.size w w' := by
 cases hd : decide (xs = ys)
 all_goals
  go_enter Tryz.func51, Tryz.ntmps51
  go_wp2_with (go_at_call 124; refine (eqStrokeS_c _ ((h.alloc _).alloc _) ((h'.alloc _).alloc _) hx hy hxe hye).mono ?_; rw [hd]; rintro e w1 ⟨rfl, hb1⟩)
  go_ret
  exact ⟨rfl, ((((Below.refl _ _).alloc (Nat.le_refl _) _).alloc (by simp) _).trans (hb1.mono (by simp; omega)))⟩
set_option maxHeartbeats 400000 in
theorem markInk_c {pe e : TypeId} {xs : List PStroke} {v : Value} {F : List Nat} (w : World) (h : (pStrokes pe e).rep true w xs [v] F) (hnd : F.Nodup) (hx : xs.length ≤ 1048576) (hxe : ∀ l ∈ xs, l.length ≤ 1048576) (s : Nat) (hs0 : 0 < s) (hs : s + pointsIn xs ≤ 10000000) :
 Calls Tryz.prog 61 #[.agg #[v], .int .i64 s] w fun e' w' => e' = .returned (.int .i64 ((s + pointsIn xs : Nat) : Int)) ∧ (pStrokes pe e).rep true w' (markStrokes xs s) [v] F ∧ Only F w w' := by
 have H := Lib.hid (fun w' (q : (pStrokes pe e).rep true w' xs [v] F) => markStrokeS_c w' q hnd hx hxe s hs0 hs)
 go_enter Tryz.func61, Tryz.ntmps61
 go_wp2_with fail
 refine (H.out _ (h.alloc _)).mono ?_
 rintro e' w1 ⟨rfl, r1, o1⟩
 go_wp2_with fail
 go_ret
 exact ⟨rfl, r1, (Only.of_below ((Below.refl _ _).alloc (Nat.le_refl _) _)).trans o1⟩
end Go.Proofs.YtkfadfddhbpngaaGreat
namespace Go.Proofs.YtkfadfddhbpngaaGreat
open Go Go.RowKit

structure PSetup where
 band : Int
 temps : List PTemp
 points : Int
 most : Int
 pen : Int
 entries : List PEntry
 dflt : Int
 bigrams : List PBigram
 pause : Int
 deriving DecidableEq
structure PSess where
 setup : PSetup
 strokes : List PStroke
 opn : List PPoint
 time : Int
 words : List ByteArray
 deriving DecidableEq
/-- Small enough to be looked through. -/
structure SeSmall (p : PSetup) : Prop where
 t : p.temps.length ≤ 1048576
 f : ∀ l ∈ p.temps, l.feats.length ≤ 1048576
 e : p.entries.length ≤ 1048576
 b : p.bigrams.length ≤ 1048576
structure SsSmall (q : PSess) : Prop where
 s : SeSmall q.setup
 i : q.strokes.length ≤ 1048576
 j : ∀ l ∈ q.strokes, l.length ≤ 1048576
 o : q.opn.length ≤ 1048576
 w : q.words.length ≤ 1048576
/-- The texts in a setup are no longer than a law allows. -/
structure SeBytes (p : PSetup) : Prop where
 t : ∀ l ∈ p.temps, l.label.size ≤ 1048576
 e : ∀ l ∈ p.entries, l.word.size ≤ 1048576
 b : ∀ l ∈ p.bigrams, l.first.size ≤ 1048576 ∧ l.second.size ≤ 1048576
structure SsBytes (q : PSess) : Prop where
 s : SeBytes q.setup
 w : ∀ l ∈ q.words, l.size ≤ 1048576
def szSe (p : PSetup) : Nat := szTemps p.temps + szpEntry p.entries + szpBigram p.bigrams
def szSs (q : PSess) : Nat := szSe q.setup + szStrokes q.strokes + q.opn.length + szStrs q.words
/-- Equal in the law's order. -/
def sameSetupB (p q : PSetup) : Bool :=
 (decide (p.band = q.band) && decide (p.temps = q.temps)) && (decide ((⟨p.points, p.most, p.pen⟩ : PSetting) = ⟨q.points, q.most, q.pen⟩) && (decide (p.entries = q.entries) && ((decide (p.dflt = q.dflt) && decide (p.bigrams = q.bigrams)) && decide (p.pause = q.pause))))
def sameSessB (p q : PSess) : Bool := sameSetupB p.setup q.setup && (decide (p.strokes = q.strokes) && (decide (p.opn = q.opn) && (decide (p.time = q.time) && decide (p.words = q.words))))
theorem sameSetupB_iff (p q : PSetup) : sameSetupB p q = true ↔ p = q := by
 cases p; cases q
 simp only [sameSetupB, Bool.and_eq_true, decide_eq_true_eq, PSetting.mk.injEq, PSetup.mk.injEq]
 constructor
 · rintro ⟨⟨h1, h2⟩, ⟨h3, h4, h5⟩, h6, ⟨h7, h8⟩, h9⟩; exact ⟨h1, h2, h3, h4, h5, h6, h7, h8, h9⟩
 · rintro ⟨h1, h2, h3, h4, h5, h6, h7, h8, h9⟩; exact ⟨⟨h1, h2⟩, ⟨h3, h4, h5⟩, h6, ⟨h7, h8⟩, h9⟩
theorem sameSessB_iff (p q : PSess) : sameSessB p q = true ↔ p = q := by
 cases p; cases q
 simp only [sameSessB, Bool.and_eq_true, decide_eq_true_eq, PSess.mk.injEq, sameSetupB_iff]
theorem sum_mem_le {l : List Nat} {x : Nat} (h : x ∈ l) : x ≤ l.sum := by
 induction l with
 | nil => simp at h
 | cons a r ih =>
  rw [List.sum_cons]
  rcases List.mem_cons.1 h with rfl | h
  · omega
  · have := ih h; omega
theorem SeSmall.of {p : PSetup} (h : szSe p ≤ 1048576) : SeSmall p ∧ SeBytes p := by
 unfold szSe at h
 have ht := szTemps_each (xs := p.temps) (n := 1048576) (by omega)
 have he : szpEntry p.entries ≤ 1048576 := by omega
 have hb : szpBigram p.bigrams ≤ 1048576 := by omega
 unfold szpEntry at he
 unfold szpBigram at hb
 refine ⟨⟨ht.1, fun l hl => (ht.2 l hl).2, by omega, by omega⟩, ⟨fun l hl => (ht.2 l hl).1, fun l hl => ?_, fun l hl => ?_⟩⟩
 · have := sum_mem_le (List.mem_map.2 ⟨l, hl, rfl⟩ : pEntryW l ∈ p.entries.map pEntryW)
   have e : pEntryW l = l.word.size := rfl
   omega
 · have := sum_mem_le (List.mem_map.2 ⟨l, hl, rfl⟩ : pBigramW l ∈ p.bigrams.map pBigramW)
   have e : pBigramW l = l.first.size + l.second.size := rfl
   omega
theorem SsSmall.of {q : PSess} (h : szSs q ≤ 1048576) : SsSmall q ∧ SsBytes q := by
 unfold szSs at h
 have hs := SeSmall.of (p := q.setup) (by omega)
 have hi : szStrokes q.strokes ≤ 1048576 := by omega
 have hw : szStrs q.words ≤ 1048576 := by omega
 unfold szStrokes at hi
 unfold szStrs at hw
 refine ⟨⟨hs.1, by omega, fun l hl => ?_, by omega, by omega⟩, ⟨hs.2, fun l hl => ?_⟩⟩
 · have := sum_mem_le (List.mem_map.2 ⟨l, hl, rfl⟩ : l.length ∈ q.strokes.map List.length)
   omega
 · have := sum_mem_le (List.mem_map.2 ⟨l, hl, rfl⟩ : l.size ∈ q.words.map ByteArray.size)
   omega
end Go.Proofs.YtkfadfddhbpngaaGreat
