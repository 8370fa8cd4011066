/- Events as text: names, and numbers joined. Conditions: none. -/
import Derived.Test.YtahoopmiipmgpaaDoorPoss2
import Derived.Test.YtahoopmiipmgpaaDoorDec
import Derived.Test.YtahoopmiipmgpaaDoorIntS
namespace Go.Proofs.YtahoopmiipmgpaaDoor
open Go Go.RowKit

def nameB (k : Int) : ByteArray := if k = 1 then ⟨#[100, 111, 119, 110]⟩ else if k = 2 then ⟨#[109, 111, 118, 101]⟩ else if k = 3 then ⟨#[117, 112]⟩ else ⟨#[112, 97, 117, 115, 101]⟩
set_option maxHeartbeats 400000 in
theorem impl_eventName_c (k : Int) (w : World) (hk : (k = 1 ∨ k = 2) ∨ (k = 3 ∨ k = 4)) :
    Calls Tryd.prog 28 #[.int .i64 k] w fun en w' => en = .returned (.string (nameB k)) ∧ Below w.heap.size w w' := by
  rcases hk with (rfl | rfl) | (rfl | rfl)
  all_goals
    go_enter Tryd.func28, Tryd.ntmps28
    go_wp2_with fail
    go_ret
    exact ⟨rfl, (Below.refl _ _).alloc (Nat.le_refl _) _⟩
/-- The first k numbers, joined by blanks. -/
def joinK (xs : List Nat) : Nat → ByteArray
  | 0 => .empty
  | k + 1 => (if k = 0 then joinK xs k else joinK xs k ++ ⟨#[32]⟩) ++ decB (xs.getD k 0)
theorem joinK_size {xs : List Nat} (h : ∀ x ∈ xs, x ≤ 9223372036854775807) : ∀ k, (joinK xs k).size ≤ k * 20
  | 0 => by simp [joinK]
  | k + 1 => by
    have h1 := joinK_size h k
    have h2 : (decB (xs.getD k 0)).size ≤ 19 := decB_size (by
      rw [List.getD_eq_getElem?_getD]
      by_cases hk : k < xs.length
      · rw [List.getElem?_eq_getElem hk]; exact h _ (List.getElem_mem hk)
      · rw [List.getElem?_eq_none (by omega)]; simp)
    rw [joinK]
    generalize decB (xs.getD k 0) = d at h2
    have e1 : (ByteArray.mk #[32]).size = 1 := rfl
    split <;> simp only [ByteArray.size_append] <;> omega
/-- An event's text. -/
def evText (e : PEvent) : ByteArray :=
  if possB e then
    if e.kind = 1 ∨ e.kind = 2 then nameB e.kind ++ ⟨#[32]⟩ ++ decB e.x.toNat ++ ⟨#[32]⟩ ++ decB e.y.toNat ++ ⟨#[32]⟩ ++ decB e.t.toNat
    else nameB e.kind ++ ⟨#[32]⟩ ++ decB e.t.toNat
  else .empty
theorem joinK_three (a b c : Nat) : joinK [a, b, c] 3 = decB a ++ ⟨#[32]⟩ ++ decB b ++ ⟨#[32]⟩ ++ decB c := by
  simp [joinK, ByteArray.append_assoc]
end Go.Proofs.YtahoopmiipmgpaaDoor
