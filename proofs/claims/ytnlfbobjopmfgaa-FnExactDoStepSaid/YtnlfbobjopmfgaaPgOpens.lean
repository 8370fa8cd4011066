/- Pages as arguments, opened to plain data. Conditions: none. -/
import Derived.Test.YtnlfbobjopmfgaaRows
import Derived.Test.YtnlfbobjopmfgaaTyPage
namespace Go.Proofs.Ytnlfbobjopmfgaa
open Go Go.RowKit

def aPage (el es : TypeId) : Ty PPage := ((pLines el).prod ((pSteps es).prod (pSteps es))).via fun p => (p.lines, p.done, p.undone)
theorem PageIs.of {el es : TypeId} {o : Bool} {w : World} {p : PPage} {cs : List Value} {F : List Nat} (h : (aPage el es).rep o w p cs F) : PageIs el es o w p (.agg cs.toArray) F := by
  obtain ⟨c1, d1, F1, G1, rfl, rfl, h1, c2, d2, F2, G2, rfl, rfl, h2, h3⟩ := h
  obtain ⟨A1, k1, _, _, _, e1, _⟩ := id h1
  obtain ⟨A2, k2, _, _, _, e2, _⟩ := id h2
  obtain ⟨A3, k3, _, _, _, e3, _⟩ := id h3
  subst e1 e2 e3
  exact ⟨_, _, _, F1, F2, G2, rfl, rfl, h1, h2, h3⟩
theorem opens_lstep : Opens Try.prog 43 pStep :=
  opens_via (opens_struct Try.underlying43 (by kernel_rfl) (fields_cons rfl (by kernel_rfl) (opens_int64 Try.underlying2) (fields_cons rfl (by kernel_rfl) (opens_int64 Try.underlying2) (fields_cons rfl (by kernel_rfl) (opens_int64 Try.underlying2) (fields_cons rfl (by kernel_rfl) (opens_str Try.underlying9) (fields_one rfl (by kernel_rfl) (opens_str Try.underlying9))))))) _ (fun p => ⟨p.1, p.2.1, p.2.2.1, p.2.2.2.1, p.2.2.2.2⟩) (fun _ => rfl)
theorem opens_lstepS : Opens Try.prog 31 (pSteps 43) :=
  opens_slice Try.underlying31 (by kernel_rfl) (by decide) opens_lstep
theorem opens_lwords : Opens Try.prog 55 (strs 9) :=
  opens_slice Try.underlying55 (by kernel_rfl) (by decide) (opens_str Try.underlying9)
theorem opens_lline : Opens Try.prog 103 pLine :=
  opens_struct Try.underlying103 (by kernel_rfl) (fields_one rfl (by kernel_rfl) opens_lwords)
theorem opens_llineS : Opens Try.prog 30 (pLines 103) :=
  opens_slice Try.underlying30 (by kernel_rfl) (by decide) opens_lline
theorem opens_lpage : Opens Try.prog 33 (aPage 103 43) :=
  opens_via (opens_struct Try.underlying33 (by kernel_rfl) (fields_cons rfl (by kernel_rfl) opens_llineS (fields_cons rfl (by kernel_rfl) opens_lstepS (fields_one rfl (by kernel_rfl) opens_lstepS)))) _ (fun p => ⟨p.1, p.2.1, p.2.2⟩) (fun _ => rfl)
end Go.Proofs.Ytnlfbobjopmfgaa
