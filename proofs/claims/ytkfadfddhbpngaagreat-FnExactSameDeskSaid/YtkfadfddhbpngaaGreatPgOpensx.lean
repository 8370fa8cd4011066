/- Pages as arguments, opened to plain data. Conditions: none. -/
import Derived.Test.YtkfadfddhbpngaaGreatRows
import Derived.Test.YtkfadfddhbpngaaGreatTyLine3x
import Derived.Test.YtkfadfddhbpngaaGreatSeOpensx
import Derived.Test.YtkfadfddhbpngaaGreatDkIsx
namespace Go.Proofs.YtkfadfddhbpngaaGreat
open Go Go.RowKit

def aPage (el es : TypeId) : Ty PPage := ((pLines el).prod ((pSteps es).prod (pSteps es))).via fun p => (p.lines, p.done, p.undone)
theorem PageIs.of {el es : TypeId} {o : Bool} {w : World} {p : PPage} {cs : List Value} {F : List Nat} (h : (aPage el es).rep o w p cs F) : PageIs el es o w p (.agg cs.toArray) F := by
 obtain ⟨c1, d1, F1, G1, rfl, rfl, h1, c2, d2, F2, G2, rfl, rfl, h2, h3⟩ := h
 obtain ⟨A1, k1, _, _, _, e1, _⟩ := id h1
 obtain ⟨A2, k2, _, _, _, e2, _⟩ := id h2
 obtain ⟨A3, k3, _, _, _, e3, _⟩ := id h3
 subst e1 e2 e3
 exact ⟨_, _, _, F1, F2, G2, rfl, rfl, h1, h2, h3⟩
theorem opens_lstep : Opens Tryz.prog 212 pStep :=
 opens_via (opens_struct Tryz.underlying212 (by kernel_rfl) (fields_cons rfl (by kernel_rfl) (opens_int64 Tryz.underlying2) (fields_cons rfl (by kernel_rfl) (opens_int64 Tryz.underlying2) (fields_cons rfl (by kernel_rfl) (opens_int64 Tryz.underlying2) (fields_cons rfl (by kernel_rfl) (opens_str Tryz.underlying9) (fields_one rfl (by kernel_rfl) (opens_str Tryz.underlying9))))))) _ (fun p => ⟨p.1, p.2.1, p.2.2.1, p.2.2.2.1, p.2.2.2.2⟩) (fun _ => rfl)
theorem opens_lstepS : Opens Tryz.prog 43 (pSteps 212) :=
 opens_slice Tryz.underlying43 (by kernel_rfl) (by decide) opens_lstep
theorem opens_lwordsP : Opens Tryz.prog 39 (strs 9) :=
 opens_slice Tryz.underlying39 (by kernel_rfl) (by decide) (opens_str Tryz.underlying9)
theorem opens_lline : Opens Tryz.prog 210 pLine :=
 opens_struct Tryz.underlying210 (by kernel_rfl) (fields_one rfl (by kernel_rfl) opens_lwordsP)
theorem opens_llineS : Opens Tryz.prog 42 (pLines 210) :=
 opens_slice Tryz.underlying42 (by kernel_rfl) (by decide) opens_lline
theorem opens_lpage : Opens Tryz.prog 45 (aPage 210 212) :=
 opens_via (opens_struct Tryz.underlying45 (by kernel_rfl) (fields_cons rfl (by kernel_rfl) opens_llineS (fields_cons rfl (by kernel_rfl) opens_lstepS (fields_one rfl (by kernel_rfl) opens_lstepS)))) _ (fun p => ⟨p.1, p.2.1, p.2.2⟩) (fun _ => rfl)
end Go.Proofs.YtkfadfddhbpngaaGreat
namespace Go.Proofs.YtkfadfddhbpngaaGreat
open Go Go.RowKit

abbrev didsL : DIds := ⟨idsL, 210, 212⟩
def aDesk : Ty PDesk := (aSess.prod (aPage 210 212)).via fun p => (p.session, p.page)
theorem DeskIs.of {o : Bool} {w : World} {p : PDesk} {cs : List Value} {F : List Nat} (h : aDesk.rep o w p cs F) : DeskIs didsL o w p (.agg cs.toArray) F := by
 obtain ⟨_, _, _, _, rfl, rfl, hs, _, _, _, _, rfl, rfl, h7, _, _, _, _, rfl, rfl, h8, h9⟩ := h
 obtain ⟨a, b, c, d, g, x, F0, F1, F2, F3, F4, F5, rfl, rfl, h1, h2, h3, h4, h5, h6⟩ := sess_cells hs
 obtain ⟨l, rfl⟩ := slice_one h7
 obtain ⟨m, rfl⟩ := slice_one h8
 obtain ⟨n, rfl⟩ := slice_one h9
 exact ⟨a, b, c, d, g, x, l, m, n, F0, F1, F2, F3, F4, F5, _, _, _, rfl, by simp only [List.append_assoc], h1, h2, h3, h4, h5, h6, h7, h8, h9⟩
theorem opens_ldesk : Opens Tryz.prog 47 aDesk :=
 opens_via (opens_struct Tryz.underlying47 (by kernel_rfl) (fields_cons rfl (by kernel_rfl) opens_lsess (fields_one rfl (by kernel_rfl) opens_lpage))) _ (fun p => ⟨p.1, p.2⟩) (fun _ => rfl)
end Go.Proofs.YtkfadfddhbpngaaGreat
