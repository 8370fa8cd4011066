/- Desks as plain data; a page's helpers over its three slices. Conditions: none. -/
import Derived.Test.YtkfadfddhbpngaaGreatSeIsx
import Derived.Test.YtkfadfddhbpngaaGreatPgTox
namespace Go.Proofs.YtkfadfddhbpngaaGreat
open Go Go.RowKit

structure PDesk where
 session : PSess
 page : PPage
 deriving DecidableEq
structure DkSmall (q : PDesk) : Prop where
 s : SsSmall q.session
 p : PSmall q.page
structure DkBytes (q : PDesk) : Prop where
 s : SsBytes q.session
 p : PLaw q.page
def szDk (q : PDesk) : Nat := szSs q.session + szP q.page
def sameDeskB (p q : PDesk) : Bool := sameSessB p.session q.session && decide (p.page = q.page)
theorem sameDeskB_iff (p q : PDesk) : sameDeskB p q = true ↔ p = q := by
 cases p; cases q
 simp only [sameDeskB, Bool.and_eq_true, decide_eq_true_eq, PDesk.mk.injEq, sameSessB_iff]
theorem sameDeskB_refl (p : PDesk) : sameDeskB p p = true := (sameDeskB_iff p p).2 rfl
theorem DkSmall.of {q : PDesk} (h : szDk q ≤ 1048576) : DkSmall q ∧ DkBytes q := by
 unfold szDk at h
 have hs := SsSmall.of (q := q.session) (by omega)
 have hp := PLaw.of (p := q.page) (by omega)
 exact ⟨⟨hs.1, hp.s⟩, ⟨hs.2, hp⟩⟩
end Go.Proofs.YtkfadfddhbpngaaGreat
