/- Ink as an argument, opened to plain data. Conditions: none. -/
import Derived.Test.YtkfadfddhbpngaaGreatRows
import Derived.Test.YtkfadfddhbpngaaGreatTyStrokey
import Derived.Test.YtkfadfddhbpngaaGreatSeSzy
import Derived.Test.YtkfadfddhbpngaaGreatTyLiney
import Derived.Test.YtkfadfddhbpngaaGreatDkIsy
namespace Go.Proofs.YtkfadfddhbpngaaGreat
open Go Go.RowKit

theorem opens_lpoint : Opens Tryz.prog 219 pPoint :=
 opens_via (opens_struct Tryz.underlying219 (by kernel_rfl) (fields_cons rfl (by kernel_rfl) (opens_int64 Tryz.underlying2) (fields_cons rfl (by kernel_rfl) (opens_int64 Tryz.underlying2) (fields_one rfl (by kernel_rfl) (opens_int64 Tryz.underlying2))))) _ (fun p => ⟨p.1, p.2.1, p.2.2⟩) (fun _ => rfl)
theorem opens_lpointS : Opens Tryz.prog 38 (pPoints 219) :=
 opens_slice Tryz.underlying38 (by kernel_rfl) (by decide) opens_lpoint
theorem opens_lstroke : Opens Tryz.prog 269 (pStroke 219) :=
 opens_struct Tryz.underlying269 (by kernel_rfl) (fields_one rfl (by kernel_rfl) opens_lpointS)
theorem opens_lstrokeS : Opens Tryz.prog 35 (pStrokes 219 269) :=
 opens_slice Tryz.underlying35 (by kernel_rfl) (by decide) opens_lstroke
theorem opens_link : Opens Tryz.prog 37 (pStrokes 219 269) :=
 opens_struct Tryz.underlying37 (by kernel_rfl) (fields_one rfl (by kernel_rfl) opens_lstrokeS)
end Go.Proofs.YtkfadfddhbpngaaGreat
namespace Go.Proofs.YtkfadfddhbpngaaGreat
open Go Go.RowKit

abbrev idsL : Ids := ⟨288, 232, 234, 236, 219, 269⟩
def aStore : Ty (Int × List PTemp) := int64.prod (pTemps 288 232)
def aModel : Ty (Int × List PBigram) := int64.prod (pBigrams 236)
def aSetup : Ty PSetup := (aStore.prod (pSetting.prod ((pEntrys 234).prod (aModel.prod int64)))).via fun p => ((p.band, p.temps), (⟨p.points, p.most, p.pen⟩, (p.entries, ((p.dflt, p.bigrams), p.pause))))
def aSess : Ty PSess := (aSetup.prod ((pStrokes 219 269).prod ((pPoints 219).prod (int64.prod (strs 9))))).via fun p => (p.setup, (p.strokes, (p.opn, (p.time, p.words))))
theorem slice_one {α : Type} {T : Ty α} {e : TypeId} {o : Bool} {w : World} {xs : List α} {cs : List Value} {F : List Nat} (h : (T.slice e).rep o w xs cs F) : ∃ v, cs = [v] := by
 obtain ⟨A, c, ec, F0, F1, rfl, _⟩ := h
 exact ⟨_, rfl⟩
theorem setup_cells {o : Bool} {w : World} {p : PSetup} {cs : List Value} {F : List Nat} (h : aSetup.rep o w p cs F) : ∃ a b c F0 F1 F2, cs = [.int .i64 p.band, a, .int .i64 p.points, .int .i64 p.most, .int .i64 p.pen, b, .int .i64 p.dflt, c, .int .i64 p.pause] ∧ F = F0 ++ (F1 ++ F2) ∧ (pTemps 288 232).rep o w p.temps [a] F0 ∧ (pEntrys 234).rep o w p.entries [b] F1 ∧ (pBigrams 236).rep o w p.bigrams [c] F2 := by
 obtain ⟨_, _, _, _, rfl, rfl, ⟨_, _, _, _, rfl, rfl, ⟨rfl, rfl, -⟩, h1⟩, _, _, _, _, rfl, rfl, hs, _, _, _, _, rfl, rfl, h2, _, _, _, _, rfl, rfl, ⟨_, _, _, _, rfl, rfl, ⟨rfl, rfl, -⟩, h3⟩, rfl, rfl, -⟩ := h
 obtain ⟨rfl, rfl, -⟩ := pSetting_rep.1 hs
 obtain ⟨a, rfl⟩ := slice_one h1
 obtain ⟨b, rfl⟩ := slice_one h2
 obtain ⟨c, rfl⟩ := slice_one h3
 exact ⟨a, b, c, _, _, _, rfl, by simp, h1, h2, h3⟩
theorem SetupIs.of {o : Bool} {w : World} {p : PSetup} {cs : List Value} {F : List Nat} (h : aSetup.rep o w p cs F) : SetupIs idsL o w p (.agg cs.toArray) F := by
 obtain ⟨a, b, c, F0, F1, F2, rfl, rfl, h1, h2, h3⟩ := setup_cells h
 exact ⟨a, b, c, F0, F1, F2, rfl, rfl, h1, h2, h3⟩
theorem sess_cells {o : Bool} {w : World} {p : PSess} {cs : List Value} {F : List Nat} (h : aSess.rep o w p cs F) : ∃ a b c d g x F0 F1 F2 F3 F4 F5, cs = [.int .i64 p.setup.band, a, .int .i64 p.setup.points, .int .i64 p.setup.most, .int .i64 p.setup.pen, b, .int .i64 p.setup.dflt, c, .int .i64 p.setup.pause, d, g, .int .i64 p.time, x] ∧ F = F0 ++ (F1 ++ (F2 ++ (F3 ++ (F4 ++ F5)))) ∧ (pTemps 288 232).rep o w p.setup.temps [a] F0 ∧ (pEntrys 234).rep o w p.setup.entries [b] F1 ∧ (pBigrams 236).rep o w p.setup.bigrams [c] F2 ∧ (pStrokes 219 269).rep o w p.strokes [d] F3 ∧ (pPoints 219).rep o w p.opn [g] F4 ∧ (strs 9).rep o w p.words [x] F5 := by
 obtain ⟨_, _, _, _, rfl, rfl, hs, _, _, _, _, rfl, rfl, h4, _, _, _, _, rfl, rfl, h5, _, _, _, _, rfl, rfl, ⟨rfl, rfl, -⟩, h6⟩ := h
 obtain ⟨a, b, c, F0, F1, F2, rfl, rfl, h1, h2, h3⟩ := setup_cells hs
 obtain ⟨d, rfl⟩ := slice_one h4
 obtain ⟨g, rfl⟩ := slice_one h5
 obtain ⟨x, rfl⟩ := slice_one h6
 exact ⟨a, b, c, d, g, x, F0, F1, F2, _, _, _, rfl, by simp, h1, h2, h3, h4, h5, h6⟩
theorem SessIs.of {o : Bool} {w : World} {p : PSess} {cs : List Value} {F : List Nat} (h : aSess.rep o w p cs F) : SessIs idsL o w p (.agg cs.toArray) F := by
 obtain ⟨a, b, c, d, g, x, F0, F1, F2, F3, F4, F5, rfl, rfl, h1, h2, h3, h4, h5, h6⟩ := sess_cells h
 exact ⟨a, b, c, d, g, x, F0, F1, F2, F3, F4, F5, rfl, rfl, h1, h2, h3, h4, h5, h6⟩
theorem opens_lfeat : Opens Tryz.prog 288 pFeat :=
 opens_via (opens_struct Tryz.underlying288 (by kernel_rfl) (fields_cons rfl (by kernel_rfl) (opens_int64 Tryz.underlying2) (fields_cons rfl (by kernel_rfl) (opens_int64 Tryz.underlying2) (fields_one rfl (by kernel_rfl) (opens_int64 Tryz.underlying2))))) _ (fun p => ⟨p.1, p.2.1, p.2.2⟩) (fun _ => rfl)
theorem opens_lfeatS : Opens Tryz.prog 230 (pFeats 288) := opens_slice Tryz.underlying230 (by kernel_rfl) (by decide) opens_lfeat
theorem opens_ltemp : Opens Tryz.prog 232 (pTemp 288) :=
 opens_via (opens_struct Tryz.underlying232 (by kernel_rfl) (fields_cons rfl (by kernel_rfl) (opens_str Tryz.underlying9) (fields_one rfl (by kernel_rfl) opens_lfeatS))) _ (fun p => ⟨p.1, p.2⟩) (fun _ => rfl)
theorem opens_ltempS : Opens Tryz.prog 22 (pTemps 288 232) := opens_slice Tryz.underlying22 (by kernel_rfl) (by decide) opens_ltemp
theorem opens_lentry : Opens Tryz.prog 234 pEntry :=
 opens_via (opens_struct Tryz.underlying234 (by kernel_rfl) (fields_cons rfl (by kernel_rfl) (opens_str Tryz.underlying9) (fields_one rfl (by kernel_rfl) (opens_int64 Tryz.underlying2)))) _ (fun p => ⟨p.1, p.2⟩) (fun _ => rfl)
theorem opens_lentryS : Opens Tryz.prog 27 (pEntrys 234) := opens_slice Tryz.underlying27 (by kernel_rfl) (by decide) opens_lentry
theorem opens_lbigram : Opens Tryz.prog 236 pBigram :=
 opens_via (opens_struct Tryz.underlying236 (by kernel_rfl) (fields_cons rfl (by kernel_rfl) (opens_str Tryz.underlying9) (fields_cons rfl (by kernel_rfl) (opens_str Tryz.underlying9) (fields_one rfl (by kernel_rfl) (opens_int64 Tryz.underlying2))))) _ (fun p => ⟨p.1, p.2.1, p.2.2⟩) (fun _ => rfl)
theorem opens_lbigramS : Opens Tryz.prog 30 (pBigrams 236) := opens_slice Tryz.underlying30 (by kernel_rfl) (by decide) opens_lbigram
theorem opens_lstore : Opens Tryz.prog 24 aStore :=
 opens_struct Tryz.underlying24 (by kernel_rfl) (fields_cons rfl (by kernel_rfl) (opens_int64 Tryz.underlying2) (fields_one rfl (by kernel_rfl) opens_ltempS))
theorem opens_lsetting : Opens Tryz.prog 26 pSetting :=
 opens_via (opens_struct Tryz.underlying26 (by kernel_rfl) (fields_cons rfl (by kernel_rfl) (opens_int64 Tryz.underlying2) (fields_cons rfl (by kernel_rfl) (opens_int64 Tryz.underlying2) (fields_one rfl (by kernel_rfl) (opens_int64 Tryz.underlying2))))) _ (fun p => ⟨p.1, p.2.1, p.2.2⟩) (fun _ => rfl)
theorem opens_llex : Opens Tryz.prog 29 (pEntrys 234) := opens_struct Tryz.underlying29 (by kernel_rfl) (fields_one rfl (by kernel_rfl) opens_lentryS)
theorem opens_lmodel : Opens Tryz.prog 32 aModel :=
 opens_struct Tryz.underlying32 (by kernel_rfl) (fields_cons rfl (by kernel_rfl) (opens_int64 Tryz.underlying2) (fields_one rfl (by kernel_rfl) opens_lbigramS))
theorem opens_lsetup : Opens Tryz.prog 34 aSetup :=
 opens_via (opens_struct Tryz.underlying34 (by kernel_rfl) (fields_cons rfl (by kernel_rfl) opens_lstore (fields_cons rfl (by kernel_rfl) opens_lsetting (fields_cons rfl (by kernel_rfl) opens_llex (fields_cons rfl (by kernel_rfl) opens_lmodel (fields_one rfl (by kernel_rfl) (opens_int64 Tryz.underlying2))))))) _ (fun p => ⟨p.1.1, p.1.2, p.2.1.points, p.2.1.most, p.2.1.pen, p.2.2.1, p.2.2.2.1.1, p.2.2.2.1.2, p.2.2.2.2⟩) (fun _ => rfl)
theorem opens_lwords : Opens Tryz.prog 39 (strs 9) := opens_slice Tryz.underlying39 (by kernel_rfl) (by decide) (opens_str Tryz.underlying9)
theorem opens_lsess : Opens Tryz.prog 41 aSess :=
 opens_via (opens_struct Tryz.underlying41 (by kernel_rfl) (fields_cons rfl (by kernel_rfl) opens_lsetup (fields_cons rfl (by kernel_rfl) opens_link (fields_cons rfl (by kernel_rfl) opens_lpointS (fields_cons rfl (by kernel_rfl) (opens_int64 Tryz.underlying2) (fields_one rfl (by kernel_rfl) opens_lwords)))))) _ (fun p => ⟨p.1, p.2.1, p.2.2.1, p.2.2.2.1, p.2.2.2.2⟩) (fun _ => rfl)
end Go.Proofs.YtkfadfddhbpngaaGreat
namespace Go.Proofs.YtkfadfddhbpngaaGreat
open Go Go.RowKit

def aPage (el es : TypeId) : Ty PPage := ((pLines el).prod ((pSteps es).prod (pSteps es))).via fun p => (p.lines, p.done, p.undone)
theorem PageIs.of {el es : TypeId} {o : Bool} {w : World} {p : PPage} {cs : List Value} {F : List Nat} (h : (aPage el es).rep o w p cs F) : PageIs el es o w p (.agg cs.toArray) F := by
 obtain ⟨c1, d1, F1, G1, rfl, rfl, h1, c2, d2, F2, G2, rfl, rfl, h2, h3⟩ := h
 obtain ⟨A1, k1, _, _, _, e1, _⟩ := id h1
 obtain ⟨A2, k2, _, _, _, e2, _⟩ := id h2
 obtain ⟨A3, k3, _, _, _, e3, _⟩ := id h3
 subst e1 e2 e3
 exact ⟨_, _, _, F1, F2, G2, rfl, rfl, h1, h2, h3⟩
theorem opens_lstep : Opens Tryz.prog 212 pStep :=
 opens_via (opens_struct Tryz.underlying212 (by kernel_rfl) (fields_cons rfl (by kernel_rfl) (opens_int64 Tryz.underlying2) (fields_cons rfl (by kernel_rfl) (opens_int64 Tryz.underlying2) (fields_cons rfl (by kernel_rfl) (opens_int64 Tryz.underlying2) (fields_cons rfl (by kernel_rfl) (opens_str Tryz.underlying9) (fields_one rfl (by kernel_rfl) (opens_str Tryz.underlying9))))))) _ (fun p => ⟨p.1, p.2.1, p.2.2.1, p.2.2.2.1, p.2.2.2.2⟩) (fun _ => rfl)
theorem opens_lstepS : Opens Tryz.prog 43 (pSteps 212) :=
 opens_slice Tryz.underlying43 (by kernel_rfl) (by decide) opens_lstep
theorem opens_lwordsP : Opens Tryz.prog 39 (strs 9) :=
 opens_slice Tryz.underlying39 (by kernel_rfl) (by decide) (opens_str Tryz.underlying9)
theorem opens_lline : Opens Tryz.prog 210 pLine :=
 opens_struct Tryz.underlying210 (by kernel_rfl) (fields_one rfl (by kernel_rfl) opens_lwordsP)
theorem opens_llineS : Opens Tryz.prog 42 (pLines 210) :=
 opens_slice Tryz.underlying42 (by kernel_rfl) (by decide) opens_lline
theorem opens_lpage : Opens Tryz.prog 45 (aPage 210 212) :=
 opens_via (opens_struct Tryz.underlying45 (by kernel_rfl) (fields_cons rfl (by kernel_rfl) opens_llineS (fields_cons rfl (by kernel_rfl) opens_lstepS (fields_one rfl (by kernel_rfl) opens_lstepS)))) _ (fun p => ⟨p.1, p.2.1, p.2.2⟩) (fun _ => rfl)
end Go.Proofs.YtkfadfddhbpngaaGreat
namespace Go.Proofs.YtkfadfddhbpngaaGreat
open Go Go.RowKit

abbrev didsL : DIds := ⟨idsL, 210, 212⟩
def aDesk : Ty PDesk := (aSess.prod (aPage 210 212)).via fun p => (p.session, p.page)
theorem DeskIs.of {o : Bool} {w : World} {p : PDesk} {cs : List Value} {F : List Nat} (h : aDesk.rep o w p cs F) : DeskIs didsL o w p (.agg cs.toArray) F := by
 obtain ⟨_, _, _, _, rfl, rfl, hs, _, _, _, _, rfl, rfl, h7, _, _, _, _, rfl, rfl, h8, h9⟩ := h
 obtain ⟨a, b, c, d, g, x, F0, F1, F2, F3, F4, F5, rfl, rfl, h1, h2, h3, h4, h5, h6⟩ := sess_cells hs
 obtain ⟨l, rfl⟩ := slice_one h7
 obtain ⟨m, rfl⟩ := slice_one h8
 obtain ⟨n, rfl⟩ := slice_one h9
 exact ⟨a, b, c, d, g, x, l, m, n, F0, F1, F2, F3, F4, F5, _, _, _, rfl, by simp only [List.append_assoc], h1, h2, h3, h4, h5, h6, h7, h8, h9⟩
theorem opens_ldesk : Opens Tryz.prog 47 aDesk :=
 opens_via (opens_struct Tryz.underlying47 (by kernel_rfl) (fields_cons rfl (by kernel_rfl) opens_lsess (fields_one rfl (by kernel_rfl) opens_lpage))) _ (fun p => ⟨p.1, p.2⟩) (fun _ => rfl)
end Go.Proofs.YtkfadfddhbpngaaGreat
