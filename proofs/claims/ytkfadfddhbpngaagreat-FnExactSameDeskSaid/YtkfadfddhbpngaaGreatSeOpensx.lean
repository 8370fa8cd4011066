/- Setups and sessions as arguments, opened to plain data. Conditions: none. -/
import Derived.Test.YtkfadfddhbpngaaGreatSeIsx
import Derived.Test.YtkfadfddhbpngaaGreatInkOpensx
namespace Go.Proofs.YtkfadfddhbpngaaGreat
open Go Go.RowKit

abbrev idsL : Ids := ⟨288, 232, 234, 236, 219, 269⟩
def aStore : Ty (Int × List PTemp) := int64.prod (pTemps 288 232)
def aModel : Ty (Int × List PBigram) := int64.prod (pBigrams 236)
def aSetup : Ty PSetup := (aStore.prod (pSetting.prod ((pEntrys 234).prod (aModel.prod int64)))).via fun p => ((p.band, p.temps), (⟨p.points, p.most, p.pen⟩, (p.entries, ((p.dflt, p.bigrams), p.pause))))
def aSess : Ty PSess := (aSetup.prod ((pStrokes 219 269).prod ((pPoints 219).prod (int64.prod (strs 9))))).via fun p => (p.setup, (p.strokes, (p.opn, (p.time, p.words))))
theorem slice_one {α : Type} {T : Ty α} {e : TypeId} {o : Bool} {w : World} {xs : List α} {cs : List Value} {F : List Nat} (h : (T.slice e).rep o w xs cs F) : ∃ v, cs = [v] := by
 obtain ⟨A, c, ec, F0, F1, rfl, _⟩ := h
 exact ⟨_, rfl⟩
theorem setup_cells {o : Bool} {w : World} {p : PSetup} {cs : List Value} {F : List Nat} (h : aSetup.rep o w p cs F) : ∃ a b c F0 F1 F2, cs = [.int .i64 p.band, a, .int .i64 p.points, .int .i64 p.most, .int .i64 p.pen, b, .int .i64 p.dflt, c, .int .i64 p.pause] ∧ F = F0 ++ (F1 ++ F2) ∧ (pTemps 288 232).rep o w p.temps [a] F0 ∧ (pEntrys 234).rep o w p.entries [b] F1 ∧ (pBigrams 236).rep o w p.bigrams [c] F2 := by
 obtain ⟨_, _, _, _, rfl, rfl, ⟨_, _, _, _, rfl, rfl, ⟨rfl, rfl, -⟩, h1⟩, _, _, _, _, rfl, rfl, hs, _, _, _, _, rfl, rfl, h2, _, _, _, _, rfl, rfl, ⟨_, _, _, _, rfl, rfl, ⟨rfl, rfl, -⟩, h3⟩, rfl, rfl, -⟩ := h
 obtain ⟨rfl, rfl, -⟩ := pSetting_rep.1 hs
 obtain ⟨a, rfl⟩ := slice_one h1
 obtain ⟨b, rfl⟩ := slice_one h2
 obtain ⟨c, rfl⟩ := slice_one h3
 exact ⟨a, b, c, _, _, _, rfl, by simp, h1, h2, h3⟩
theorem SetupIs.of {o : Bool} {w : World} {p : PSetup} {cs : List Value} {F : List Nat} (h : aSetup.rep o w p cs F) : SetupIs idsL o w p (.agg cs.toArray) F := by
 obtain ⟨a, b, c, F0, F1, F2, rfl, rfl, h1, h2, h3⟩ := setup_cells h
 exact ⟨a, b, c, F0, F1, F2, rfl, rfl, h1, h2, h3⟩
theorem sess_cells {o : Bool} {w : World} {p : PSess} {cs : List Value} {F : List Nat} (h : aSess.rep o w p cs F) : ∃ a b c d g x F0 F1 F2 F3 F4 F5, cs = [.int .i64 p.setup.band, a, .int .i64 p.setup.points, .int .i64 p.setup.most, .int .i64 p.setup.pen, b, .int .i64 p.setup.dflt, c, .int .i64 p.setup.pause, d, g, .int .i64 p.time, x] ∧ F = F0 ++ (F1 ++ (F2 ++ (F3 ++ (F4 ++ F5)))) ∧ (pTemps 288 232).rep o w p.setup.temps [a] F0 ∧ (pEntrys 234).rep o w p.setup.entries [b] F1 ∧ (pBigrams 236).rep o w p.setup.bigrams [c] F2 ∧ (pStrokes 219 269).rep o w p.strokes [d] F3 ∧ (pPoints 219).rep o w p.opn [g] F4 ∧ (strs 9).rep o w p.words [x] F5 := by
 obtain ⟨_, _, _, _, rfl, rfl, hs, _, _, _, _, rfl, rfl, h4, _, _, _, _, rfl, rfl, h5, _, _, _, _, rfl, rfl, ⟨rfl, rfl, -⟩, h6⟩ := h
 obtain ⟨a, b, c, F0, F1, F2, rfl, rfl, h1, h2, h3⟩ := setup_cells hs
 obtain ⟨d, rfl⟩ := slice_one h4
 obtain ⟨g, rfl⟩ := slice_one h5
 obtain ⟨x, rfl⟩ := slice_one h6
 exact ⟨a, b, c, d, g, x, F0, F1, F2, _, _, _, rfl, by simp, h1, h2, h3, h4, h5, h6⟩
theorem SessIs.of {o : Bool} {w : World} {p : PSess} {cs : List Value} {F : List Nat} (h : aSess.rep o w p cs F) : SessIs idsL o w p (.agg cs.toArray) F := by
 obtain ⟨a, b, c, d, g, x, F0, F1, F2, F3, F4, F5, rfl, rfl, h1, h2, h3, h4, h5, h6⟩ := sess_cells h
 exact ⟨a, b, c, d, g, x, F0, F1, F2, F3, F4, F5, rfl, rfl, h1, h2, h3, h4, h5, h6⟩
theorem opens_lfeat : Opens Tryz.prog 288 pFeat :=
 opens_via (opens_struct Tryz.underlying288 (by kernel_rfl) (fields_cons rfl (by kernel_rfl) (opens_int64 Tryz.underlying2) (fields_cons rfl (by kernel_rfl) (opens_int64 Tryz.underlying2) (fields_one rfl (by kernel_rfl) (opens_int64 Tryz.underlying2))))) _ (fun p => ⟨p.1, p.2.1, p.2.2⟩) (fun _ => rfl)
theorem opens_lfeatS : Opens Tryz.prog 230 (pFeats 288) := opens_slice Tryz.underlying230 (by kernel_rfl) (by decide) opens_lfeat
theorem opens_ltemp : Opens Tryz.prog 232 (pTemp 288) :=
 opens_via (opens_struct Tryz.underlying232 (by kernel_rfl) (fields_cons rfl (by kernel_rfl) (opens_str Tryz.underlying9) (fields_one rfl (by kernel_rfl) opens_lfeatS))) _ (fun p => ⟨p.1, p.2⟩) (fun _ => rfl)
theorem opens_ltempS : Opens Tryz.prog 22 (pTemps 288 232) := opens_slice Tryz.underlying22 (by kernel_rfl) (by decide) opens_ltemp
theorem opens_lentry : Opens Tryz.prog 234 pEntry :=
 opens_via (opens_struct Tryz.underlying234 (by kernel_rfl) (fields_cons rfl (by kernel_rfl) (opens_str Tryz.underlying9) (fields_one rfl (by kernel_rfl) (opens_int64 Tryz.underlying2)))) _ (fun p => ⟨p.1, p.2⟩) (fun _ => rfl)
theorem opens_lentryS : Opens Tryz.prog 27 (pEntrys 234) := opens_slice Tryz.underlying27 (by kernel_rfl) (by decide) opens_lentry
theorem opens_lbigram : Opens Tryz.prog 236 pBigram :=
 opens_via (opens_struct Tryz.underlying236 (by kernel_rfl) (fields_cons rfl (by kernel_rfl) (opens_str Tryz.underlying9) (fields_cons rfl (by kernel_rfl) (opens_str Tryz.underlying9) (fields_one rfl (by kernel_rfl) (opens_int64 Tryz.underlying2))))) _ (fun p => ⟨p.1, p.2.1, p.2.2⟩) (fun _ => rfl)
theorem opens_lbigramS : Opens Tryz.prog 30 (pBigrams 236) := opens_slice Tryz.underlying30 (by kernel_rfl) (by decide) opens_lbigram
theorem opens_lstore : Opens Tryz.prog 24 aStore :=
 opens_struct Tryz.underlying24 (by kernel_rfl) (fields_cons rfl (by kernel_rfl) (opens_int64 Tryz.underlying2) (fields_one rfl (by kernel_rfl) opens_ltempS))
theorem opens_lsetting : Opens Tryz.prog 26 pSetting :=
 opens_via (opens_struct Tryz.underlying26 (by kernel_rfl) (fields_cons rfl (by kernel_rfl) (opens_int64 Tryz.underlying2) (fields_cons rfl (by kernel_rfl) (opens_int64 Tryz.underlying2) (fields_one rfl (by kernel_rfl) (opens_int64 Tryz.underlying2))))) _ (fun p => ⟨p.1, p.2.1, p.2.2⟩) (fun _ => rfl)
theorem opens_llex : Opens Tryz.prog 29 (pEntrys 234) := opens_struct Tryz.underlying29 (by kernel_rfl) (fields_one rfl (by kernel_rfl) opens_lentryS)
theorem opens_lmodel : Opens Tryz.prog 32 aModel :=
 opens_struct Tryz.underlying32 (by kernel_rfl) (fields_cons rfl (by kernel_rfl) (opens_int64 Tryz.underlying2) (fields_one rfl (by kernel_rfl) opens_lbigramS))
theorem opens_lsetup : Opens Tryz.prog 34 aSetup :=
 opens_via (opens_struct Tryz.underlying34 (by kernel_rfl) (fields_cons rfl (by kernel_rfl) opens_lstore (fields_cons rfl (by kernel_rfl) opens_lsetting (fields_cons rfl (by kernel_rfl) opens_llex (fields_cons rfl (by kernel_rfl) opens_lmodel (fields_one rfl (by kernel_rfl) (opens_int64 Tryz.underlying2))))))) _ (fun p => ⟨p.1.1, p.1.2, p.2.1.points, p.2.1.most, p.2.1.pen, p.2.2.1, p.2.2.2.1.1, p.2.2.2.1.2, p.2.2.2.2⟩) (fun _ => rfl)
theorem opens_lwords : Opens Tryz.prog 39 (strs 9) := opens_slice Tryz.underlying39 (by kernel_rfl) (by decide) (opens_str Tryz.underlying9)
theorem opens_lsess : Opens Tryz.prog 41 aSess :=
 opens_via (opens_struct Tryz.underlying41 (by kernel_rfl) (fields_cons rfl (by kernel_rfl) opens_lsetup (fields_cons rfl (by kernel_rfl) opens_link (fields_cons rfl (by kernel_rfl) opens_lpointS (fields_cons rfl (by kernel_rfl) (opens_int64 Tryz.underlying2) (fields_one rfl (by kernel_rfl) opens_lwords)))))) _ (fun p => ⟨p.1, p.2.1, p.2.2.1, p.2.2.2.1, p.2.2.2.2⟩) (fun _ => rfl)
end Go.Proofs.YtkfadfddhbpngaaGreat
