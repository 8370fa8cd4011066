/- Setups and sessions as arguments, opened to plain data. Conditions: none. -/
import Derived.Test.YtkkignkoneeieaaSeTom
import Derived.Test.YtkkignkoneeieaaInkOpensm
namespace Go.Proofs.Ytkkignkoneeieaa
open Go Go.RowKit

abbrev idsL : Ids := ⟨188, 155, 157, 159, 142, 179⟩
def aStore : Ty (Int × List PTemp) := int64.prod (pTemps 188 155)
def aModel : Ty (Int × List PBigram) := int64.prod (pBigrams 159)
def aSetup : Ty PSetup := (aStore.prod (pSetting.prod ((pEntrys 157).prod (aModel.prod int64)))).via fun p => ((p.band, p.temps), (⟨p.points, p.most, p.pen⟩, (p.entries, ((p.dflt, p.bigrams), p.pause))))
def aSess : Ty PSess := (aSetup.prod ((pStrokes 142 179).prod ((pPoints 142).prod (int64.prod (strs 9))))).via fun p => (p.setup, (p.strokes, (p.opn, (p.time, p.words))))
theorem slice_one {α : Type} {T : Ty α} {e : TypeId} {o : Bool} {w : World} {xs : List α} {cs : List Value} {F : List Nat} (h : (T.slice e).rep o w xs cs F) : ∃ v, cs = [v] := by
  obtain ⟨A, c, ec, F0, F1, rfl, _⟩ := h
  exact ⟨_, rfl⟩
theorem setup_cells {o : Bool} {w : World} {p : PSetup} {cs : List Value} {F : List Nat} (h : aSetup.rep o w p cs F) : ∃ a b c F0 F1 F2, cs = [.int .i64 p.band, a, .int .i64 p.points, .int .i64 p.most, .int .i64 p.pen, b, .int .i64 p.dflt, c, .int .i64 p.pause] ∧ F = F0 ++ (F1 ++ F2) ∧ (pTemps 188 155).rep o w p.temps [a] F0 ∧ (pEntrys 157).rep o w p.entries [b] F1 ∧ (pBigrams 159).rep o w p.bigrams [c] F2 := by
  obtain ⟨_, _, _, _, rfl, rfl, ⟨_, _, _, _, rfl, rfl, ⟨rfl, rfl, -⟩, h1⟩, _, _, _, _, rfl, rfl, hs, _, _, _, _, rfl, rfl, h2, _, _, _, _, rfl, rfl, ⟨_, _, _, _, rfl, rfl, ⟨rfl, rfl, -⟩, h3⟩, rfl, rfl, -⟩ := h
  obtain ⟨rfl, rfl, -⟩ := pSetting_rep.1 hs
  obtain ⟨a, rfl⟩ := slice_one h1
  obtain ⟨b, rfl⟩ := slice_one h2
  obtain ⟨c, rfl⟩ := slice_one h3
  exact ⟨a, b, c, _, _, _, rfl, by simp, h1, h2, h3⟩
theorem SetupIs.of {o : Bool} {w : World} {p : PSetup} {cs : List Value} {F : List Nat} (h : aSetup.rep o w p cs F) : SetupIs idsL o w p (.agg cs.toArray) F := by
  obtain ⟨a, b, c, F0, F1, F2, rfl, rfl, h1, h2, h3⟩ := setup_cells h
  exact ⟨a, b, c, F0, F1, F2, rfl, rfl, h1, h2, h3⟩
theorem sess_cells {o : Bool} {w : World} {p : PSess} {cs : List Value} {F : List Nat} (h : aSess.rep o w p cs F) : ∃ a b c d g x F0 F1 F2 F3 F4 F5, cs = [.int .i64 p.setup.band, a, .int .i64 p.setup.points, .int .i64 p.setup.most, .int .i64 p.setup.pen, b, .int .i64 p.setup.dflt, c, .int .i64 p.setup.pause, d, g, .int .i64 p.time, x] ∧ F = F0 ++ (F1 ++ (F2 ++ (F3 ++ (F4 ++ F5)))) ∧ (pTemps 188 155).rep o w p.setup.temps [a] F0 ∧ (pEntrys 157).rep o w p.setup.entries [b] F1 ∧ (pBigrams 159).rep o w p.setup.bigrams [c] F2 ∧ (pStrokes 142 179).rep o w p.strokes [d] F3 ∧ (pPoints 142).rep o w p.opn [g] F4 ∧ (strs 9).rep o w p.words [x] F5 := by
  obtain ⟨_, _, _, _, rfl, rfl, hs, _, _, _, _, rfl, rfl, h4, _, _, _, _, rfl, rfl, h5, _, _, _, _, rfl, rfl, ⟨rfl, rfl, -⟩, h6⟩ := h
  obtain ⟨a, b, c, F0, F1, F2, rfl, rfl, h1, h2, h3⟩ := setup_cells hs
  obtain ⟨d, rfl⟩ := slice_one h4
  obtain ⟨g, rfl⟩ := slice_one h5
  obtain ⟨x, rfl⟩ := slice_one h6
  exact ⟨a, b, c, d, g, x, F0, F1, F2, _, _, _, rfl, by simp, h1, h2, h3, h4, h5, h6⟩
theorem SessIs.of {o : Bool} {w : World} {p : PSess} {cs : List Value} {F : List Nat} (h : aSess.rep o w p cs F) : SessIs idsL o w p (.agg cs.toArray) F := by
  obtain ⟨a, b, c, d, g, x, F0, F1, F2, F3, F4, F5, rfl, rfl, h1, h2, h3, h4, h5, h6⟩ := sess_cells h
  exact ⟨a, b, c, d, g, x, F0, F1, F2, F3, F4, F5, rfl, rfl, h1, h2, h3, h4, h5, h6⟩
theorem opens_lfeat : Opens Try.prog 188 pFeat :=
  opens_via (opens_struct Try.underlying188 (by kernel_rfl) (fields_cons rfl (by kernel_rfl) (opens_int64 Try.underlying2) (fields_cons rfl (by kernel_rfl) (opens_int64 Try.underlying2) (fields_one rfl (by kernel_rfl) (opens_int64 Try.underlying2))))) _ (fun p => ⟨p.1, p.2.1, p.2.2⟩) (fun _ => rfl)
theorem opens_lfeatS : Opens Try.prog 153 (pFeats 188) := opens_slice Try.underlying153 (by kernel_rfl) (by decide) opens_lfeat
theorem opens_ltemp : Opens Try.prog 155 (pTemp 188) :=
  opens_via (opens_struct Try.underlying155 (by kernel_rfl) (fields_cons rfl (by kernel_rfl) (opens_str Try.underlying9) (fields_one rfl (by kernel_rfl) opens_lfeatS))) _ (fun p => ⟨p.1, p.2⟩) (fun _ => rfl)
theorem opens_ltempS : Opens Try.prog 22 (pTemps 188 155) := opens_slice Try.underlying22 (by kernel_rfl) (by decide) opens_ltemp
theorem opens_lentry : Opens Try.prog 157 pEntry :=
  opens_via (opens_struct Try.underlying157 (by kernel_rfl) (fields_cons rfl (by kernel_rfl) (opens_str Try.underlying9) (fields_one rfl (by kernel_rfl) (opens_int64 Try.underlying2)))) _ (fun p => ⟨p.1, p.2⟩) (fun _ => rfl)
theorem opens_lentryS : Opens Try.prog 27 (pEntrys 157) := opens_slice Try.underlying27 (by kernel_rfl) (by decide) opens_lentry
theorem opens_lbigram : Opens Try.prog 159 pBigram :=
  opens_via (opens_struct Try.underlying159 (by kernel_rfl) (fields_cons rfl (by kernel_rfl) (opens_str Try.underlying9) (fields_cons rfl (by kernel_rfl) (opens_str Try.underlying9) (fields_one rfl (by kernel_rfl) (opens_int64 Try.underlying2))))) _ (fun p => ⟨p.1, p.2.1, p.2.2⟩) (fun _ => rfl)
theorem opens_lbigramS : Opens Try.prog 30 (pBigrams 159) := opens_slice Try.underlying30 (by kernel_rfl) (by decide) opens_lbigram
theorem opens_lstore : Opens Try.prog 24 aStore :=
  opens_struct Try.underlying24 (by kernel_rfl) (fields_cons rfl (by kernel_rfl) (opens_int64 Try.underlying2) (fields_one rfl (by kernel_rfl) opens_ltempS))
theorem opens_lsetting : Opens Try.prog 26 pSetting :=
  opens_via (opens_struct Try.underlying26 (by kernel_rfl) (fields_cons rfl (by kernel_rfl) (opens_int64 Try.underlying2) (fields_cons rfl (by kernel_rfl) (opens_int64 Try.underlying2) (fields_one rfl (by kernel_rfl) (opens_int64 Try.underlying2))))) _ (fun p => ⟨p.1, p.2.1, p.2.2⟩) (fun _ => rfl)
theorem opens_llex : Opens Try.prog 29 (pEntrys 157) := opens_struct Try.underlying29 (by kernel_rfl) (fields_one rfl (by kernel_rfl) opens_lentryS)
theorem opens_lmodel : Opens Try.prog 32 aModel :=
  opens_struct Try.underlying32 (by kernel_rfl) (fields_cons rfl (by kernel_rfl) (opens_int64 Try.underlying2) (fields_one rfl (by kernel_rfl) opens_lbigramS))
theorem opens_lsetup : Opens Try.prog 34 aSetup :=
  opens_via (opens_struct Try.underlying34 (by kernel_rfl) (fields_cons rfl (by kernel_rfl) opens_lstore (fields_cons rfl (by kernel_rfl) opens_lsetting (fields_cons rfl (by kernel_rfl) opens_llex (fields_cons rfl (by kernel_rfl) opens_lmodel (fields_one rfl (by kernel_rfl) (opens_int64 Try.underlying2))))))) _ (fun p => ⟨p.1.1, p.1.2, p.2.1.points, p.2.1.most, p.2.1.pen, p.2.2.1, p.2.2.2.1.1, p.2.2.2.1.2, p.2.2.2.2⟩) (fun _ => rfl)
theorem opens_lwords : Opens Try.prog 56 (strs 9) := opens_slice Try.underlying56 (by kernel_rfl) (by decide) (opens_str Try.underlying9)
theorem opens_lsess : Opens Try.prog 58 aSess :=
  opens_via (opens_struct Try.underlying58 (by kernel_rfl) (fields_cons rfl (by kernel_rfl) opens_lsetup (fields_cons rfl (by kernel_rfl) opens_link (fields_cons rfl (by kernel_rfl) opens_lpointS (fields_cons rfl (by kernel_rfl) (opens_int64 Try.underlying2) (fields_one rfl (by kernel_rfl) opens_lwords)))))) _ (fun p => ⟨p.1, p.2.1, p.2.2.1, p.2.2.2.1, p.2.2.2.2⟩) (fun _ => rfl)
end Go.Proofs.Ytkkignkoneeieaa
