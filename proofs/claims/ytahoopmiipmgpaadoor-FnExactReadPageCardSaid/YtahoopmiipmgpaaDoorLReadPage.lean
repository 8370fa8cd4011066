/- The walk of the law FnExactReadPage. Conditions: the library's variables are laid. -/
import Derived.Test.YtahoopmiipmgpaaDoorRpC
import Derived.Test.YtahoopmiipmgpaaDoorRpD
import Derived.Test.YtahoopmiipmgpaaDoorPgTo
namespace Go.Proofs.YtahoopmiipmgpaaDoor
open Go Go.RowKit

theorem readP_small (s : ByteArray) (hs : s.size ≤ 1048576) : PSmall (readP s) ∧ marksIn (readP s) ≤ 5242880 := by
  have h := read_small s hs
  rw [readP]
  split
  · exact ⟨h.s, h.m⟩
  · exact ⟨⟨by simp [nilPage], by simp [nilPage], by simp [nilPage, wordsIn], by simp [nilPage], by simp [nilPage]⟩, by simp [nilPage, marksIn, wordsIn]⟩
set_option maxHeartbeats 4000000 in
theorem law_ReadPage (s : ByteArray) (w : World) (hE : MaxE w) :
    Calls Tryd.prog 3 #[.string s] w fun e w' => e = .returned (.bool true) ∧ Below w.heap.size w w' := by
  by_cases hs : s.size ≤ 1048576
  · have g0 : ((1048576 : Int) < (s.size : Int)) = False := eq_false (by omega)
    have HS := Lib.hid (fun w' => spec_ReadPage_c s w' hs)
    have HI := Lib.hid (fun w' (h : MaxE w') => impl_ReadPage_c s w' hs h)
    have hq := readP_small s hs
    generalize readP s = q at HS HI hq
    generalize readOkP s = ok at HS HI
    obtain ⟨hqs, hqm⟩ := hq
    have HQM := Lib.hid hqm
    have HQS := Lib.hid hqs
    have z1 : (ok != ok) = false := by simp
    have z3 : (((1 + marksIn q : Nat) : Int) < 0) = False := by simp only [eq_iff_iff, iff_false]; omega
    have z4 : ((((1 + marksIn q : Nat) : Int)) != ((1 + marksIn q : Nat) : Int)) = false := by simp
    clear hqs hqm
    go_enter Tryd.func3, Tryd.ntmps3
    go_wp2_with fail
    refine (HS.out _).mono ?_
    rintro e w3 ⟨u3, G3, rfl, s, f3, c⟩
    have hsw3 := c.size
    obtain ⟨S1, Sk1, S2, Sk2, S3, Sk3, rfl⟩ := s.shape
    have RS := Row.new w3 25 #[.slice S1 q.lines.length Sk1, .slice S2 q.done.length Sk2, .slice S3 q.undone.length Sk3]
    have bx := s.blocks
    go_wp2_with fail
    refine (HI.out _ (hE.below (c.alloc c.size _))).mono ?_
    rintro e w5 ⟨u5, GG, rfl, g, fg, b5⟩
    replace s := (s.alloc _).below b5
    replace RS := RS.later b5
    replace c := (c.alloc c.size _).trans (b5.mono (by have := c.size; simp; omega))
    obtain ⟨G1, Gk1, G2, Gk2, G3, Gk3, rfl⟩ := g.shape
    have hsz5 : w3.heap.size + 1 ≤ w5.heap.size := by simpa using b5.size
    have hgb := g.blocks
    have RSa := RS.alloc (.cells #[.slice G1 q.lines.length Gk1, .slice G2 q.done.length Gk2, .slice G3 q.undone.length Gk3] 25)
    have qS0a := RSa.cell' (i := 0) rfl
    have qS1a := RSa.cell' (i := 1) rfl
    have qS2a := RSa.cell' (i := 2) rfl
    have RG := Row.new w5 25 #[.slice G1 q.lines.length Gk1, .slice G2 q.done.length Gk2, .slice G3 q.undone.length Gk3]
    go_wp2_with fail
    refine (eqPage_c _ (g.alloc _) (s.alloc _) HQS.out HQS.out).mono ?_
    rintro e w6 ⟨rfl, b6⟩
    clear qS0a qS1a qS2a
    clear RSa
    replace RS := (RS.alloc _).later b6
    replace s := (s.alloc _).below b6
    replace g := (g.alloc _).below b6
    replace c := (c.alloc c.size _).trans (b6.mono (by have := c.size; simp; omega))
    replace RG := RG.later b6
    have hsz6 : w5.heap.size + 1 ≤ w6.heap.size := by simpa using b6.size
    have qG0 := RG.cell' (i := 0) rfl
    have qG1 := RG.cell' (i := 1) rfl
    have qG2 := RG.cell' (i := 2) rfl
    go_wp2_with fail
    refine (markPage_c _ g fg.1 HQS.out 1 (by omega) (by have := HQM.out; omega)).mono ?_
    rintro e w11 ⟨rfl, g11, o11⟩
    have fg2 := fg.2
    simp only [World.size_alloc] at fg2
    clear qG0 qG1 qG2
    replace RS := RS.only o11 (fun hin => by have := fg2 _ hin; omega)
    replace RG := RG.only o11 (fun hin => by have := hgb _ hin; omega)
    replace s := s.only o11 (fun b hb hin => by have := bx _ hb; have := fg2 _ hin; omega)
    replace c := c.trans (o11.below c.size (fun b hin => by have := fg2 _ hin; omega))
    clear g
    have qG0 := RG.cell' (i := 0) rfl
    have qG1 := RG.cell' (i := 1) rfl
    have qG2 := RG.cell' (i := 2) rfl
    go_wp2_with fail
    refine (heldPage_c _ 1 g11 HQS.out (by omega) (by have := HQM.out; omega)).mono ?_
    rintro e w12 ⟨rfl, b12⟩
    clear qG0 qG1 qG2
    replace RS := RS.later b12
    replace RG := RG.later b12
    replace s := s.below b12
    replace g11 := g11.below b12
    replace c := bt c b12
    go_wp2_with fail
    refine (HI.out _ (hE.below c)).mono ?_
    rintro e w14 ⟨u14, GT, rfl, t, ft, b14⟩
    replace RS := RS.later b14
    replace RG := RG.later b14
    replace s := s.below b14
    replace g11 := g11.below b14
    replace c := bt c b14
    obtain ⟨T1, Tk1, T2, Tk2, T3, Tk3, rfl⟩ := t.shape
    have RSa := RS.alloc (.cells #[.slice T1 q.lines.length Tk1, .slice T2 q.done.length Tk2, .slice T3 q.undone.length Tk3] 25)
    have qS0a := RSa.cell' (i := 0) rfl
    have qS1a := RSa.cell' (i := 1) rfl
    have qS2a := RSa.cell' (i := 2) rfl
    go_wp2_with fail
    refine (eqPage_c _ (t.alloc _) (s.alloc _) HQS.out HQS.out).mono ?_
    rintro e w15 ⟨rfl, b15⟩
    clear qS0a qS1a qS2a
    clear RSa
    replace RS := (RS.alloc _).later b15
    replace RG := (RG.alloc _).later b15
    replace s := (s.alloc _).below b15
    replace g11 := (g11.alloc _).below b15
    replace c := (c.alloc c.size _).trans (b15.mono (by have := c.size; simp; omega))
    have qG0 := RG.cell' (i := 0) rfl
    have qG1 := RG.cell' (i := 1) rfl
    have qG2 := RG.cell' (i := 2) rfl
    go_wp2_with fail
    refine (heldPage_c _ 1 g11 HQS.out (by omega) (by have := HQM.out; omega)).mono ?_
    rintro e w16 ⟨rfl, b16⟩
    go_wp2_with fail
    go_ret
    exact ⟨rfl, bt c b16⟩
  · have g0 : ((1048576 : Int) < (s.size : Int)) = True := eq_true (by omega)
    go_enter Tryd.func3, Tryd.ntmps3
    go_wp2_with fail
    go_ret
    exact ⟨rfl, Below.refl _ _⟩
end Go.Proofs.YtahoopmiipmgpaaDoor
