/- SameSession of the reference, over values. Conditions: none. -/
import Derived.Test.YtkkignkoneeieaaSmRm
namespace Go.Proofs.Ytkkignkoneeieaa
open Go Go.RowKit

set_option maxHeartbeats 1000000 in
theorem spec_SameSession_p {I J : Ids} {oa ob : Bool} {p q : PSess} {v u : Value} {F G : List Nat} (w : World) (h : SessIs I oa w p v F) (h' : SessIs J ob w q u G) (hp : SsSmall p) (hq : SsSmall q) :
    Calls Try.prog 11 #[v, u] w fun e w' => e = .returned (.bool (sameSessB p q)) ∧ Below w.heap.size w w' := by
  obtain ⟨a0, a1, a2, a3, a4, a5, F0, F1, F2, F3, F4, F5, rfl, rfl, h0, h1, h2, h3, h4, h5⟩ := h
  obtain ⟨b0, b1, b2, b3, b4, b5, G0, G1, G2, G3, G4, G5, rfl, rfl, k0, k1, k2, k3, k4, k5⟩ := h'
  obtain ⟨A0, Ak0, rfl⟩ := slice_len h0
  obtain ⟨B0, Bk0, rfl⟩ := slice_len k0
  obtain ⟨A1, Ak1, rfl⟩ := slice_len h1
  obtain ⟨B1, Bk1, rfl⟩ := slice_len k1
  obtain ⟨A2, Ak2, rfl⟩ := slice_len h2
  obtain ⟨B2, Bk2, rfl⟩ := slice_len k2
  obtain ⟨A3, Ak3, rfl⟩ := slice_len h3
  obtain ⟨B3, Bk3, rfl⟩ := slice_len k3
  obtain ⟨A4, Ak4, rfl⟩ := slice_len h4
  obtain ⟨B4, Bk4, rfl⟩ := slice_len k4
  obtain ⟨A5, Ak5, rfl⟩ := slice_len h5
  obtain ⟨B5, Bk5, rfl⟩ := slice_len k5
  have R := (Row.new w 66 #[.int .i64 p.setup.band, .slice A0 p.setup.temps.length Ak0, .int .i64 p.setup.points, .int .i64 p.setup.most, .int .i64 p.setup.pen, .slice A1 p.setup.entries.length Ak1, .int .i64 p.setup.dflt, .slice A2 p.setup.bigrams.length Ak2, .int .i64 p.setup.pause, .slice A3 p.strokes.length Ak3, .slice A4 p.opn.length Ak4, .int .i64 p.time, .slice A5 p.words.length Ak5]).alloc (.cells #[.int .i64 q.setup.band, .slice B0 q.setup.temps.length Bk0, .int .i64 q.setup.points, .int .i64 q.setup.most, .int .i64 q.setup.pen, .slice B1 q.setup.entries.length Bk1, .int .i64 q.setup.dflt, .slice B2 q.setup.bigrams.length Bk2, .int .i64 q.setup.pause, .slice B3 q.strokes.length Bk3, .slice B4 q.opn.length Bk4, .int .i64 q.time, .slice B5 q.words.length Bk5] 66)
  have Q := Row.new (w.alloc (.cells #[.int .i64 p.setup.band, .slice A0 p.setup.temps.length Ak0, .int .i64 p.setup.points, .int .i64 p.setup.most, .int .i64 p.setup.pen, .slice A1 p.setup.entries.length Ak1, .int .i64 p.setup.dflt, .slice A2 p.setup.bigrams.length Ak2, .int .i64 p.setup.pause, .slice A3 p.strokes.length Ak3, .slice A4 p.opn.length Ak4, .int .i64 p.time, .slice A5 p.words.length Ak5] 66)) 66 #[.int .i64 q.setup.band, .slice B0 q.setup.temps.length Bk0, .int .i64 q.setup.points, .int .i64 q.setup.most, .int .i64 q.setup.pen, .slice B1 q.setup.entries.length Bk1, .int .i64 q.setup.dflt, .slice B2 q.setup.bigrams.length Bk2, .int .i64 q.setup.pause, .slice B3 q.strokes.length Bk3, .slice B4 q.opn.length Bk4, .int .i64 q.time, .slice B5 q.words.length Bk5]
  simp only [World.size_alloc] at Q
  have al : Below w.heap.size w ((w.alloc (.cells #[.int .i64 p.setup.band, .slice A0 p.setup.temps.length Ak0, .int .i64 p.setup.points, .int .i64 p.setup.most, .int .i64 p.setup.pen, .slice A1 p.setup.entries.length Ak1, .int .i64 p.setup.dflt, .slice A2 p.setup.bigrams.length Ak2, .int .i64 p.setup.pause, .slice A3 p.strokes.length Ak3, .slice A4 p.opn.length Ak4, .int .i64 p.time, .slice A5 p.words.length Ak5] 66)).alloc (.cells #[.int .i64 q.setup.band, .slice B0 q.setup.temps.length Bk0, .int .i64 q.setup.points, .int .i64 q.setup.most, .int .i64 q.setup.pen, .slice B1 q.setup.entries.length Bk1, .int .i64 q.setup.dflt, .slice B2 q.setup.bigrams.length Bk2, .int .i64 q.setup.pause, .slice B3 q.strokes.length Bk3, .slice B4 q.opn.length Bk4, .int .i64 q.time, .slice B5 q.words.length Bk5] 66)) := ((Below.refl _ _).alloc (Nat.le_refl _) _).alloc (by simp) _
  have H := Lib.hid (spec_l26Same_c (more := []) (more' := []) _ (by rw [List.append_nil]; exact R) (by rw [List.append_nil]; exact Q) ((h0.alloc _).alloc _) ((k0.alloc _).alloc _) ((h1.alloc _).alloc _) ((k1.alloc _).alloc _) ((h2.alloc _).alloc _) ((k2.alloc _).alloc _) ((h3.alloc _).alloc _) ((k3.alloc _).alloc _) ((h4.alloc _).alloc _) ((k4.alloc _).alloc _) ((h5.alloc _).alloc _) ((k5.alloc _).alloc _) hp hq)
  generalize sameSessB p q = d at H ⊢
  go_enter Try.func11, Try.ntmps11
  go_wp2_with fail
  refine H.out.mono ?_
  rintro e w1 ⟨rfl, b1⟩
  go_wp2_with fail
  go_ret
  exact ⟨rfl, al.trans (b1.mono al.size)⟩
end Go.Proofs.Ytkkignkoneeieaa
