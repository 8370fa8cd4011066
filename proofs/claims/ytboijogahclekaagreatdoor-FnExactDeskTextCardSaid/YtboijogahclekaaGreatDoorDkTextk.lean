/- DeskText of the program and of the reference. Conditions: the library's table of powers of ten. -/
import Derived.Test.YtboijogahclekaaGreatDoorTkk
import Derived.Test.YtboijogahclekaaGreatDoorDkValidk
import Derived.Test.YtboijogahclekaaGreatDoorDeck
import Derived.Test.YtboijogahclekaaGreatDoorPgCopyk
import Derived.Test.YtboijogahclekaaGreatDoorSeVk
import Derived.Deep.Cut
import Derived.Deep.CutRange
namespace Go.Proofs.YtboijogahclekaaGreatDoor
open Go Go.RowKit
def deskNs (p : PDesk) : List Nat := [p.session.strokes.length, p.session.opn.length, p.session.setup.temps.length, p.session.words.length, p.page.lines.length]
def deskText (p : PDesk) : ByteArray := if deskB p then joinK (deskNs p) 5 else .empty
theorem join_five (a b c d e : ByteArray) : (⟨(Lib.join (([a, b, c, d, e] : List ByteArray).map (·.data.toList)) [32]).toArray⟩ : ByteArray) = (((((((a ++ ⟨#[32]⟩) ++ b) ++ ⟨#[32]⟩) ++ c) ++ ⟨#[32]⟩) ++ d) ++ ⟨#[32]⟩) ++ e := by
 apply ByteArray.ext
 simp [Lib.join, ByteArray.data_append]
theorem joinK_five (a b c d e : Nat) : joinK [a, b, c, d, e] 5 = (((((((decB a ++ ⟨#[32]⟩) ++ decB b) ++ ⟨#[32]⟩) ++ decB c) ++ ⟨#[32]⟩) ++ decB d) ++ ⟨#[32]⟩) ++ decB e := by
 simp [joinK]
theorem deskNs_small {p : PDesk} (hp : DkSmall p) : ∀ x ∈ deskNs p, x ≤ 1048576 := by
 intro x hx
 simp only [deskNs, List.mem_cons, List.mem_nil_iff, or_false] at hx
 rcases hx with rfl | rfl | rfl | rfl | rfl
 · exact hp.s.i
 · exact hp.s.o
 · exact hp.s.s.t
 · exact hp.s.w
 · exact hp.p.l
theorem deskNs_rep (w : World) {T : TypeId} {p : PDesk} (hp : DkSmall p) : (nums T).rep true (w.alloc (.cells #[.int .i64 (p.session.strokes.length : Int), .int .i64 (p.session.opn.length : Int), .int .i64 (p.session.setup.temps.length : Int), .int .i64 (p.session.words.length : Int), .int .i64 (p.page.lines.length : Int)] T)) ((deskNs p).map fun n : Nat => (n : Int)) [.slice (some ⟨w.heap.size, 0, none⟩) 5 5] [w.heap.size] :=
 slice_of_row (xs := (deskNs p).map fun n : Nat => (n : Int)) (Row.new w _ _) (repL_nums _ (by
  intro s hs
  obtain ⟨n, hn, rfl⟩ := List.mem_map.1 hs
  have := deskNs_small hp n hn
  constructor <;> omega)) (by simp [maxLen, deskNs])
set_option maxRecDepth 100000 in
set_option maxHeartbeats 4000000 in
theorem spec_DeskText_p {I : DIds} {o : Bool} {p : PDesk} {v : Value} {F : List Nat} (w : World) (h : DeskIs I o w p v F) (hp : DkSmall p) (hb : DkBytes p) :
 Calls Tryz.prog 5 #[v] w fun e w' => e = .returned (.string (deskText p)) ∧ Below w.heap.size w w' := by
 have hsm := deskNs_small hp
 have HP := Lib.hid hp
 obtain ⟨a0, a1, a2, a3, a4, a5, a6, a7, a8, F0, F1, F2, F3, F4, F5, F6, F7, F8, rfl, rfl, h1, h2, h3, h4, h5, h6, h7, h8, h9⟩ := h
 obtain ⟨A0, Ak0, rfl⟩ := slice_len h1
 obtain ⟨A1, Ak1, rfl⟩ := slice_len h2
 obtain ⟨A2, Ak2, rfl⟩ := slice_len h3
 obtain ⟨A3, Ak3, rfl⟩ := slice_len h4
 obtain ⟨A4, Ak4, rfl⟩ := slice_len h5
 obtain ⟨A5, Ak5, rfl⟩ := slice_len h6
 obtain ⟨A6, Ak6, rfl⟩ := slice_len h7
 obtain ⟨A7, Ak7, rfl⟩ := slice_len h8
 obtain ⟨A8, Ak8, rfl⟩ := slice_len h9
 have R := Row.new w 73 #[.int .i64 p.session.setup.band, .slice A0 p.session.setup.temps.length Ak0, .int .i64 p.session.setup.points, .int .i64 p.session.setup.most, .int .i64 p.session.setup.pen, .slice A1 p.session.setup.entries.length Ak1, .int .i64 p.session.setup.dflt, .slice A2 p.session.setup.bigrams.length Ak2, .int .i64 p.session.setup.pause, .slice A3 p.session.strokes.length Ak3, .slice A4 p.session.opn.length Ak4, .int .i64 p.session.time, .slice A5 p.session.words.length Ak5, .slice A6 p.page.lines.length Ak6, .slice A7 p.page.done.length Ak7, .slice A8 p.page.undone.length Ak8]
 have al : Below w.heap.size w (w.alloc (.cells #[.int .i64 p.session.setup.band, .slice A0 p.session.setup.temps.length Ak0, .int .i64 p.session.setup.points, .int .i64 p.session.setup.most, .int .i64 p.session.setup.pen, .slice A1 p.session.setup.entries.length Ak1, .int .i64 p.session.setup.dflt, .slice A2 p.session.setup.bigrams.length Ak2, .int .i64 p.session.setup.pause, .slice A3 p.session.strokes.length Ak3, .slice A4 p.session.opn.length Ak4, .int .i64 p.session.time, .slice A5 p.session.words.length Ak5, .slice A6 p.page.lines.length Ak6, .slice A7 p.page.done.length Ak7, .slice A8 p.page.undone.length Ak8] 73)) := (Below.refl _ _).alloc (Nat.le_refl _) _
 have H := Lib.hid (spec_l28Ok_c _ R (h1.alloc _) (h2.alloc _) (h3.alloc _) (h4.alloc _) (h5.alloc _) (h6.alloc _) (h7.alloc _) (h8.alloc _) (h9.alloc _) hp hb)
 unfold deskText
 generalize hd : deskB p = d at H ⊢
 cases d
 · go_enter Tryz.func5, Tryz.ntmps5
   go_wp2_with fail
   refine H.out.mono ?_
   rintro e w1 ⟨rfl, b1⟩
   go_wp2_with fail
   go_ret
   exact ⟨rfl, al.trans (b1.mono al.size)⟩
 · go_enter Tryz.func5, Tryz.ntmps5
   go_wp2_with fail
   refine H.out.mono ?_
   rintro e w1 ⟨rfl, b1⟩
   replace R := R.later b1
   replace al := (al.trans (b1.mono al.size)).drew
   replace R := R.drew
   go_upto_region 4 with fail
   have hS : (fun w' : World => w'.cell? ⟨w.heap.size, 9, none⟩ = some (.slice A3 p.session.strokes.length Ak3) ∧ w'.cell? ⟨w.heap.size, 10, none⟩ = some (.slice A4 p.session.opn.length Ak4) ∧ w'.cell? ⟨w.heap.size, 1, none⟩ = some (.slice A0 p.session.setup.temps.length Ak0) ∧ w'.cell? ⟨w.heap.size, 12, none⟩ = some (.slice A5 p.session.words.length Ak5) ∧ w'.cell? ⟨w.heap.size, 13, none⟩ = some (.slice A6 p.page.lines.length Ak6)) w1.drew := ⟨R.cell' (i := 9) rfl, R.cell' (i := 10) rfl, R.c1, R.cell' (i := 12) rfl, R.cell' (i := 13) rfl⟩
   dsimp only at hS
   refine wp_region_held_drew (S := (fun w' : World => w'.cell? ⟨w.heap.size, 9, none⟩ = some (.slice A3 p.session.strokes.length Ak3) ∧ w'.cell? ⟨w.heap.size, 10, none⟩ = some (.slice A4 p.session.opn.length Ak4) ∧ w'.cell? ⟨w.heap.size, 1, none⟩ = some (.slice A0 p.session.setup.temps.length Ak0) ∧ w'.cell? ⟨w.heap.size, 12, none⟩ = some (.slice A5 p.session.words.length Ak5) ∧ w'.cell? ⟨w.heap.size, 13, none⟩ = some (.slice A6 p.page.lines.length Ak6))) (by kernel_rfl) hS (fun _ => ?_)
   generalize w1.drew = wd at R al hS ⊢
   refine tJ 0 hS ?_
   refine tJ 1 hS ?_
   refine tJ 2 hS ?_
   refine tJ 3 hS ?_
   refine tJ 4 hS ?_
   refine tJ 5 hS ?_
   refine tJ 6 hS ?_
   refine tJ 7 hS ?_
   refine tJ 8 hS ?_
   refine tJ 9 hS ?_
   refine tJ 10 hS ?_
   refine tJ 11 hS ?_
   refine tJ 12 hS ?_
   refine tJ 13 hS ?_
   refine tJ 14 hS ?_
   refine tJ 15 hS ?_
   refine tJ 16 hS ?_
   refine tJ 17 hS ?_
   refine tJ 18 hS ?_
   refine tJ 19 hS ?_
   refine tJ 20 hS ?_
   refine tJ 21 hS ?_
   refine tJ 22 hS ?_
   refine tJ 23 hS ?_
   refine tJ 24 hS ?_
   refine tJ 25 hS ?_
   refine tJ 26 hS ?_
   have HR := deskNs_rep wd (T := 2) HP.out
   have CJ := spec_l03Join_c _ HR (by simp [deskNs]) (fun x hx => by have := hsm x hx; omega)
   replace R := R.alloc (.cells #[.int .i64 (p.session.strokes.length : Int), .int .i64 (p.session.opn.length : Int), .int .i64 (p.session.setup.temps.length : Int), .int .i64 (p.session.words.length : Int), .int .i64 (p.page.lines.length : Int)] 2)
   refine rJ 27 fun K hK => ?_
   go_simp
   refine hK.out _ _ ⟨R.cell' (i := 9) rfl, R.cell' (i := 10) rfl, R.c1, R.cell' (i := 12) rfl, R.cell' (i := 13) rfl⟩ (fun _ => ?_)
   clear hK K
   replace hS := (⟨R.cell' (i := 9) rfl, R.cell' (i := 10) rfl, R.c1, R.cell' (i := 12) rfl, R.cell' (i := 13) rfl⟩ : (wd.alloc (.cells #[.int .i64 (p.session.strokes.length : Int), .int .i64 (p.session.opn.length : Int), .int .i64 (p.session.setup.temps.length : Int), .int .i64 (p.session.words.length : Int), .int .i64 (p.page.lines.length : Int)] 2)).cell? ⟨w.heap.size, 9, none⟩ = some (.slice A3 p.session.strokes.length Ak3) ∧ (wd.alloc (.cells #[.int .i64 (p.session.strokes.length : Int), .int .i64 (p.session.opn.length : Int), .int .i64 (p.session.setup.temps.length : Int), .int .i64 (p.session.words.length : Int), .int .i64 (p.page.lines.length : Int)] 2)).cell? ⟨w.heap.size, 10, none⟩ = some (.slice A4 p.session.opn.length Ak4) ∧ (wd.alloc (.cells #[.int .i64 (p.session.strokes.length : Int), .int .i64 (p.session.opn.length : Int), .int .i64 (p.session.setup.temps.length : Int), .int .i64 (p.session.words.length : Int), .int .i64 (p.page.lines.length : Int)] 2)).cell? ⟨w.heap.size, 1, none⟩ = some (.slice A0 p.session.setup.temps.length Ak0) ∧ (wd.alloc (.cells #[.int .i64 (p.session.strokes.length : Int), .int .i64 (p.session.opn.length : Int), .int .i64 (p.session.setup.temps.length : Int), .int .i64 (p.session.words.length : Int), .int .i64 (p.page.lines.length : Int)] 2)).cell? ⟨w.heap.size, 12, none⟩ = some (.slice A5 p.session.words.length Ak5) ∧ (wd.alloc (.cells #[.int .i64 (p.session.strokes.length : Int), .int .i64 (p.session.opn.length : Int), .int .i64 (p.session.setup.temps.length : Int), .int .i64 (p.session.words.length : Int), .int .i64 (p.page.lines.length : Int)] 2)).cell? ⟨w.heap.size, 13, none⟩ = some (.slice A6 p.page.lines.length Ak6))
   replace al := al.alloc al.size (.cells #[.int .i64 (p.session.strokes.length : Int), .int .i64 (p.session.opn.length : Int), .int .i64 (p.session.setup.temps.length : Int), .int .i64 (p.session.words.length : Int), .int .i64 (p.page.lines.length : Int)] 2)
   generalize wd.alloc (.cells #[.int .i64 (p.session.strokes.length : Int), .int .i64 (p.session.opn.length : Int), .int .i64 (p.session.setup.temps.length : Int), .int .i64 (p.session.words.length : Int), .int .i64 (p.page.lines.length : Int)] 2) = we at R al hS CJ ⊢
   refine rJ 28 fun K hK => ?_
   refine step_call 12 #[.tmp 34, .const (.string { data := #[32] })] _ rfl rfl #[.slice (some ⟨wd.heap.size, 0, none⟩) 5 5, .string ⟨#[32]⟩] Tryz.call12 (by go_simp) CJ ?_
   rintro e w2 ⟨rfl, b2⟩
   refine ⟨_, rfl, ?_⟩
   replace R := R.later b2
   replace al := al.trans (b2.mono al.size)
   replace hS := (⟨R.cell' (i := 9) rfl, R.cell' (i := 10) rfl, R.c1, R.cell' (i := 12) rfl, R.cell' (i := 13) rfl⟩ : w2.cell? ⟨w.heap.size, 9, none⟩ = some (.slice A3 p.session.strokes.length Ak3) ∧ w2.cell? ⟨w.heap.size, 10, none⟩ = some (.slice A4 p.session.opn.length Ak4) ∧ w2.cell? ⟨w.heap.size, 1, none⟩ = some (.slice A0 p.session.setup.temps.length Ak0) ∧ w2.cell? ⟨w.heap.size, 12, none⟩ = some (.slice A5 p.session.words.length Ak5) ∧ w2.cell? ⟨w.heap.size, 13, none⟩ = some (.slice A6 p.page.lines.length Ak6))
   refine bJ hK hS ?_
   clear hK K
   simp only [Act.put, pA, pB, pC]
   refine tJ 29 hS ?_
   refine wpAnyH_done (by kernel_rfl) ?_ _
   clear hS
   go_wp2_with fail
   go_ret
   exact ⟨rfl, al⟩
theorem strs_cells {o : Bool} {e : TypeId} {xs : List ByteArray} {v : Value} {F : List Nat} {w : World} (h : (strs e).rep o w xs [v] F) (h0 : 0 < xs.length) :
 ∃ bk off c, v = .slice (some ⟨bk, off, none⟩) xs.length c ∧ bk < w.heap.size ∧ xs.length ≤ c ∧ ∀ (j : Nat) x, xs[j]? = some x → w.cell? ⟨bk, off + j, none⟩ = some (.string x) := by
 obtain ⟨A, c, rfl, hc, -, hr⟩ := strs_open h
 obtain ⟨b, off, rfl, hb, -, -, -⟩ := hr 0 h0
 refine ⟨b, off, c, rfl, hb, hc, fun j x hx => ?_⟩
 obtain ⟨hj, rfl⟩ := List.getElem?_eq_some_iff.1 hx
 obtain ⟨b', off', e', -, -, h1, -⟩ := hr j hj
 cases e'
 exact h1
theorem infoStD : (Tryz.prog.info? 9).map (fun i => (i.zero, i.size, i.bytes)) = some (some (.string .empty), str.size, 16) := by kernel_rfl
theorem deskWords (p : PDesk) : (deskNs p).map decB = [decB p.session.strokes.length, decB p.session.opn.length, decB p.session.setup.temps.length, decB p.session.words.length, decB p.page.lines.length] := rfl
theorem deskText_join (p : PDesk) : (⟨(Lib.join (((deskNs p).map decB).map (·.data.toList)) [32]).toArray⟩ : ByteArray) = joinK (deskNs p) 5 := by
 rw [deskWords, join_five, deskNs, joinK_five]
set_option maxRecDepth 100000 in
set_option maxHeartbeats 4000000 in
theorem impl_DeskText_p {I : DIds} {o : Bool} {p : PDesk} {v : Value} {F : List Nat} (w : World) (h : DeskIs I o w p v F) (hp : DkSmall p) (hb : DkBytes p) (hT : Tab w) :
 Calls Tryz.prog 7 #[v] w fun e w' => e = .returned (.string (deskText p)) ∧ Below w.heap.size w w' := by
 have hsm := deskNs_small hp
 have HP := Lib.hid hp
 obtain ⟨A0, Ak0, A1, Ak1, A2, Ak2, A3, Ak3, A4, Ak4, A5, Ak5, A6, Ak6, A7, Ak7, A8, Ak8, rfl⟩ := h.shape
 have R := Row.new w 73 #[.int .i64 p.session.setup.band, .slice A0 p.session.setup.temps.length Ak0, .int .i64 p.session.setup.points, .int .i64 p.session.setup.most, .int .i64 p.session.setup.pen, .slice A1 p.session.setup.entries.length Ak1, .int .i64 p.session.setup.dflt, .slice A2 p.session.setup.bigrams.length Ak2, .int .i64 p.session.setup.pause, .slice A3 p.session.strokes.length Ak3, .slice A4 p.session.opn.length Ak4, .int .i64 p.session.time, .slice A5 p.session.words.length Ak5, .slice A6 p.page.lines.length Ak6, .slice A7 p.page.done.length Ak7, .slice A8 p.page.undone.length Ak8]
 have al : Below w.heap.size w (w.alloc (.cells #[.int .i64 p.session.setup.band, .slice A0 p.session.setup.temps.length Ak0, .int .i64 p.session.setup.points, .int .i64 p.session.setup.most, .int .i64 p.session.setup.pen, .slice A1 p.session.setup.entries.length Ak1, .int .i64 p.session.setup.dflt, .slice A2 p.session.setup.bigrams.length Ak2, .int .i64 p.session.setup.pause, .slice A3 p.session.strokes.length Ak3, .slice A4 p.session.opn.length Ak4, .int .i64 p.session.time, .slice A5 p.session.words.length Ak5, .slice A6 p.page.lines.length Ak6, .slice A7 p.page.done.length Ak7, .slice A8 p.page.undone.length Ak8] 73)) := (Below.refl _ _).alloc (Nat.le_refl _) _
 have CV := Lib.hid (impl_ValidDesk_p _ (h.alloc (.cells #[.int .i64 p.session.setup.band, .slice A0 p.session.setup.temps.length Ak0, .int .i64 p.session.setup.points, .int .i64 p.session.setup.most, .int .i64 p.session.setup.pen, .slice A1 p.session.setup.entries.length Ak1, .int .i64 p.session.setup.dflt, .slice A2 p.session.setup.bigrams.length Ak2, .int .i64 p.session.setup.pause, .slice A3 p.session.strokes.length Ak3, .slice A4 p.session.opn.length Ak4, .int .i64 p.session.time, .slice A5 p.session.words.length Ak5, .slice A6 p.page.lines.length Ak6, .slice A7 p.page.done.length Ak7, .slice A8 p.page.undone.length Ak8] 73)) hp hb)
 clear h
 unfold deskText
 generalize hd : deskB p = d at CV ⊢
 go_enter Tryz.func7, Tryz.ntmps7
 go_upto_region 1 with fail
 apply wp_region_lit
 refine wpList_load_mid rfl 73 (.tmp 1) rfl (w.heap.size) 0 rfl _ _ (Row.range R) Tryz.underlying73 rfl (by kernel_rfl) ?_
 go_wp2_with fail
 refine CV.out.mono ?_
 rintro e w1 ⟨rfl, b1⟩
 replace R := R.later b1
 replace al := al.trans (b1.mono al.size)
 cases d
 · go_wp2_with fail
   go_ret
   exact ⟨rfl, al⟩
 · clear CV b1
   have c9 := R.cell' (i := 9) rfl
   have c10 := R.cell' (i := 10) rfl
   have c1 := R.c1
   have c12 := R.cell' (i := 12) rfl
   have c13 := R.cell' (i := 13) rfl
   have HN := Lib.hid (deskNs_rep w1 (T := 3) HP.out)
   have HSM := Lib.hid hsm
   have AL := Lib.hid (al.alloc al.size (.cells #[.int .i64 (p.session.strokes.length : Int), .int .i64 (p.session.opn.length : Int), .int .i64 (p.session.setup.temps.length : Int), .int .i64 (p.session.words.length : Int), .int .i64 (p.page.lines.length : Int)] 3))
   have hT1 := Lib.hid (hT.below (al.alloc al.size (.cells #[.int .i64 (p.session.strokes.length : Int), .int .i64 (p.session.opn.length : Int), .int .i64 (p.session.setup.temps.length : Int), .int .i64 (p.session.words.length : Int), .int .i64 (p.page.lines.length : Int)] 3)))
   clear al hsm
   go_wp2_with fail
   go_loopw [3, 34] (fun l i wr => ∃ (k : Nat) (v : Value) (F : List Nat), l = v ∧ i = .int .i64 k ∧ k ≤ 5 ∧ Hid ((strs 9).rep true wr (((deskNs p).take k).map decB) [v] F ∧ Fresh (w1.heap.size + 1) F ∧ Below (w1.heap.size + 1) (w1.alloc (.cells #[.int .i64 (p.session.strokes.length : Int), .int .i64 (p.session.opn.length : Int), .int .i64 (p.session.setup.temps.length : Int), .int .i64 (p.session.words.length : Int), .int .i64 (p.page.lines.length : Int)] 3)) wr)) (fun _ i _ => 5 - (intOf i).toNat)
   case atStart => exact ⟨0, _, [], rfl, rfl, by omega, Lib.hid ⟨slice_nil _ _ _ _, ⟨List.nodup_nil, by simp⟩, Below.refl _ _⟩⟩
   case round =>
    obtain ⟨k, vk, Fk, rfl, rfl, hk, all⟩ := hrel
    obtain ⟨rep, fr, hb⟩ := all.out
    have hbs := hb.size
    rw [World.size_alloc] at hbs
    obtain ⟨U, un, uc, rfl⟩ := slice_form rep
    by_cases hlt : k < 5
    · have hkl : k < (deskNs p).length := hlt
      obtain ⟨A', c', he, -, -, hr⟩ := nums_open (HN.out.below (by rw [World.size_alloc]; exact hb))
      cases he
      obtain ⟨b, off, e8, hbl, -, q0, -⟩ := hr k (by simpa using hkl)
      cases e8
      rw [List.getElem_map, Nat.zero_add] at q0
      have g1 : (k : Int) < 5 := by omega
      have kw := IntWalk.i64_in ((k : Int) + 1) (by omega)
      have hn := HSM.out _ (List.getElem_mem hkl)
      have CD := Lib.hid (impl_Decimal_c (deskNs p)[k] wr (by omega) (hT1.out.below (by rw [World.size_alloc]; exact hb)))
      have hdz := decB_size (n := (deskNs p)[k]) (by omega)
      have htk : ((deskNs p).take (k + 1)).map decB = ((deskNs p).take k).map decB ++ [decB (deskNs p)[k]] := by rw [List.take_succ_eq_append_getElem hkl, List.map_append]; rfl
      have HTK := Lib.hid htk
      have hlen : (((deskNs p).take k).map decB).length ≤ 5 := by rw [List.length_map, List.length_take]; omega
      have REP := Lib.hid rep
      have FR := Lib.hid fr
      have HB := Lib.hid hb
      generalize (deskNs p)[k] = nk at q0 CD HTK hdz
      clear hr htk rep fr hb all hn
      go_wp2_with fail
      refine CD.out.mono ?_
      rintro e w2 ⟨rfl, b2⟩
      have ht2 := b2.size
      have hok : ∀ s ∈ [decB nk], s.size ≤ maxLen := by intro s hs; simp only [List.mem_singleton] at hs; subst hs; unfold maxLen; omega
      have B2 := Lib.hid b2
      clear q0 b2 CD
      go_wp2_with (at_builtin; refine wpList_append_rep (T := str) (e := 9) (ys := [decB nk]) (ec := [.string (decB nk)]) rfl (.tmp 38) (.tmp 41) rfl Tryz.underlying39 infoStD rfl (by decide) rfl ((REP.out.below B2.out).alloc _) rfl (repL_strs _ hok) (cellsAt_new _ _ _) trivial (by rw [List.append_nil]; exact FR.out.1) (by simp only [List.length_singleton, maxLen]; omega) (by simp only [List.length_singleton]; omega) ?_; intro v3 w3 F3 r3 o3 q3; obtain ⟨V, vn, vc, rfl⟩ := slice_form r3)
      go_roundw
      case rel =>
       refine ⟨k + 1, _, F3, rfl, by go_num, by omega, Lib.hid ⟨by rw [HTK.out]; exact r3, q3 _ (by simpa using FR.out) (by simp; omega), ?_⟩⟩
       have q1 := HB.out.trans (B2.out.mono hbs)
       exact (q1.alloc (by omega) _).trans (o3.below (by simp; omega) FR.out.2)
      case measure => simp [intOf]; omega
    · obtain rfl : k = 5 := by omega
      have hl5 : ((deskNs p).take 5).map decB = (deskNs p).map decB := rfl
      rw [hl5] at rep
      obtain ⟨bk, of, cc, hv, hbk, hcc, hce⟩ := strs_cells rep (by simp [deskNs])
      have hlw : ((deskNs p).map decB).length = 5 := rfl
      rw [hlw] at hv hcc
      cases hv
      have hj := deskText_join p
      have hjz : (Lib.join (((deskNs p).map decB).map (·.data.toList)) [32]).length ≤ 140737488355328 := by
       have h1 := congrArg ByteArray.size hj
       have h2 := joinK_size (xs := deskNs p) (fun x hx => by have := HSM.out x hx; omega) 5
       have h3 : (⟨(Lib.join (((deskNs p).map decB).map (·.data.toList)) [32]).toArray⟩ : ByteArray).size = (Lib.join (((deskNs p).map decB).map (·.data.toList)) [32]).length := by simp [ByteArray.size]
       omega
      have CJ := Join_c bk _ _ ((deskNs p).map decB) ⟨#[32]⟩ wr hce hbk (by rw [hlw]; decide) (by rw [hlw]; exact hcc) hjz
      rw [hlw, show (⟨#[32]⟩ : ByteArray).data.toList = [32] from rfl, hj] at CJ
      have HJ := Lib.hid CJ
      have BB := Lib.hid (AL.out.trans (hb.mono (by have := AL.out.size; rw [World.size_alloc] at this; omega)))
      clear CJ hj hjz hce rep fr hb all HN
      go_wp2_with fail
      refine HJ.out.mono ?_
      rintro e w2 ⟨rfl, b2⟩
      go_wp2_with fail
      go_ret
      exact ⟨rfl, BB.out.trans (b2.mono BB.out.size)⟩
end Go.Proofs.YtboijogahclekaaGreatDoor
