/- The program's table of distances. Conditions: none. -/
import Derived.Test.YtelkggafmnckoaaEvDist
namespace Go.Proofs.Ytelkggafmnckoaa
open Go Go.RowKit

/-- The rows from the s-th on are made; row x is block G x. -/
def orow (n s m : Nat) (G : Nat → Nat) : List Value := (List.range (n + 1)).map fun x => if s ≤ x then .slice (some ⟨G x, 0, none⟩) (m + 1) (m + 1) else .slice none 0 0
theorem orow_len (n s m : Nat) (G : Nat → Nat) : (orow n s m G).length = n + 1 := by simp [orow]
theorem orow_get {n s m : Nat} {G : Nat → Nat} {x : Nat} (h : x ≤ n) (hs : s ≤ x) : (orow n s m G)[x]? = some (.slice (some ⟨G x, 0, none⟩) (m + 1) (m + 1)) := by
  have : x < n + 1 := by omega
  simp [orow, this, hs]
theorem orow_set {n m i N : Nat} {G : Nat → Nat} : (orow n (i + 1) m G).set i (.slice (some ⟨N, 0, none⟩) (m + 1) (m + 1)) = orow n i m (fun x => if x = i then N else G x) := by
  apply List.ext_getElem
  · simp [orow]
  · intro y h1 h2
    rw [List.getElem_set]
    simp only [orow, List.getElem_map, List.getElem_range]
    by_cases e : i = y
    · subst e; simp
    · have e' : ¬ y = i := fun h => e h.symm
      have e2 : (i + 1 ≤ y) ↔ (i ≤ y) := by omega
      simp [e, e', e2]
theorem orow_none (n m : Nat) (G : Nat → Nat) : (List.replicate (n + 1) (Value.slice none 0 0)) = orow n (n + 1) m G := by
  apply List.ext_getElem
  · simp [orow]
  · intro y h1 h2
    simp at h1
    have : ¬ (n + 1 ≤ y) := by omega
    simp [orow, this]

/-- A table of distances that is whole from row s on. -/
def Tab (w : World) (eo ei : TypeId) (a b : ByteArray) (g s : Nat) (G : Nat → Nat) : Prop :=
  Row w g eo (orow a.size s b.size G) ∧ ∀ x, s ≤ x → x ≤ a.size → Row w (G x) ei (ints (b.size + 1) fun y => D a b x y) ∧ G x ≠ g
/-- Row i's numbers from the t-th on. -/
def drow (a b : ByteArray) (i t : Nat) : Nat → Int := fun y => if t ≤ y then D a b i y else 0
theorem drow_next {a b : ByteArray} {i j : Nat} {v : Int} (hv : v = D a b i j) : ints (b.size + 1) (fun y => if y = j then v else drow a b i (j + 1) y) = ints (b.size + 1) (drow a b i j) := by
  apply ints_congr
  intro x _
  unfold drow
  by_cases e : x = j
  · subst e; simp [hv]
  · rw [if_neg e]
    by_cases h : j + 1 ≤ x
    · rw [if_pos h, if_pos (by omega)]
    · rw [if_neg h, if_neg (by omega)]

/-- What 'distances' and the reference's table leave: a table, read by its rows. -/
def GivesTab (eo ei : TypeId) (a b : ByteArray) (w : World) (e : Ending) (w' : World) : Prop :=
  ∃ g G, e = .returned (.slice (some ⟨g, 0, none⟩) (a.size + 1) (a.size + 1)) ∧ Tab w' eo ei a b g 0 G ∧ Below w.heap.size w w'

set_option maxRecDepth 100000 in
set_option maxHeartbeats 4000000 in
theorem impl_distances_c (a b : ByteArray) (w : World) (ha : a.size ≤ 1048576) (hb : b.size ≤ 1048576) :
    Calls Try.prog 67 #[.string a, .string b] w (GivesTab 68 2 a b w) := by
  have hmo := make_run (P := Try.prog) (t := 94) (e := 68) (z := .slice none 0 0) (size := 1) (bytes := 24) Try.underlying94 (by kernel_rfl) (a.size + 1) ((a.size : Int) + 1) (by omega) (by omega) (by unfold maxLen; omega)
  have hmi := make_run (P := Try.prog) (t := 68) (e := 2) (z := .int .i64 0) (size := 1) (bytes := 8) Try.underlying68 (by kernel_rfl) (b.size + 1) ((b.size : Int) + 1) (by omega) (by omega) (by unfold maxLen; omega)
  go_enter Try.func67, Try.ntmps67
  go_wp2_with fail
  clear hmo
  go_loopw [6] (fun z wr => ∃ (s : Nat) (y : Int) (G : Nat → Nat), s ≤ a.size + 1 ∧ Hid (y = (s : Int) - 1) ∧ z = .int .i64 y ∧ Tab wr 68 2 a b w.heap.size s G ∧ Below w.heap.size w wr) (fun z _ => (intOf z + 1).toNat)
  case atStart =>
    refine ⟨a.size + 1, a.size, fun _ => 0, Nat.le_refl _, (by show _ = _; omega), rfl, ⟨?_, fun x h1 h2 => by omega⟩, (Below.refl _ _).alloc (Nat.le_refl _) _⟩
    have R := Row.new w 68 (madeCells #[Value.slice none 0 0] ((a.size + 1) * 1))
    rw [Nat.mul_one, toList_madeCells_one, orow_none a.size b.size (fun _ => 0)] at R
    exact R
  case round =>
    obtain ⟨s, y, G, hs, hy, rfl, htab, hbw⟩ := hrel
    have hbs := hbw.size
    cases s with
    | zero =>
      obtain rfl : y = -1 := by have := hy.out; omega
      have HT := Lib.hid htab
      clear htab hy
      go_wp2_with fail
      go_ret
      exact ⟨w.heap.size, G, rfl, HT.out, hbw⟩
    | succ i =>
      obtain rfl : y = (i : Int) := by have := hy.out; omega
      have hrow := htab.1
      have hgl := hrow.lt
      obtain ⟨⟨v0, hv0⟩, hf0⟩ := hrow.can (i := i) (by rw [orow_len]; omega)
      have HT := Lib.hid htab
      clear htab hy hrow
      go_wp2_with fail
      clear hmi hv0 hf0
      obtain ⟨wo, rfl⟩ : ∃ wo : World, wo = wr := ⟨_, rfl⟩
      go_loopw [7] (fun z wq => ∃ (t : Nat) (y : Int), t ≤ b.size + 1 ∧ Hid (y = (t : Int) - 1) ∧ z = .int .i64 y ∧ Row wq w.heap.size 68 (orow a.size i b.size (fun x => if x = i then wo.heap.size else G x)) ∧ Row wq wo.heap.size 2 (ints (b.size + 1) (drow a b i t)) ∧
          (∀ x, i + 1 ≤ x → x ≤ a.size → Row wq (G x) 2 (ints (b.size + 1) fun y => D a b x y) ∧ G x ≠ w.heap.size ∧ G x ≠ wo.heap.size) ∧ Below w.heap.size w wq) (fun z _ => (intOf z + 1).toNat)
      case atStart =>
        have es : (wo.setCell ⟨w.heap.size, i, none⟩ (.slice (some ⟨wo.heap.size, 0, none⟩) (b.size + 1) (b.size + 1))).heap.size = wo.heap.size := by simp [World.setCell]
        refine ⟨b.size + 1, b.size, Nat.le_refl _, (by show _ = _; omega), rfl, ?_, ?_, fun x h1 h2 => ?_, (hbw.setCell (Nat.le_refl _) _).alloc (by rw [es]; exact hbs) _⟩
        · have R := (HT.out.1.set i (.slice (some ⟨wo.heap.size, 0, none⟩) (b.size + 1) (b.size + 1))).alloc (.cells (madeCells #[Value.int .i64 0] (b.size + 1)) 2)
          rw [orow_set] at R
          exact R
        · have R := (Row.new (wo.setCell ⟨w.heap.size, i, none⟩ (.slice (some ⟨wo.heap.size, 0, none⟩) (b.size + 1) (b.size + 1))) 2 (madeCells #[Value.int .i64 0] ((b.size + 1) * 1)))
          rw [madeCells_ints, Nat.mul_one, es] at R
          rw [ints_congr (g := fun _ => 0) (fun x hx => by unfold drow; rw [if_neg (by omega)])]
          exact R
        · obtain ⟨h3, h4⟩ := HT.out.2 x h1 h2
          have := h3.lt
          exact ⟨(h3.far (p := ⟨w.heap.size, i, none⟩) h4 _).alloc _, h4, by omega⟩
      case round =>
        obtain ⟨t, y, ht, hy, rfl, hout, hin, hold, hbq⟩ := hrel
        have hbqs := hbq.size
        cases t with
        | zero =>
          obtain rfl : y = -1 := by have := hy.out; omega
          have HO := Lib.hid hout
          have HI := Lib.hid hin
          have HX := Lib.hid hold
          clear hy hout hin hold
          go_wp2_with fail
          go_roundw
          case rel =>
            refine ⟨i, (i : Int) - 1, (fun x => if x = i then wo.heap.size else G x), by omega, rfl, rfl, ⟨HO.out, fun x h1 h2 => ?_⟩, hbq⟩
            by_cases e : x = i
            · subst e
              simp only [if_true]
              refine ⟨?_, by omega⟩
              have R := HI.out
              rw [ints_congr (g := fun y => (D a b x y : Int)) (fun y _ => by unfold drow; rw [if_pos (by omega)])] at R
              exact R
            · simp only [if_neg e]
              obtain ⟨h3, h4, _⟩ := HX.out x (by omega) h2
              exact ⟨h3, h4⟩
          case measure => simp [intOf] <;> omega
        | succ j =>
          obtain rfl : y = (j : Int) := by have := hy.out; omega
          have hc0 := hout.cell' (orow_get (x := i) (by omega) (Nat.le_refl i))
          simp only [if_true] at hc0
          obtain ⟨⟨v0, hv0⟩, hf0⟩ := hin.can (i := j) (by rw [ints_len]; omega)
          have DONE : ∀ (v : Int) (wf : World), wf.heap = (wr.setCell ⟨wo.heap.size, j, none⟩ (.int .i64 v)).heap → Below w.heap.size w wf → v = D a b i j → ∃ (t : Nat) (y : Int), t ≤ b.size + 1 ∧ Hid (y = (t : Int) - 1) ∧ Value.int .i64 ((j : Int) - 1) = .int .i64 y ∧ Row wf w.heap.size 68 (orow a.size i b.size (fun x => if x = i then wo.heap.size else G x)) ∧ Row wf wo.heap.size 2 (ints (b.size + 1) (drow a b i t)) ∧
              (∀ x, i + 1 ≤ x → x ≤ a.size → Row wf (G x) 2 (ints (b.size + 1) fun y => D a b x y) ∧ G x ≠ w.heap.size ∧ G x ≠ wo.heap.size) ∧ Below w.heap.size w wf := by
            intro v wf hwf hbf hv
            have MV : ∀ {g e cs}, Row (wr.setCell ⟨wo.heap.size, j, none⟩ (.int .i64 v)) g e cs → Row wf g e cs := fun h => by unfold Row at h ⊢; rw [hwf]; exact h
            refine ⟨j, (j : Int) - 1, by omega, rfl, rfl, MV (hout.far (p := ⟨wo.heap.size, j, none⟩) (by show w.heap.size ≠ wo.heap.size; omega) _), MV ?_, fun x h1 h2 => ?_, hbf⟩
            · have R := hin.set j (.int .i64 v)
              rw [ints_set, drow_next hv] at R
              exact R
            · obtain ⟨h3, h4, h5⟩ := hold x h1 h2
              exact ⟨MV (h3.far (p := ⟨wo.heap.size, j, none⟩) h5 _), h4, h5⟩
          have HD := Lib.hid DONE
          have m1 : (j : Int) < (b.size : Int) + 1 := by omega
          have m2 : (i : Int) < (a.size : Int) + 1 := by omega
          by_cases hia : i = a.size
          · have g1 : ((i : Int) == (a.size : Int)) = true := by simp [hia]
            have HV := Lib.hid (show (b.size : Int) - (j : Int) = D a b i j by rw [hia, D_lastI]; omega)
            clear hia DONE hout hin hold hy
            go_wp2_with fail
            go_roundw
            case rel => exact HD.out _ _ rfl (hbq.setCell (by simpa using hbs) _) HV.out
            case measure => simp [intOf] <;> omega
          · have g1 : ((i : Int) == (a.size : Int)) = false := by simp; omega
            have hil : i < a.size := by omega
            have n2 : (i : Int) < (a.size : Int) := by omega
            clear hia
            by_cases hjb : j = b.size
            · have g2 : ((j : Int) == (b.size : Int)) = true := by simp [hjb]
              have HV := Lib.hid (show (a.size : Int) - (i : Int) = D a b i j by rw [hjb, D_lastJ]; omega)
              clear hjb DONE hout hin hold hy
              go_wp2_with fail
              go_roundw
              case rel => exact HD.out _ _ rfl (hbq.setCell (by simpa using hbs) _) HV.out
              case measure => simp [intOf] <;> omega
            · have g2 : ((j : Int) == (b.size : Int)) = false := by simp; omega
              have hjl : j < b.size := by omega
              have n1 : (j : Int) < (b.size : Int) := by omega
              clear hjb
              have hc1 := hout.cell' (orow_get (x := i + 1) (by omega) (show i ≤ i + 1 by omega))
              simp only [show ¬ (i + 1 = i) from by omega, if_false] at hc1
              obtain ⟨hr1, _, _⟩ := hold (i + 1) (Nat.le_refl _) (by omega)
              have c11 := hr1.cell' (ints_get (f := fun y => (D a b (i + 1) y : Int)) (n := b.size + 1) (x := j + 1) (by omega))
              have c10 := hr1.cell' (ints_get (f := fun y => (D a b (i + 1) y : Int)) (n := b.size + 1) (x := j) (by omega))
              have c01 := hin.cell' (ints_get (f := drow a b i (j + 1)) (n := b.size + 1) (x := j + 1) (by omega))
              rw [show drow a b i (j + 1) (j + 1) = (D a b i (j + 1) : Int) by unfold drow; rw [if_pos (by omega)]] at c01
              have d11 := D_le a b (i + 1) (j + 1)
              have d10 := D_le a b (i + 1) j
              have d01 := D_le a b i (j + 1)
              have HS := sameAt_eq hil hjl
              have i3 : (0 : Int) ≤ (j : Int) + 1 := by omega
              have i4 : ((j : Int) + 1).toNat = j + 1 := by omega
              have i5 : IntKind.i64.wrap ((j : Int) + 1) = (j : Int) + 1 := IntWalk.i64_in _ (by omega)
              have j3 : (0 : Int) ≤ (i : Int) + 1 := by omega
              have j4 : ((i : Int) + 1).toNat = i + 1 := by omega
              have j5 : IntKind.i64.wrap ((i : Int) + 1) = (i : Int) + 1 := IntWalk.i64_in _ (by omega)
              cases hs : sameAt a b i j
              · have HV := Lib.hid (D_other hil hjl hs)
                rw [hs] at HS
                have gs := HS.symm
                clear HS hs DONE hout hin hold hy hr1
                go_wp2_with fail
                go_quiet (fail)
                obtain ⟨wp, HW⟩ : ∃ wp, Hid (wp = wr.drewN nq) := ⟨_, rfl⟩
                rw [show wr.drewN nq = wp from HW.out.symm]
                have ec : ∀ p, wp.cell? p = wr.cell? p := fun p => by rw [HW.out]; rfl
                have ef : ∀ p, wp.frozen? p = wr.frozen? p := fun p => by rw [HW.out]; rfl
                rw [← ec] at hc0 hc1 c11 c10 c01 hv0
                rw [← ef] at hf0
                clear ec ef
                go_wp2_with fail
                go_still_tail 33, (by kernel_rfl)
                clear i3 i4 i5 j3 j4 j5
                go_wp2_with fail
                go_roundw
                case rel =>
                  have hw := HW.out
                  subst hw
                  exact HD.out _ _ rfl (((below_drewN hbq nq).setCell (by simpa using hbs) _).drew) (by rw [HV.out]; (repeat' split) <;> omega)
                case measure => simp [intOf] <;> omega
              · have HV := Lib.hid (D_same hil hjl hs)
                rw [hs] at HS
                have gs := HS.symm
                clear HS hs DONE hout hin hold hy hr1
                go_wp2_with fail
                go_quiet (fail)
                obtain ⟨wp, HW⟩ : ∃ wp, Hid (wp = wr.drewN nq) := ⟨_, rfl⟩
                rw [show wr.drewN nq = wp from HW.out.symm]
                have ec : ∀ p, wp.cell? p = wr.cell? p := fun p => by rw [HW.out]; rfl
                have ef : ∀ p, wp.frozen? p = wr.frozen? p := fun p => by rw [HW.out]; rfl
                rw [← ec] at hc0 hc1 c11 c10 c01 hv0
                rw [← ef] at hf0
                clear ec ef
                go_wp2_with fail
                go_still_tail 15, (by kernel_rfl)
                clear i3 i4 i5 j3 j4 j5
                go_wp2_with fail
                go_roundw
                case rel =>
                  have hw := HW.out
                  subst hw
                  exact HD.out _ _ rfl (((below_drewN hbq nq).setCell (by simpa using hbs) _).drew) (by rw [HV.out])
                case measure => simp [intOf] <;> omega
end Go.Proofs.Ytelkggafmnckoaa
