/- Pages: the text of a page, in the program. Conditions: none. -/
import Derived.Test.YtmopioaojdlnkaaDoorPgTextp
namespace Go.Proofs.YtmopioaojdlnkaaDoor
open Go Go.RowKit
theorem ownsRow_later {B n : Nat} {e : TypeId} {v : Value} {xs : List Value} {w w' : World} (h : w.ownsRow B e 1 v n xs) (hb : Below w.heap.size w w') : w'.ownsRow B e 1 v n xs := by
 obtain ⟨hl, h⟩ := h
 refine ⟨hl, ?_⟩
 rcases h with h | ⟨g, cap, cur, hv, h0, hh, h1⟩
 · exact .inl h
 · exact .inr ⟨g, cap, cur, hv, h0, (hb.block g (Array.getElem?_eq_some_iff.1 hh).1).trans hh, h1⟩
theorem isBuilder_later {T e : TypeId} {B b : Nat} {bs : List Value} {w w' : World} (h : Lib.IsBuilder T e B b bs w) (hb : Below w.heap.size w w') : Lib.IsBuilder T e B b bs w' := by
 have key : ∀ p, Lib.BuilderAt T e B b p bs w → Lib.BuilderAt T e B b p bs w' := by
  rintro p ⟨hB, v, hh, hown, hne⟩
  exact ⟨hB, v, (hb.block b (Array.getElem?_eq_some_iff.1 hh).1).trans hh, ownsRow_later hown hb, hne⟩
 exact h.imp (key _) (key _)
theorem JoinW_c {o : Bool} {e : TypeId} {xs : List ByteArray} {X : Option Addr} {x : Nat} {F : List Nat} (w : World) (h : (strs e).rep o w xs [.slice X xs.length x] F) (hx : xs.length ≤ 1000) (hs : ∀ s ∈ xs, s.size ≤ 1000) :
 Calls Tryd.prog 29 #[.slice X xs.length x, .string ⟨#[32]⟩] w fun e w' => e = .returned (.string ⟨(joinB xs).toArray⟩) ∧ Below w.heap.size w w' := by
 obtain ⟨A, c, he, hc1, hc2, hr⟩ := strs_open h
 cases he
 rcases Nat.eq_zero_or_pos xs.length with h0 | h0
 · have hn := List.eq_nil_of_length_eq_zero h0
   subst hn
   refine (Join_none_c X x ⟨#[32]⟩ w).mono ?_
   rintro e w' ⟨rfl, rfl⟩
   exact ⟨rfl, Below.refl _ _⟩
 · obtain ⟨b, off, rfl, hbb, _⟩ := hr 0 h0
   have hj := joinB_len hs
   have h4 : xs.length * (1000 + 1) ≤ 1000 * 1001 := Nat.mul_le_mul_right _ hx
   refine (Join_c b off x xs ⟨#[32]⟩ w (fun j y hy => ?_) hbb (by omega) hc1 (by show (joinB xs).length ≤ _; omega)).mono ?_
   · obtain ⟨hj, rfl⟩ := List.getElem?_eq_some_iff.1 hy
     obtain ⟨b', off', e', _, _, h0', _⟩ := hr j hj
     cases e'
     exact h0'
   · rintro e w' ⟨rfl, hb⟩
     exact ⟨rfl, hb⟩
set_option maxRecDepth 100000 in
set_option maxHeartbeats 2000000 in
theorem impl_PageText_c {el es : TypeId} {o : Bool} {p : PPage} {v : Value} {F : List Nat} (w : World) (h : PageIs el es o w p v F) (hp : PLaw p) :
 Calls Tryd.prog 13 #[v] w fun e w' => e = .returned (.string (pageText p)) ∧ Below w.heap.size w w' := by
 obtain ⟨A1, k1, A2, k2, A3, k3, rfl⟩ := h.shape
 obtain ⟨F1, F2, F3, -, h1, h2, h3⟩ := h.lines
 clear h2 h3
 have HV := Lib.hid (fun w' (q : PageIs el es o w' p (.agg #[.slice A1 p.lines.length k1, .slice A2 p.done.length k2, .slice A3 p.undone.length k3]) F) => impl_ValidPage_c w' q hp.s hp.b)
 cases hv : validB p
 · have ht : pageText p = .empty := by simp [pageText, hv]
   rw [ht]
   clear ht
   go_enter Tryd.func13, Tryd.ntmps13
   go_wp2_with fail
   refine (HV.out _ (h.alloc _)).mono ?_
   rintro e w1 ⟨rfl, b1⟩
   go_wp2_with fail
   go_ret
   exact ⟨rfl, al1m b1⟩
 · obtain ⟨hok, -, -, -, -⟩ := validB_parts hv
   have ht : pageText p = ⟨(textL p.lines).toArray⟩ := by simp [pageText, hv]
   rw [ht]
   clear ht
   go_enter Tryd.func13, Tryd.ntmps13
   go_wp2_with fail
   refine (HV.out _ (h.alloc _)).mono ?_
   rintro e w1 ⟨rfl, b1⟩
   have R1 := (Row.new w 27 #[.slice A1 p.lines.length k1, .slice A2 p.done.length k2, .slice A3 p.undone.length k3]).later b1
   have q0 := R1.c0
   have lw := R1.lt
   have g1 := (h1.alloc (.cells #[.slice A1 p.lines.length k1, .slice A2 p.done.length k2, .slice A3 p.undone.length k3] 27)).below b1
   obtain ⟨A, c, he, hc1, hc2, hr⟩ := pLines_open g1
   cases he
   have hx := hok.few
   have hfb := Lib.fresh_isBuilder 60 5 w1
   clear h h1 g1 HV
   go_wp2_with fail
   go_loopw [12] (fun i wr => ∃ k : Nat, k ≤ p.lines.length ∧ i = .int .i64 k ∧ Lib.IsBuilder 60 5 w1.heap.size w1.heap.size (Lib.byteCells (textL (p.lines.take k))) wr ∧ Below w1.heap.size w1 wr) (fun i _ => p.lines.length - (intOf i).toNat)
   case atStart => exact ⟨0, Nat.zero_le _, rfl, by simpa [textL, Lib.byteCells] using hfb, (Below.refl _ _).alloc (Nat.le_refl _) _⟩
   case round =>
    obtain ⟨k, hk, rfl, hib, hb⟩ := hrel
    have hbs := hb.size
    by_cases hlt : k < p.lines.length
    · obtain ⟨b', off, u, Fk, rfl, hbb, _, hrk, _, h0⟩ := hr k hlt
      have hw := hok.each _ (List.getElem_mem hlt)
      have hs := hok.word _ (List.getElem_mem hlt)
      rw [← hb.cell (p := ⟨b', _, none⟩) hbb] at h0
      obtain ⟨X, x, rfl⟩ := slice_len hrk
      have hrk' := hrk.below hb
      have C := Lib.hid (fun w' (q : (strs 9).rep o w' p.lines[k] [.slice X p.lines[k].length x] Fk) => JoinW_c w' q (by omega) (fun s hs' => by have := (isWord_size (hs s hs')).2; omega))
      have hlen : (textL (p.lines.take k)).length ≤ 4000 := by
       have h2 := textL_len hok hk
       omega
      have hj : (joinB p.lines[k]).length ≤ 200 := by
       have h3 := joinB_len (xs := p.lines[k]) (n := 10) (fun s hs' => (isWord_size (hs s hs')).2)
       have h4 : p.lines[k].length * (10 + 1) ≤ 12 * 11 := Nat.mul_le_mul_right _ hw
       omega
      have hsz : ByteArray.size ⟨(joinB p.lines[k]).toArray⟩ ≤ 200 := by rw [toList_size]; simpa using hj
      have hn := Lib.hid (textL_succ hlt)
      generalize hJ : (⟨(joinB p.lines[k]).toArray⟩ : ByteArray) = J at C hsz
      have HJ := Lib.hid (show J.data.toList = joinB p.lines[k] by rw [← hJ])
      have hnl : (J ++ ⟨#[10]⟩ : ByteArray).size ≤ 201 := by rw [toList_size, bapp]; simp; rw [toList_size] at hsz; simp at hsz; omega
      have HIB := Lib.hid hib
      have HRK := Lib.hid hrk'
      have HNL := Lib.hid hnl
      clear hr hrk hrk' hs hJ hib hnl
      go_wp2_with fail
      refine (C.out _ (HRK.out.alloc _)).mono ?_
      rintro e w2 ⟨rfl, b2⟩
      have ib2 := isBuilder_later (isBuilder_later HIB.out ((Below.refl _ _).alloc (Nat.le_refl _) (.cells #[.slice X p.lines[k].length x] 56))) b2
      have hb2 := (hb.alloc hbs _).trans (b2.mono (by simp; omega))
      have hbs2 := hb2.size
      go_wp2_with fail
      refine (WriteString_c _ _ _ _ _ ib2 (by rw [Lib.byteCells_length]; have := HNL.out; omega) hbs2).mono ?_
      rintro e w3 ⟨rfl, i3, b3⟩
      go_wp2_with fail
      go_roundw
      case rel =>
       refine ⟨k + 1, by omega, by go_num, .inr ?_, hb2.trans b3⟩
       rw [hn.out, Lib.byteCells_append]
       rw [Lib.strCells_eq, bapp, HJ.out] at i3
       exact i3
      case measure => simp [intOf]; omega
    · obtain rfl : k = p.lines.length := by omega
      rw [List.take_length] at hib
      have HIB := Lib.hid hib
      clear hib hr
      go_wp2_with fail
      refine (String_c _ _ _ _ HIB.out hbs).mono ?_
      rintro e w2 ⟨rfl, b2⟩
      go_wp2_with fail
      go_ret
      exact ⟨rfl, (al1m b1).trans ((hb.trans b2).mono (by omega))⟩
end Go.Proofs.YtmopioaojdlnkaaDoor
