/- The walk of the law FnParses. Conditions: none. -/
import Derived.Test.YtmopioaojdlnkaaPsNp
import Derived.Test.YtmopioaojdlnkaaPuIp
import Derived.Test.YtmopioaojdlnkaaRd6p
namespace Go.Proofs.Ytmopioaojdlnkaa
open Go Go.RowKit

set_option maxRecDepth 100000 in
set_option maxHeartbeats 8000000 in
theorem law_FnParses {e : TypeId} {code : List UInt8} {v : Value} {F : List Nat} (w : World) (h : (byte.slice e).rep false w code [v] F) :
 Calls Try.prog 3 #[v] w fun e' w' => e' = .returned (.bool true) ∧ Below w.heap.size w w' := by
 have hv := h
 obtain ⟨A, c, rfl⟩ := slice_len h
 have cb := f6big_c (w := w) h
 by_cases hbig : 4096 < code.length
 · rw [decide_eq_true hbig] at cb
   have CB := Lib.hid cb
   clear cb
   go_enter Try.func3, Try.ntmps3
   go_wp2_with fail
   refine CB.out.mono ?_
   rintro e w1 ⟨rfl, rfl⟩
   go_wp2_with fail
   go_ret
   exact ⟨rfl, Below.refl _ _⟩
 · rw [decide_eq_false hbig] at cb
   have CB := Lib.hid cb
   have CD := Lib.hid (spec_DrawParseSymbols_c w h (by omega))
   have CS := Lib.hid (fun w' (b : Below w.heap.size w w') => spec_DrawTreeCost_c w' (h.below b) (by omega))
   clear cb h hv hbig
   go_enter Try.func3, Try.ntmps3
   go_wp2_with fail
   refine CB.out.mono ?_
   rintro e w1 ⟨rfl, rfl⟩
   go_wp2_with fail
   refine CD.out.mono ?_
   rintro e w1 ⟨xs, vl, G, rfl, rep, -, hl, sm, b1⟩
   have hx : xs.length ≤ 1048576 := by omega
   have hzx : ∀ c ∈ xs, c.label.size ≤ 1048576 := fun c hc => by have := (sm c hc).2; omega
   have HZX := Lib.hid hzx
   clear hzx
   obtain ⟨Al, cl, rfl⟩ := slice_len rep
   have REP := Lib.hid rep
   have BB := Lib.hid b1
   clear rep sm b1 CD CB
   have told := told_cases xs
   have T2 := Lib.hid told
   clear told
   have C1 := Lib.hid (impl_ParseSymbols_c w1 REP.out hx HZX.out)
   go_wp2_with fail
   refine C1.out.mono ?_
   rintro e w2 ⟨vn, H1, rfl, repn, -, b2⟩
   obtain ⟨A4, c4, rfl⟩ := slice_len repn
   replace REP := Lib.hid (REP.out.below b2)
   replace BB := Lib.hid (BB.out.trans (b2.mono BB.out.size))
   have R4 := Row.new w2 28 #[.slice A4 (parseN xs).length c4]
   have RN := Lib.hid (repn.alloc (.cells #[.slice A4 (parseN xs).length c4] 28))
   replace REP := Lib.hid (REP.out.alloc (.cells #[.slice A4 (parseN xs).length c4] 28))
   replace BB := Lib.hid (BB.out.alloc BB.out.size (.cells #[.slice A4 (parseN xs).length c4] 28))
   clear b2 repn C1
   go_upto_region 5 with fail
   generalize w2.alloc (.cells #[.slice A4 (parseN xs).length c4] 28) = w3 at R4 RN REP BB ⊢
   generalize w2.heap.size = g4 at R4 ⊢
   have C2 := Lib.hid (spec_ParseSymbols_c w3 REP.out hx HZX.out)
   go_wp2_with fail
   refine C2.out.mono ?_
   rintro e w4 ⟨vn, H3, rfl, repn, -, b2⟩
   obtain ⟨A7, c7, rfl⟩ := slice_len repn
   replace R4 := R4.later b2
   replace REP := Lib.hid (REP.out.below b2)
   replace RN := Lib.hid (RN.out.below b2)
   replace BB := Lib.hid (BB.out.trans (b2.mono BB.out.size))
   have R7 := Row.new w4 28 #[.slice A7 (parseN xs).length c7]
   have RM := Lib.hid (repn.alloc (.cells #[.slice A7 (parseN xs).length c7] 28))
   replace R4 := R4.alloc (.cells #[.slice A7 (parseN xs).length c7] 28)
   replace RN := Lib.hid (RN.out.alloc (.cells #[.slice A7 (parseN xs).length c7] 28))
   replace REP := Lib.hid (REP.out.alloc (.cells #[.slice A7 (parseN xs).length c7] 28))
   replace BB := Lib.hid (BB.out.alloc BB.out.size (.cells #[.slice A7 (parseN xs).length c7] 28))
   clear b2 repn C2
   go_upto_region 6 with fail
   generalize w4.alloc (.cells #[.slice A7 (parseN xs).length c7] 28) = w5 at R4 R7 RN RM REP BB ⊢
   generalize w4.heap.size = g7 at R7 ⊢
   have C3 := Lib.hid (impl_CountTrees_c w5 REP.out hx HZX.out)
   go_wp2_with fail
   refine C3.out.mono ?_
   rintro e w6 ⟨rfl, b2⟩
   replace R4 := R4.later b2
   replace R7 := R7.later b2
   replace REP := Lib.hid (REP.out.below b2)
   replace RN := Lib.hid (RN.out.below b2)
   replace RM := Lib.hid (RM.out.below b2)
   replace BB := Lib.hid (BB.out.trans (b2.mono BB.out.size))
   clear b2 C3
   have C4 := Lib.hid (spec_CountTrees_c w6 REP.out hx HZX.out)
   go_wp2_with fail
   refine C4.out.mono ?_
   rintro e w7 ⟨rfl, b2⟩
   replace R4 := R4.later b2
   replace R7 := R7.later b2
   replace REP := Lib.hid (REP.out.below b2)
   replace RN := Lib.hid (RN.out.below b2)
   replace RM := Lib.hid (RM.out.below b2)
   replace BB := Lib.hid (BB.out.trans (b2.mono BB.out.size))
   clear b2 C4
   have hsm := parseN_small xs
   have C5 := spec_SameTree_c w7 RN.out RM.out (by omega) (by omega)
   rw [decide_eq_true rfl] at C5
   have C6 := Lib.hid C5
   clear C5
   have q4 := R4.cell' (i := 0) rfl
   have q7 := R7.cell' (i := 0) rfl
   have hcL : (parseL xs != parseL xs) = false := by simp
   have hcN : (countN xs != countN xs) = false := by simp
   rcases T2.out with ⟨k1, k2, k3⟩ | ⟨k1, k2, k3⟩ | ⟨k1, k2, k3⟩
   · clear T2
     go_wp2_with fail
     refine C6.out.mono ?_
     rintro e w8 ⟨rfl, b2⟩
     clear q4 q7
     replace R4 := R4.later b2
     replace REP := Lib.hid (REP.out.below b2)
     replace RN := Lib.hid (RN.out.below b2)
     replace BB := Lib.hid (BB.out.trans (b2.mono BB.out.size))
     clear b2 C6 RM R7
     have CT := Lib.hid (CS.out w8 BB.out)
     clear CS
     go_wp2_with fail
     refine CT.out.mono ?_
     rintro e v1 ⟨ys, ms, vy, vt, G2, H2, rfl, repy, rept, -, -, hly, smy, hm, c1⟩
     replace c1 := Lib.hid (BB.out.trans (c1.mono BB.out.size))
     obtain ⟨Ay, cy, rfl⟩ := slice_len repy
     obtain ⟨At, ct, rfl⟩ := slice_len rept
     have hy : ys.length ≤ 1048576 := by omega
     have hzy : ∀ c ∈ ys, c.label.size ≤ 1048576 := fun c hc => by have := (smy c hc).2; omega
     have HZ := Lib.hid hzy
     clear hzy
     have R17 := Row.new v1 28 #[.slice At ms.length ct]
     have RY := Lib.hid (repy.alloc (.cells #[.slice At ms.length ct] 28))
     have RT := Lib.hid (rept.alloc (.cells #[.slice At ms.length ct] 28))
     replace c1 := Lib.hid (c1.out.alloc c1.out.size (.cells #[.slice At ms.length ct] 28))
     clear repy rept smy CT
     go_upto_region 17 with fail
     generalize v1.alloc (.cells #[.slice At ms.length ct] 28) = v2 at R17 RY RT c1 ⊢
     generalize v1.heap.size = g17 at R17 ⊢
     have r17 := R17.cell' (i := 0) rfl
     have D1 := Lib.hid (impl_TreeCost_c v2 RY.out RT.out hy HZ.out)
     go_wp2_with fail
     refine D1.out.mono ?_
     rintro e v3 ⟨rfl, d1⟩
     replace R17 := R17.later d1
     replace RY := Lib.hid (RY.out.below d1)
     replace RT := Lib.hid (RT.out.below d1)
     replace c1 := Lib.hid (c1.out.trans (d1.mono c1.out.size))
     replace r17 := R17.cell' (i := 0) rfl
     clear d1 D1
     have D2 := Lib.hid (spec_TreeCost_c v3 RY.out RT.out hy HZ.out)
     go_wp2_with fail
     refine D2.out.mono ?_
     rintro e v4 ⟨rfl, d1⟩
     replace R17 := R17.later d1
     replace RY := Lib.hid (RY.out.below d1)
     replace RT := Lib.hid (RT.out.below d1)
     replace c1 := Lib.hid (c1.out.trans (d1.mono c1.out.size))
     replace r17 := R17.cell' (i := 0) rfl
     clear d1 D2
     have hcc : (costR ys ms != costR ys ms) = false := by simp
     have hci := is_ask ys ms
     have D3 := impl_IsTreeOf_c v4 RY.out RT.out hy HZ.out
     rw [hci] at D3
     clear hci
     rcases ask_cases ys ms with ka | ka | ka
     · have D4 := Lib.hid D3
       simp only [ka, decide_true] at D3
       have D5 := Lib.hid D3
       clear D3 D4
       go_wp2_with fail
       refine D5.out.mono ?_
       rintro e v5 ⟨rfl, d1⟩
       replace RY := Lib.hid (RY.out.below d1)
       replace c1 := Lib.hid (c1.out.trans (d1.mono c1.out.size))
       clear d1 D5 r17 R17
       obtain ⟨kp, kl⟩ := told_least ka
       have D6 := Lib.hid (impl_ParseSymbols_c v5 RY.out hy HZ.out)
       go_wp2_with fail
       refine D6.out.mono ?_
       rintro e v6 ⟨v9, H9, rfl, rep9, -, d1⟩
       obtain ⟨A9, c9, rfl⟩ := slice_len rep9
       replace c1 := Lib.hid (c1.out.trans (d1.mono c1.out.size))
       clear d1 D6 rep9
       go_wp2_with fail
       go_ret
       exact ⟨by simp, c1.out.alloc c1.out.size _⟩
     · simp only [ka] at D3
       have D5 := Lib.hid D3
       clear D3
       go_wp2_with fail
       refine D5.out.mono ?_
       rintro e v5 ⟨rfl, d1⟩
       replace c1 := Lib.hid (c1.out.trans (d1.mono c1.out.size))
       clear d1 D5 r17 R17
       go_wp2_with fail
       go_ret
       exact ⟨by simp, c1.out⟩
     · simp only [ka] at D3
       have D5 := Lib.hid D3
       clear D3
       go_wp2_with fail
       refine D5.out.mono ?_
       rintro e v5 ⟨rfl, d1⟩
       replace c1 := Lib.hid (c1.out.trans (d1.mono c1.out.size))
       clear d1 D5 r17 R17
       go_wp2_with fail
       go_ret
       exact ⟨by simp, c1.out⟩
   · clear T2
     go_wp2_with fail
     refine C6.out.mono ?_
     rintro e w8 ⟨rfl, b2⟩
     clear q4 q7
     replace R4 := R4.later b2
     replace REP := Lib.hid (REP.out.below b2)
     replace RN := Lib.hid (RN.out.below b2)
     replace BB := Lib.hid (BB.out.trans (b2.mono BB.out.size))
     clear b2 C6 RM R7
     have CT := Lib.hid (CS.out w8 BB.out)
     clear CS
     go_wp2_with fail
     refine CT.out.mono ?_
     rintro e v1 ⟨ys, ms, vy, vt, G2, H2, rfl, repy, rept, -, -, hly, smy, hm, c1⟩
     replace c1 := Lib.hid (BB.out.trans (c1.mono BB.out.size))
     obtain ⟨Ay, cy, rfl⟩ := slice_len repy
     obtain ⟨At, ct, rfl⟩ := slice_len rept
     have hy : ys.length ≤ 1048576 := by omega
     have hzy : ∀ c ∈ ys, c.label.size ≤ 1048576 := fun c hc => by have := (smy c hc).2; omega
     have HZ := Lib.hid hzy
     clear hzy
     have R17 := Row.new v1 28 #[.slice At ms.length ct]
     have RY := Lib.hid (repy.alloc (.cells #[.slice At ms.length ct] 28))
     have RT := Lib.hid (rept.alloc (.cells #[.slice At ms.length ct] 28))
     replace c1 := Lib.hid (c1.out.alloc c1.out.size (.cells #[.slice At ms.length ct] 28))
     clear repy rept smy CT
     go_upto_region 17 with fail
     generalize v1.alloc (.cells #[.slice At ms.length ct] 28) = v2 at R17 RY RT c1 ⊢
     generalize v1.heap.size = g17 at R17 ⊢
     have r17 := R17.cell' (i := 0) rfl
     have D1 := Lib.hid (impl_TreeCost_c v2 RY.out RT.out hy HZ.out)
     go_wp2_with fail
     refine D1.out.mono ?_
     rintro e v3 ⟨rfl, d1⟩
     replace R17 := R17.later d1
     replace RY := Lib.hid (RY.out.below d1)
     replace RT := Lib.hid (RT.out.below d1)
     replace c1 := Lib.hid (c1.out.trans (d1.mono c1.out.size))
     replace r17 := R17.cell' (i := 0) rfl
     clear d1 D1
     have D2 := Lib.hid (spec_TreeCost_c v3 RY.out RT.out hy HZ.out)
     go_wp2_with fail
     refine D2.out.mono ?_
     rintro e v4 ⟨rfl, d1⟩
     replace R17 := R17.later d1
     replace RY := Lib.hid (RY.out.below d1)
     replace RT := Lib.hid (RT.out.below d1)
     replace c1 := Lib.hid (c1.out.trans (d1.mono c1.out.size))
     replace r17 := R17.cell' (i := 0) rfl
     clear d1 D2
     have hcc : (costR ys ms != costR ys ms) = false := by simp
     have hci := is_ask ys ms
     have D3 := impl_IsTreeOf_c v4 RY.out RT.out hy HZ.out
     rw [hci] at D3
     clear hci
     rcases ask_cases ys ms with ka | ka | ka
     · have D4 := Lib.hid D3
       simp only [ka, decide_true] at D3
       have D5 := Lib.hid D3
       clear D3 D4
       go_wp2_with fail
       refine D5.out.mono ?_
       rintro e v5 ⟨rfl, d1⟩
       replace RY := Lib.hid (RY.out.below d1)
       replace c1 := Lib.hid (c1.out.trans (d1.mono c1.out.size))
       clear d1 D5 r17 R17
       obtain ⟨kp, kl⟩ := told_least ka
       have D6 := Lib.hid (impl_ParseSymbols_c v5 RY.out hy HZ.out)
       go_wp2_with fail
       refine D6.out.mono ?_
       rintro e v6 ⟨v9, H9, rfl, rep9, -, d1⟩
       obtain ⟨A9, c9, rfl⟩ := slice_len rep9
       replace c1 := Lib.hid (c1.out.trans (d1.mono c1.out.size))
       clear d1 D6 rep9
       go_wp2_with fail
       go_ret
       exact ⟨by simp, c1.out.alloc c1.out.size _⟩
     · simp only [ka] at D3
       have D5 := Lib.hid D3
       clear D3
       go_wp2_with fail
       refine D5.out.mono ?_
       rintro e v5 ⟨rfl, d1⟩
       replace c1 := Lib.hid (c1.out.trans (d1.mono c1.out.size))
       clear d1 D5 r17 R17
       go_wp2_with fail
       go_ret
       exact ⟨by simp, c1.out⟩
     · simp only [ka] at D3
       have D5 := Lib.hid D3
       clear D3
       go_wp2_with fail
       refine D5.out.mono ?_
       rintro e v5 ⟨rfl, d1⟩
       replace c1 := Lib.hid (c1.out.trans (d1.mono c1.out.size))
       clear d1 D5 r17 R17
       go_wp2_with fail
       go_ret
       exact ⟨by simp, c1.out⟩
   · clear T2
     obtain ⟨t1, t2, t3⟩ := told_best k1
     have hNc : (costR xs (parseN xs) != parseL xs) = false := by rw [t2]; simp
     go_wp2_with fail
     refine C6.out.mono ?_
     rintro e w8 ⟨rfl, b2⟩
     clear q4 q7
     replace R4 := R4.later b2
     replace REP := Lib.hid (REP.out.below b2)
     replace RN := Lib.hid (RN.out.below b2)
     replace BB := Lib.hid (BB.out.trans (b2.mono BB.out.size))
     clear b2 C6 RM R7
     have q4 := R4.cell' (i := 0) rfl
     have C7 := impl_TreeCost_c w8 REP.out RN.out hx HZX.out
     rw [t1, t2] at C7
     have C8 := Lib.hid C7
     clear C7
     go_wp2_with fail
     refine C8.out.mono ?_
     rintro e w9 ⟨rfl, b2⟩
     clear q4
     replace R4 := R4.later b2
     replace REP := Lib.hid (REP.out.below b2)
     replace RN := Lib.hid (RN.out.below b2)
     replace BB := Lib.hid (BB.out.trans (b2.mono BB.out.size))
     have q4 := R4.cell' (i := 0) rfl
     have C9 := impl_IsTreeOf_c w9 REP.out RN.out hx HZX.out
     rw [t3] at C9
     have C10 := Lib.hid C9
     clear C9 C8 b2
     go_wp2_with fail
     refine C10.out.mono ?_
     rintro e w10 ⟨rfl, b2⟩
     replace REP := Lib.hid (REP.out.below b2)
     replace BB := Lib.hid (BB.out.trans (b2.mono BB.out.size))
     clear q4 R4 b2 C10
     have CT := Lib.hid (CS.out w10 BB.out)
     clear CS
     go_wp2_with fail
     refine CT.out.mono ?_
     rintro e v1 ⟨ys, ms, vy, vt, G2, H2, rfl, repy, rept, -, -, hly, smy, hm, c1⟩
     replace c1 := Lib.hid (BB.out.trans (c1.mono BB.out.size))
     obtain ⟨Ay, cy, rfl⟩ := slice_len repy
     obtain ⟨At, ct, rfl⟩ := slice_len rept
     have hy : ys.length ≤ 1048576 := by omega
     have hzy : ∀ c ∈ ys, c.label.size ≤ 1048576 := fun c hc => by have := (smy c hc).2; omega
     have HZ := Lib.hid hzy
     clear hzy
     have R17 := Row.new v1 28 #[.slice At ms.length ct]
     have RY := Lib.hid (repy.alloc (.cells #[.slice At ms.length ct] 28))
     have RT := Lib.hid (rept.alloc (.cells #[.slice At ms.length ct] 28))
     replace c1 := Lib.hid (c1.out.alloc c1.out.size (.cells #[.slice At ms.length ct] 28))
     clear repy rept smy CT
     go_upto_region 17 with fail
     generalize v1.alloc (.cells #[.slice At ms.length ct] 28) = v2 at R17 RY RT c1 ⊢
     generalize v1.heap.size = g17 at R17 ⊢
     have r17 := R17.cell' (i := 0) rfl
     have D1 := Lib.hid (impl_TreeCost_c v2 RY.out RT.out hy HZ.out)
     go_wp2_with fail
     refine D1.out.mono ?_
     rintro e v3 ⟨rfl, d1⟩
     replace R17 := R17.later d1
     replace RY := Lib.hid (RY.out.below d1)
     replace RT := Lib.hid (RT.out.below d1)
     replace c1 := Lib.hid (c1.out.trans (d1.mono c1.out.size))
     replace r17 := R17.cell' (i := 0) rfl
     clear d1 D1
     have D2 := Lib.hid (spec_TreeCost_c v3 RY.out RT.out hy HZ.out)
     go_wp2_with fail
     refine D2.out.mono ?_
     rintro e v4 ⟨rfl, d1⟩
     replace R17 := R17.later d1
     replace RY := Lib.hid (RY.out.below d1)
     replace RT := Lib.hid (RT.out.below d1)
     replace c1 := Lib.hid (c1.out.trans (d1.mono c1.out.size))
     replace r17 := R17.cell' (i := 0) rfl
     clear d1 D2
     have hcc : (costR ys ms != costR ys ms) = false := by simp
     have hci := is_ask ys ms
     have D3 := impl_IsTreeOf_c v4 RY.out RT.out hy HZ.out
     rw [hci] at D3
     clear hci
     rcases ask_cases ys ms with ka | ka | ka
     · have D4 := Lib.hid D3
       simp only [ka, decide_true] at D3
       have D5 := Lib.hid D3
       clear D3 D4
       go_wp2_with fail
       refine D5.out.mono ?_
       rintro e v5 ⟨rfl, d1⟩
       replace RY := Lib.hid (RY.out.below d1)
       replace c1 := Lib.hid (c1.out.trans (d1.mono c1.out.size))
       clear d1 D5 r17 R17
       obtain ⟨kp, kl⟩ := told_least ka
       have D6 := Lib.hid (impl_ParseSymbols_c v5 RY.out hy HZ.out)
       go_wp2_with fail
       refine D6.out.mono ?_
       rintro e v6 ⟨v9, H9, rfl, rep9, -, d1⟩
       obtain ⟨A9, c9, rfl⟩ := slice_len rep9
       replace c1 := Lib.hid (c1.out.trans (d1.mono c1.out.size))
       clear d1 D6 rep9
       go_wp2_with fail
       go_ret
       exact ⟨by simp, c1.out.alloc c1.out.size _⟩
     · simp only [ka] at D3
       have D5 := Lib.hid D3
       clear D3
       go_wp2_with fail
       refine D5.out.mono ?_
       rintro e v5 ⟨rfl, d1⟩
       replace c1 := Lib.hid (c1.out.trans (d1.mono c1.out.size))
       clear d1 D5 r17 R17
       go_wp2_with fail
       go_ret
       exact ⟨by simp, c1.out⟩
     · simp only [ka] at D3
       have D5 := Lib.hid D3
       clear D3
       go_wp2_with fail
       refine D5.out.mono ?_
       rintro e v5 ⟨rfl, d1⟩
       replace c1 := Lib.hid (c1.out.trans (d1.mono c1.out.size))
       clear d1 D5 r17 R17
       go_wp2_with fail
       go_ret
       exact ⟨by simp, c1.out⟩
end Go.Proofs.Ytmopioaojdlnkaa
