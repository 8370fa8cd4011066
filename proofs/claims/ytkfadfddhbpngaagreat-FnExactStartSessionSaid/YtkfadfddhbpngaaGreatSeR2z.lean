/- The reference's own setups: models. Conditions: none. -/
import Derived.Test.YtkfadfddhbpngaaGreatSeRz
namespace Go.Proofs.YtkfadfddhbpngaaGreat
open Go Go.RowKit
theorem pa175_1 (l : List Value) (i : Nat) (a : Value) : l.toArray.setIfInBounds i a = (l.set i a).toArray := List.setIfInBounds_toArray ..
theorem pb175_1 (a b : Value) (l : List Value) : (a :: l).set 0 b = b :: l := List.set_cons_zero ..
theorem pc175_1 (a b : Value) (l : List Value) (n : Nat) : (a :: l).set (n + 1) b = a :: l.set n b := List.set_cons_succ ..
theorem tk175_1 {P : Program} {md : Region.Mode} {ops : Array Oper} {Q : Exit → Act → World → Prop} {S : World → Prop} {i : Nat} {oi : Oper} {v : Value} {fuel : Nat} {listed : Array Bool} {a : Act} {w : World} (hi : ops[i]? = some oi)
    (hs : (Region.noSelect ops && (Region.free md ops listed i && (Region.ready md ops listed).contains i)) = true) (hQ : ∀ c a w, Q (.panic c) (a.put oi.dst v) w → Q (.panic c) a w) (hy : YieldsIf P ops S oi v a) (hS : S w)
    (h : wpAnyH P md ops Q S fuel (listed.setIfInBounds i true) (a.put oi.dst v) w) : wpAnyH P md ops Q S (fuel + 1) listed a w := by
  simp only [Bool.and_eq_true] at hs
  exact wpAnyH_take hi hs.1 hs.2.1 hs.2.2 hQ hy hS h
abbrev zo175_1_0 : Oper := { dst := some 5, op := Go.Op.move (Go.Operand.tmp 0), type := 241, pos := "l18_language.go:14", after := #[], guard := none }
abbrev zo175_1_1 : Oper := { dst := some 6, op := Go.Op.nilCheck (Go.Operand.tmp 5), type := 0, pos := "l18_language.go:14", after := #[{ on := 0, ground := Go.Ground.data }], guard := none }
abbrev zo175_1_2 : Oper := { dst := some 7, op := Go.Op.fieldAddr 186 (Go.Operand.tmp 6) 0, type := 0, pos := "l18_language.go:14", after := #[{ on := 1, ground := Go.Ground.data }], guard := none }
abbrev zo175_1_3 : Oper := { dst := some 8, op := Go.Op.load 9 (Go.Operand.tmp 7), type := 9, pos := "l18_language.go:14", after := #[{ on := 2, ground := Go.Ground.data }], guard := none }
abbrev zo175_1_4 : Oper := { dst := some 9, op := Go.Op.move (Go.Operand.tmp 1), type := 241, pos := "l18_language.go:14", after := #[], guard := none }
abbrev zo175_1_5 : Oper := { dst := some 10, op := Go.Op.nilCheck (Go.Operand.tmp 9), type := 0, pos := "l18_language.go:14", after := #[{ on := 4, ground := Go.Ground.data }], guard := none }
abbrev zo175_1_6 : Oper := { dst := some 11, op := Go.Op.fieldAddr 186 (Go.Operand.tmp 10) 0, type := 0, pos := "l18_language.go:14", after := #[{ on := 5, ground := Go.Ground.data }], guard := none }
abbrev zo175_1_7 : Oper := { dst := some 12, op := Go.Op.load 9 (Go.Operand.tmp 11), type := 9, pos := "l18_language.go:14", after := #[{ on := 6, ground := Go.Ground.data }], guard := none }
abbrev zo175_1_8 : Oper := { dst := some 13, op := Go.Op.binOp Go.BinOp.lss 9 (Go.Operand.tmp 8) (Go.Operand.tmp 12) 9, type := 4, pos := "l18_language.go:14", after := #[{ on := 3, ground := Go.Ground.data }, { on := 7, ground := Go.Ground.data }], guard := none }
abbrev zo175_1_9 : Oper := { dst := some 14, op := Go.Op.move (Go.Operand.tmp 13), type := 4, pos := "l18_language.go:14", after := #[{ on := 8, ground := Go.Ground.data }], guard := none }
abbrev zo175_1_10 : Oper := { dst := some 15, op := Go.Op.move (Go.Operand.tmp 0), type := 241, pos := "l18_language.go:14", after := #[{ on := 9, ground := Go.Ground.guard }], guard := some (9, false) }
abbrev zo175_1_11 : Oper := { dst := some 16, op := Go.Op.nilCheck (Go.Operand.tmp 15), type := 0, pos := "l18_language.go:14", after := #[{ on := 10, ground := Go.Ground.data }, { on := 9, ground := Go.Ground.guard }], guard := some (9, false) }
abbrev zo175_1_12 : Oper := { dst := some 17, op := Go.Op.fieldAddr 186 (Go.Operand.tmp 16) 0, type := 0, pos := "l18_language.go:14", after := #[{ on := 11, ground := Go.Ground.data }, { on := 9, ground := Go.Ground.guard }], guard := some (9, false) }
abbrev zo175_1_13 : Oper := { dst := some 18, op := Go.Op.load 9 (Go.Operand.tmp 17), type := 9, pos := "l18_language.go:14", after := #[{ on := 12, ground := Go.Ground.data }, { on := 9, ground := Go.Ground.guard }], guard := some (9, false) }
abbrev zo175_1_14 : Oper := { dst := some 19, op := Go.Op.move (Go.Operand.tmp 1), type := 241, pos := "l18_language.go:14", after := #[{ on := 9, ground := Go.Ground.guard }], guard := some (9, false) }
abbrev zo175_1_15 : Oper := { dst := some 20, op := Go.Op.nilCheck (Go.Operand.tmp 19), type := 0, pos := "l18_language.go:14", after := #[{ on := 14, ground := Go.Ground.data }, { on := 9, ground := Go.Ground.guard }], guard := some (9, false) }
abbrev zo175_1_16 : Oper := { dst := some 21, op := Go.Op.fieldAddr 186 (Go.Operand.tmp 20) 0, type := 0, pos := "l18_language.go:14", after := #[{ on := 15, ground := Go.Ground.data }, { on := 9, ground := Go.Ground.guard }], guard := some (9, false) }
abbrev zo175_1_17 : Oper := { dst := some 22, op := Go.Op.load 9 (Go.Operand.tmp 21), type := 9, pos := "l18_language.go:14", after := #[{ on := 16, ground := Go.Ground.data }, { on := 9, ground := Go.Ground.guard }], guard := some (9, false) }
abbrev zo175_1_18 : Oper := { dst := some 23, op := Go.Op.binOp Go.BinOp.eql 9 (Go.Operand.tmp 18) (Go.Operand.tmp 22) 9, type := 4, pos := "l18_language.go:14", after := #[{ on := 13, ground := Go.Ground.data }, { on := 17, ground := Go.Ground.data }, { on := 9, ground := Go.Ground.guard }], guard := some (9, false) }
abbrev zo175_1_19 : Oper := { dst := some 24, op := Go.Op.move (Go.Operand.tmp 23), type := 4, pos := "l18_language.go:14", after := #[{ on := 18, ground := Go.Ground.data }, { on := 9, ground := Go.Ground.chain }, { on := 9, ground := Go.Ground.guard }], guard := some (9, false) }
abbrev zo175_1_20 : Oper := { dst := some 25, op := Go.Op.move (Go.Operand.tmp 0), type := 241, pos := "l18_language.go:14", after := #[{ on := 19, ground := Go.Ground.guard }], guard := some (19, true) }
abbrev zo175_1_21 : Oper := { dst := some 26, op := Go.Op.nilCheck (Go.Operand.tmp 25), type := 0, pos := "l18_language.go:14", after := #[{ on := 20, ground := Go.Ground.data }, { on := 19, ground := Go.Ground.guard }], guard := some (19, true) }
abbrev zo175_1_22 : Oper := { dst := some 27, op := Go.Op.fieldAddr 186 (Go.Operand.tmp 26) 1, type := 0, pos := "l18_language.go:14", after := #[{ on := 21, ground := Go.Ground.data }, { on := 19, ground := Go.Ground.guard }], guard := some (19, true) }
abbrev zo175_1_23 : Oper := { dst := some 28, op := Go.Op.load 9 (Go.Operand.tmp 27), type := 9, pos := "l18_language.go:14", after := #[{ on := 22, ground := Go.Ground.data }, { on := 19, ground := Go.Ground.guard }], guard := some (19, true) }
abbrev zo175_1_24 : Oper := { dst := some 29, op := Go.Op.move (Go.Operand.tmp 1), type := 241, pos := "l18_language.go:14", after := #[{ on := 19, ground := Go.Ground.guard }], guard := some (19, true) }
abbrev zo175_1_25 : Oper := { dst := some 30, op := Go.Op.nilCheck (Go.Operand.tmp 29), type := 0, pos := "l18_language.go:14", after := #[{ on := 24, ground := Go.Ground.data }, { on := 19, ground := Go.Ground.guard }], guard := some (19, true) }
abbrev zo175_1_26 : Oper := { dst := some 31, op := Go.Op.fieldAddr 186 (Go.Operand.tmp 30) 1, type := 0, pos := "l18_language.go:14", after := #[{ on := 25, ground := Go.Ground.data }, { on := 19, ground := Go.Ground.guard }], guard := some (19, true) }
abbrev zo175_1_27 : Oper := { dst := some 32, op := Go.Op.load 9 (Go.Operand.tmp 31), type := 9, pos := "l18_language.go:14", after := #[{ on := 26, ground := Go.Ground.data }, { on := 19, ground := Go.Ground.guard }], guard := some (19, true) }
abbrev zo175_1_28 : Oper := { dst := some 33, op := Go.Op.binOp Go.BinOp.lss 9 (Go.Operand.tmp 28) (Go.Operand.tmp 32) 9, type := 4, pos := "l18_language.go:14", after := #[{ on := 23, ground := Go.Ground.data }, { on := 27, ground := Go.Ground.data }, { on := 19, ground := Go.Ground.guard }], guard := some (19, true) }
abbrev zo175_1_29 : Oper := { dst := some 34, op := Go.Op.pick (Go.Operand.tmp 24) (Go.Operand.tmp 33) (Go.Operand.const (Go.Value.bool false)), type := 4, pos := "l18_language.go:14", after := #[{ on := 19, ground := Go.Ground.data }, { on := 28, ground := Go.Ground.data }, { on := 9, ground := Go.Ground.guard }], guard := some (9, false) }
abbrev zo175_1_30 : Oper := { dst := some 35, op := Go.Op.pick (Go.Operand.tmp 14) (Go.Operand.const (Go.Value.bool true)) (Go.Operand.tmp 34), type := 4, pos := "l18_language.go:14", after := #[{ on := 9, ground := Go.Ground.data }, { on := 29, ground := Go.Ground.data }], guard := none }
abbrev zo175_1_31 : Oper := { dst := some 4, op := Go.Op.assign (Go.Operand.tmp 35), type := 4, pos := "l18_language.go:14", after := #[{ on := 30, ground := Go.Ground.data }, { on := 19, ground := Go.Ground.chain }, { on := 0, ground := Go.Ground.phase }, { on := 1, ground := Go.Ground.phase }, { on := 2, ground := Go.Ground.phase }, { on := 3, ground := Go.Ground.phase }, { on := 4, ground := Go.Ground.phase }, { on := 5, ground := Go.Ground.phase }, { on := 6, ground := Go.Ground.phase }, { on := 7, ground := Go.Ground.phase }, { on := 8, ground := Go.Ground.phase }, { on := 9, ground := Go.Ground.phase }, { on := 10, ground := Go.Ground.phase }, { on := 11, ground := Go.Ground.phase }, { on := 12, ground := Go.Ground.phase }, { on := 13, ground := Go.Ground.phase }, { on := 14, ground := Go.Ground.phase }, { on := 15, ground := Go.Ground.phase }, { on := 16, ground := Go.Ground.phase }, { on := 17, ground := Go.Ground.phase }, { on := 18, ground := Go.Ground.phase }, { on := 19, ground := Go.Ground.phase }, { on := 20, ground := Go.Ground.phase }, { on := 21, ground := Go.Ground.phase }, { on := 22, ground := Go.Ground.phase }, { on := 23, ground := Go.Ground.phase }, { on := 24, ground := Go.Ground.phase }, { on := 25, ground := Go.Ground.phase }, { on := 26, ground := Go.Ground.phase }, { on := 27, ground := Go.Ground.phase }, { on := 28, ground := Go.Ground.phase }, { on := 29, ground := Go.Ground.phase }, { on := 30, ground := Go.Ground.phase }], guard := none }
abbrev zo110_4_0 : Oper := { dst := some 13, op := Go.Op.move (Go.Operand.tmp 0), type := 139, pos := "l18_language.go:19", after := #[], guard := none }
abbrev zo110_4_1 : Oper := { dst := some 14, op := Go.Op.nilCheck (Go.Operand.tmp 13), type := 0, pos := "l18_language.go:19", after := #[{ on := 0, ground := Go.Ground.data }], guard := none }
abbrev zo110_4_2 : Oper := { dst := some 15, op := Go.Op.fieldAddr 59 (Go.Operand.tmp 14) 1, type := 0, pos := "l18_language.go:19", after := #[{ on := 1, ground := Go.Ground.data }], guard := none }
abbrev zo110_4_3 : Oper := { dst := some 16, op := Go.Op.load 57 (Go.Operand.tmp 15), type := 57, pos := "l18_language.go:19", after := #[{ on := 2, ground := Go.Ground.data }], guard := none }
abbrev zo110_4_4 : Oper := { dst := some 17, op := Go.Op.move (Go.Operand.tmp 3), type := 3, pos := "l18_language.go:19", after := #[], guard := none }
abbrev zo110_4_5 : Oper := { dst := some 18, op := Go.Op.indexAddr 57 (Go.Operand.tmp 16) (Go.Operand.tmp 17), type := 0, pos := "l18_language.go:19", after := #[{ on := 3, ground := Go.Ground.data }, { on := 4, ground := Go.Ground.data }], guard := none }
abbrev zo110_4_6 : Oper := { dst := some 19, op := Go.Op.call { callee := Go.Callee.value (Go.Operand.func 174), args := #[Go.Operand.tmp 18], argTypes := #[241] }, type := 4, pos := "l18_language.go:19", after := #[{ on := 5, ground := Go.Ground.data }], guard := none }
abbrev zo110_4_7 : Oper := { dst := some 20, op := Go.Op.unOp Go.UnOp.not 4 (Go.Operand.tmp 19), type := 4, pos := "l18_language.go:19", after := #[{ on := 6, ground := Go.Ground.data }], guard := none }
abbrev zo110_4_8 : Oper := { dst := some 21, op := Go.Op.move (Go.Operand.tmp 20), type := 4, pos := "l18_language.go:19", after := #[{ on := 7, ground := Go.Ground.data }, { on := 6, ground := Go.Ground.chain }], guard := none }
abbrev zo110_4_9 : Oper := { dst := some 22, op := Go.Op.move (Go.Operand.tmp 3), type := 3, pos := "l18_language.go:19", after := #[{ on := 8, ground := Go.Ground.guard }], guard := some (8, false) }
abbrev zo110_4_10 : Oper := { dst := some 23, op := Go.Op.binOp Go.BinOp.gtr 3 (Go.Operand.tmp 22) (Go.Operand.const (Go.Value.int Go.IntKind.i64 0)) 3, type := 4, pos := "l18_language.go:19", after := #[{ on := 9, ground := Go.Ground.data }, { on := 8, ground := Go.Ground.guard }], guard := some (8, false) }
abbrev zo110_4_11 : Oper := { dst := some 24, op := Go.Op.move (Go.Operand.tmp 23), type := 4, pos := "l18_language.go:19", after := #[{ on := 10, ground := Go.Ground.data }, { on := 8, ground := Go.Ground.chain }, { on := 8, ground := Go.Ground.guard }], guard := some (8, false) }
abbrev zo110_4_12 : Oper := { dst := some 25, op := Go.Op.move (Go.Operand.tmp 0), type := 139, pos := "l18_language.go:19", after := #[{ on := 11, ground := Go.Ground.guard }], guard := some (11, true) }
abbrev zo110_4_13 : Oper := { dst := some 26, op := Go.Op.nilCheck (Go.Operand.tmp 25), type := 0, pos := "l18_language.go:19", after := #[{ on := 12, ground := Go.Ground.data }, { on := 11, ground := Go.Ground.guard }], guard := some (11, true) }
abbrev zo110_4_14 : Oper := { dst := some 27, op := Go.Op.fieldAddr 59 (Go.Operand.tmp 26) 1, type := 0, pos := "l18_language.go:19", after := #[{ on := 13, ground := Go.Ground.data }, { on := 11, ground := Go.Ground.guard }], guard := some (11, true) }
abbrev zo110_4_15 : Oper := { dst := some 28, op := Go.Op.load 57 (Go.Operand.tmp 27), type := 57, pos := "l18_language.go:19", after := #[{ on := 14, ground := Go.Ground.data }, { on := 11, ground := Go.Ground.guard }], guard := some (11, true) }
abbrev zo110_4_16 : Oper := { dst := some 29, op := Go.Op.move (Go.Operand.tmp 3), type := 3, pos := "l18_language.go:19", after := #[{ on := 11, ground := Go.Ground.guard }], guard := some (11, true) }
abbrev zo110_4_17 : Oper := { dst := some 30, op := Go.Op.binOp Go.BinOp.sub 3 (Go.Operand.tmp 29) (Go.Operand.const (Go.Value.int Go.IntKind.i64 1)) 3, type := 3, pos := "l18_language.go:19", after := #[{ on := 16, ground := Go.Ground.data }, { on := 11, ground := Go.Ground.guard }], guard := some (11, true) }
abbrev zo110_4_18 : Oper := { dst := some 31, op := Go.Op.indexAddr 57 (Go.Operand.tmp 28) (Go.Operand.tmp 30), type := 0, pos := "l18_language.go:19", after := #[{ on := 15, ground := Go.Ground.data }, { on := 17, ground := Go.Ground.data }, { on := 11, ground := Go.Ground.guard }], guard := some (11, true) }
abbrev zo110_4_19 : Oper := { dst := some 32, op := Go.Op.move (Go.Operand.tmp 0), type := 139, pos := "l18_language.go:19", after := #[{ on := 11, ground := Go.Ground.guard }], guard := some (11, true) }
abbrev zo110_4_20 : Oper := { dst := some 33, op := Go.Op.nilCheck (Go.Operand.tmp 32), type := 0, pos := "l18_language.go:19", after := #[{ on := 19, ground := Go.Ground.data }, { on := 11, ground := Go.Ground.guard }], guard := some (11, true) }
abbrev zo110_4_21 : Oper := { dst := some 34, op := Go.Op.fieldAddr 59 (Go.Operand.tmp 33) 1, type := 0, pos := "l18_language.go:19", after := #[{ on := 20, ground := Go.Ground.data }, { on := 11, ground := Go.Ground.guard }], guard := some (11, true) }
abbrev zo110_4_22 : Oper := { dst := some 35, op := Go.Op.load 57 (Go.Operand.tmp 34), type := 57, pos := "l18_language.go:19", after := #[{ on := 21, ground := Go.Ground.data }, { on := 11, ground := Go.Ground.guard }], guard := some (11, true) }
abbrev zo110_4_23 : Oper := { dst := some 36, op := Go.Op.move (Go.Operand.tmp 3), type := 3, pos := "l18_language.go:19", after := #[{ on := 11, ground := Go.Ground.guard }], guard := some (11, true) }
abbrev zo110_4_24 : Oper := { dst := some 37, op := Go.Op.indexAddr 57 (Go.Operand.tmp 35) (Go.Operand.tmp 36), type := 0, pos := "l18_language.go:19", after := #[{ on := 22, ground := Go.Ground.data }, { on := 23, ground := Go.Ground.data }, { on := 11, ground := Go.Ground.guard }], guard := some (11, true) }
abbrev zo110_4_25 : Oper := { dst := some 38, op := Go.Op.call { callee := Go.Callee.value (Go.Operand.func 175), args := #[Go.Operand.tmp 31, Go.Operand.tmp 37], argTypes := #[241, 241] }, type := 4, pos := "l18_language.go:19", after := #[{ on := 18, ground := Go.Ground.data }, { on := 24, ground := Go.Ground.data }, { on := 11, ground := Go.Ground.chain }, { on := 11, ground := Go.Ground.guard }], guard := some (11, true) }
abbrev zo110_4_26 : Oper := { dst := some 39, op := Go.Op.unOp Go.UnOp.not 4 (Go.Operand.tmp 38), type := 4, pos := "l18_language.go:19", after := #[{ on := 25, ground := Go.Ground.data }, { on := 11, ground := Go.Ground.guard }], guard := some (11, true) }
abbrev zo110_4_27 : Oper := { dst := some 40, op := Go.Op.pick (Go.Operand.tmp 24) (Go.Operand.tmp 39) (Go.Operand.const (Go.Value.bool false)), type := 4, pos := "l18_language.go:19", after := #[{ on := 11, ground := Go.Ground.data }, { on := 26, ground := Go.Ground.data }, { on := 8, ground := Go.Ground.guard }], guard := some (8, false) }
abbrev zo110_4_28 : Oper := { dst := some 41, op := Go.Op.pick (Go.Operand.tmp 21) (Go.Operand.const (Go.Value.bool true)) (Go.Operand.tmp 40), type := 4, pos := "l18_language.go:19", after := #[{ on := 8, ground := Go.Ground.data }, { on := 27, ground := Go.Ground.data }], guard := none }

theorem empty_is_nil (f : ByteArray) : f.toList.isEmpty = decide (f = .empty) := by
  have := str_eq f .empty
  rw [show ByteArray.empty.toList = [] from by simp, List.beq_nil_eq] at this
  exact this
set_option maxHeartbeats 400000 in
theorem spec_l18First_c (f : ByteArray) (hs : f.size ≤ 1048576) (w : World) :
    Calls Tryz.prog 213 #[.string f] w fun e w' => e = .returned (.bool (decide (f = .empty) || isWordB f)) ∧ w' = w := by
  have C := Lib.hid (spec_word_c f hs)
  have he := empty_is_nil f
  generalize decide (f = .empty) = d0 at he ⊢
  generalize isWordB f = d1 at C ⊢
  cases d0
  · go_enter Tryz.func213, Tryz.ntmps213
    go_wp2_with fail
    refine (C.out _).mono ?_
    rintro e w1 ⟨rfl, rfl⟩
    go_wp2_with fail
    go_ret
    exact ⟨rfl, rfl⟩
  · go_enter Tryz.func213, Tryz.ntmps213
    go_wp2_with fail
    go_ret
    exact ⟨rfl, rfl⟩
set_option maxHeartbeats 400000 in
theorem spec_l18Bigram_c (s : PBigram) (h1 : s.first.size ≤ 1048576) (h2 : s.second.size ≤ 1048576) {g f : Nat} (w : World) (c0 : w.cell? ⟨g, f, none⟩ = some (.string s.first)) (c1 : w.cell? ⟨g, f + 1, none⟩ = some (.string s.second)) (c2 : w.cell? ⟨g, f + 2, none⟩ = some (.int .i64 s.cost)) :
    Calls Tryz.prog 174 #[.pointer (some ⟨g, f, none⟩)] w fun e w' => e = .returned (.bool (bigB s)) ∧ w' = w := by
  have C1 := Lib.hid (spec_l18First_c s.first h1)
  have C2 := Lib.hid (spec_word_c s.second h2)
  have C3 := Lib.hid (spec_cost_c s.cost)
  have hb : bigB s = ((decide (s.first = .empty) || isWordB s.first) && (isWordB s.second && costB s.cost)) := by
    unfold bigB; cases isWordB s.second <;> cases (decide (s.first = .empty) || isWordB s.first) <;> rfl
  rw [hb]
  clear hb
  generalize (decide (s.first = .empty) || isWordB s.first) = d1 at C1 ⊢
  generalize isWordB s.second = d2 at C2 ⊢
  generalize costB s.cost = d3 at C3 ⊢
  cases d1
  · go_enter Tryz.func174, Tryz.ntmps174
    go_wp2_with fail
    refine (C1.out _).mono ?_
    rintro e w1 ⟨rfl, rfl⟩
    go_wp2_with fail
    go_ret
    exact ⟨rfl, rfl⟩
  · cases d2
    · go_enter Tryz.func174, Tryz.ntmps174
      go_wp2_with fail
      refine (C1.out _).mono ?_
      rintro e w1 ⟨rfl, rfl⟩
      go_wp2_with fail
      refine (C2.out _).mono ?_
      rintro e w1 ⟨rfl, rfl⟩
      go_wp2_with fail
      go_ret
      exact ⟨rfl, rfl⟩
    · go_enter Tryz.func174, Tryz.ntmps174
      go_wp2_with fail
      refine (C1.out _).mono ?_
      rintro e w1 ⟨rfl, rfl⟩
      go_wp2_with fail
      refine (C2.out _).mono ?_
      rintro e w1 ⟨rfl, rfl⟩
      go_wp2_with fail
      refine (C3.out _).mono ?_
      rintro e w1 ⟨rfl, rfl⟩
      go_wp2_with fail
      go_ret
      exact ⟨rfl, rfl⟩
set_option maxRecDepth 100000 in
set_option maxHeartbeats 1000000 in
theorem spec_l18Before_c (x y : PBigram) {g f g' f' : Nat} (w : World) (a0 : w.cell? ⟨g, f, none⟩ = some (.string x.first)) (a1 : w.cell? ⟨g, f + 1, none⟩ = some (.string x.second)) (b0 : w.cell? ⟨g', f', none⟩ = some (.string y.first)) (b1 : w.cell? ⟨g', f' + 1, none⟩ = some (.string y.second)) :
    Calls Tryz.prog 175 #[.pointer (some ⟨g, f, none⟩), .pointer (some ⟨g', f', none⟩)] w (GivesB (cLess (bigKey x) (bigKey y)) w) := by
  have hc : cLess (bigKey x) (bigKey y) = (bLess x.first y.first || (decide (x.first = y.first) && bLess x.second y.second)) := rfl
  have he := str_eq x.first y.first
  cases h1 : bLess x.first y.first
  · by_cases h2 : x.first = y.first
    · rw [decide_eq_true h2] at he
      cases h3 : bLess x.second y.second
      · have HF : Hid (cLess (bigKey x) (bigKey y) = false) := by show _ = _; rw [hc, h1, h3]; simp
        unfold bLess at h1 h3
        clear hc h2
        go_enter Tryz.func175, Tryz.ntmps175
        go_wp2_with fail
        have hS : (fun w' : World => w'.cell? ⟨g, f, none⟩ = some (.string x.first) ∧ w'.cell? ⟨g, f + 1, none⟩ = some (.string x.second) ∧ w'.cell? ⟨g', f', none⟩ = some (.string y.first) ∧ w'.cell? ⟨g', f' + 1, none⟩ = some (.string y.second)) w.drew := ⟨a0, a1, b0, b1⟩
        dsimp only at hS
        refine wp_region_held_drew (S := (fun w' : World => w'.cell? ⟨g, f, none⟩ = some (.string x.first) ∧ w'.cell? ⟨g, f + 1, none⟩ = some (.string x.second) ∧ w'.cell? ⟨g', f', none⟩ = some (.string y.first) ∧ w'.cell? ⟨g', f' + 1, none⟩ = some (.string y.second))) (by kernel_rfl) hS (fun _ => ?_)
        refine tk175_1 (i := 0) (oi := zo175_1_0) (v := ?_) rfl (by kernel_rfl) (fun _ _ _ h => h) (Or.inl ⟨rfl, ?_⟩) hS ?_
        rotate_left
        · (intro w' hS'; (try dsimp only at hS'); dsimp only [zo175_1_0]; go_simp; try with_reducible rfl)
        simp only [Act.put, pa175_1, pb175_1, pc175_1]
        refine tk175_1 (i := 1) (oi := zo175_1_1) (v := ?_) rfl (by kernel_rfl) (fun _ _ _ h => h) (Or.inl ⟨rfl, ?_⟩) hS ?_
        rotate_left
        · (intro w' hS'; (try dsimp only at hS'); dsimp only [zo175_1_1]; go_simp; try with_reducible rfl)
        simp only [Act.put, pa175_1, pb175_1, pc175_1]
        refine tk175_1 (i := 2) (oi := zo175_1_2) (v := ?_) rfl (by kernel_rfl) (fun _ _ _ h => h) (Or.inl ⟨rfl, ?_⟩) hS ?_
        rotate_left
        · (intro w' hS'; (try dsimp only at hS'); dsimp only [zo175_1_2]; go_simp; try with_reducible rfl)
        simp only [Act.put, pa175_1, pb175_1, pc175_1]
        refine tk175_1 (i := 3) (oi := zo175_1_3) (v := ?_) rfl (by kernel_rfl) (fun _ _ _ h => h) (Or.inl ⟨rfl, ?_⟩) hS ?_
        rotate_left
        · (intro w' hS'; (try dsimp only at hS'); dsimp only [zo175_1_3]; go_simp; try with_reducible rfl)
        simp only [Act.put, pa175_1, pb175_1, pc175_1]
        refine tk175_1 (i := 4) (oi := zo175_1_4) (v := ?_) rfl (by kernel_rfl) (fun _ _ _ h => h) (Or.inl ⟨rfl, ?_⟩) hS ?_
        rotate_left
        · (intro w' hS'; (try dsimp only at hS'); dsimp only [zo175_1_4]; go_simp; try with_reducible rfl)
        simp only [Act.put, pa175_1, pb175_1, pc175_1]
        refine tk175_1 (i := 5) (oi := zo175_1_5) (v := ?_) rfl (by kernel_rfl) (fun _ _ _ h => h) (Or.inl ⟨rfl, ?_⟩) hS ?_
        rotate_left
        · (intro w' hS'; (try dsimp only at hS'); dsimp only [zo175_1_5]; go_simp; try with_reducible rfl)
        simp only [Act.put, pa175_1, pb175_1, pc175_1]
        refine tk175_1 (i := 6) (oi := zo175_1_6) (v := ?_) rfl (by kernel_rfl) (fun _ _ _ h => h) (Or.inl ⟨rfl, ?_⟩) hS ?_
        rotate_left
        · (intro w' hS'; (try dsimp only at hS'); dsimp only [zo175_1_6]; go_simp; try with_reducible rfl)
        simp only [Act.put, pa175_1, pb175_1, pc175_1]
        refine tk175_1 (i := 7) (oi := zo175_1_7) (v := ?_) rfl (by kernel_rfl) (fun _ _ _ h => h) (Or.inl ⟨rfl, ?_⟩) hS ?_
        rotate_left
        · (intro w' hS'; (try dsimp only at hS'); dsimp only [zo175_1_7]; go_simp; try with_reducible rfl)
        simp only [Act.put, pa175_1, pb175_1, pc175_1]
        refine tk175_1 (i := 8) (oi := zo175_1_8) (v := ?_) rfl (by kernel_rfl) (fun _ _ _ h => h) (Or.inl ⟨rfl, ?_⟩) hS ?_
        rotate_left
        · (intro w' hS'; (try dsimp only at hS'); dsimp only [zo175_1_8]; go_simp; try with_reducible rfl)
        simp only [Act.put, pa175_1, pb175_1, pc175_1]
        refine tk175_1 (i := 9) (oi := zo175_1_9) (v := ?_) rfl (by kernel_rfl) (fun _ _ _ h => h) (Or.inl ⟨rfl, ?_⟩) hS ?_
        rotate_left
        · (intro w' hS'; (try dsimp only at hS'); dsimp only [zo175_1_9]; go_simp; try with_reducible rfl)
        simp only [Act.put, pa175_1, pb175_1, pc175_1]
        refine tk175_1 (i := 10) (oi := zo175_1_10) (v := ?_) rfl (by kernel_rfl) (fun _ _ _ h => h) (Or.inl ⟨rfl, ?_⟩) hS ?_
        rotate_left
        · (intro w' hS'; (try dsimp only at hS'); dsimp only [zo175_1_10]; go_simp; try with_reducible rfl)
        simp only [Act.put, pa175_1, pb175_1, pc175_1]
        refine tk175_1 (i := 11) (oi := zo175_1_11) (v := ?_) rfl (by kernel_rfl) (fun _ _ _ h => h) (Or.inl ⟨rfl, ?_⟩) hS ?_
        rotate_left
        · (intro w' hS'; (try dsimp only at hS'); dsimp only [zo175_1_11]; go_simp; try with_reducible rfl)
        simp only [Act.put, pa175_1, pb175_1, pc175_1]
        refine tk175_1 (i := 12) (oi := zo175_1_12) (v := ?_) rfl (by kernel_rfl) (fun _ _ _ h => h) (Or.inl ⟨rfl, ?_⟩) hS ?_
        rotate_left
        · (intro w' hS'; (try dsimp only at hS'); dsimp only [zo175_1_12]; go_simp; try with_reducible rfl)
        simp only [Act.put, pa175_1, pb175_1, pc175_1]
        refine tk175_1 (i := 13) (oi := zo175_1_13) (v := ?_) rfl (by kernel_rfl) (fun _ _ _ h => h) (Or.inl ⟨rfl, ?_⟩) hS ?_
        rotate_left
        · (intro w' hS'; (try dsimp only at hS'); dsimp only [zo175_1_13]; go_simp; try with_reducible rfl)
        simp only [Act.put, pa175_1, pb175_1, pc175_1]
        refine tk175_1 (i := 14) (oi := zo175_1_14) (v := ?_) rfl (by kernel_rfl) (fun _ _ _ h => h) (Or.inl ⟨rfl, ?_⟩) hS ?_
        rotate_left
        · (intro w' hS'; (try dsimp only at hS'); dsimp only [zo175_1_14]; go_simp; try with_reducible rfl)
        simp only [Act.put, pa175_1, pb175_1, pc175_1]
        refine tk175_1 (i := 15) (oi := zo175_1_15) (v := ?_) rfl (by kernel_rfl) (fun _ _ _ h => h) (Or.inl ⟨rfl, ?_⟩) hS ?_
        rotate_left
        · (intro w' hS'; (try dsimp only at hS'); dsimp only [zo175_1_15]; go_simp; try with_reducible rfl)
        simp only [Act.put, pa175_1, pb175_1, pc175_1]
        refine tk175_1 (i := 16) (oi := zo175_1_16) (v := ?_) rfl (by kernel_rfl) (fun _ _ _ h => h) (Or.inl ⟨rfl, ?_⟩) hS ?_
        rotate_left
        · (intro w' hS'; (try dsimp only at hS'); dsimp only [zo175_1_16]; go_simp; try with_reducible rfl)
        simp only [Act.put, pa175_1, pb175_1, pc175_1]
        refine tk175_1 (i := 17) (oi := zo175_1_17) (v := ?_) rfl (by kernel_rfl) (fun _ _ _ h => h) (Or.inl ⟨rfl, ?_⟩) hS ?_
        rotate_left
        · (intro w' hS'; (try dsimp only at hS'); dsimp only [zo175_1_17]; go_simp; try with_reducible rfl)
        simp only [Act.put, pa175_1, pb175_1, pc175_1]
        refine tk175_1 (i := 18) (oi := zo175_1_18) (v := ?_) rfl (by kernel_rfl) (fun _ _ _ h => h) (Or.inl ⟨rfl, ?_⟩) hS ?_
        rotate_left
        · (intro w' hS'; (try dsimp only at hS'); dsimp only [zo175_1_18]; go_simp; try with_reducible rfl)
        simp only [Act.put, pa175_1, pb175_1, pc175_1]
        refine tk175_1 (i := 19) (oi := zo175_1_19) (v := ?_) rfl (by kernel_rfl) (fun _ _ _ h => h) (Or.inl ⟨rfl, ?_⟩) hS ?_
        rotate_left
        · (intro w' hS'; (try dsimp only at hS'); dsimp only [zo175_1_19]; go_simp; try with_reducible rfl)
        simp only [Act.put, pa175_1, pb175_1, pc175_1]
        refine tk175_1 (i := 20) (oi := zo175_1_20) (v := ?_) rfl (by kernel_rfl) (fun _ _ _ h => h) (Or.inl ⟨rfl, ?_⟩) hS ?_
        rotate_left
        · (intro w' hS'; (try dsimp only at hS'); dsimp only [zo175_1_20]; go_simp; try with_reducible rfl)
        simp only [Act.put, pa175_1, pb175_1, pc175_1]
        refine tk175_1 (i := 21) (oi := zo175_1_21) (v := ?_) rfl (by kernel_rfl) (fun _ _ _ h => h) (Or.inl ⟨rfl, ?_⟩) hS ?_
        rotate_left
        · (intro w' hS'; (try dsimp only at hS'); dsimp only [zo175_1_21]; go_simp; try with_reducible rfl)
        simp only [Act.put, pa175_1, pb175_1, pc175_1]
        refine tk175_1 (i := 22) (oi := zo175_1_22) (v := ?_) rfl (by kernel_rfl) (fun _ _ _ h => h) (Or.inl ⟨rfl, ?_⟩) hS ?_
        rotate_left
        · (intro w' hS'; (try dsimp only at hS'); dsimp only [zo175_1_22]; go_simp; try with_reducible rfl)
        simp only [Act.put, pa175_1, pb175_1, pc175_1]
        refine tk175_1 (i := 23) (oi := zo175_1_23) (v := ?_) rfl (by kernel_rfl) (fun _ _ _ h => h) (Or.inl ⟨rfl, ?_⟩) hS ?_
        rotate_left
        · (intro w' hS'; (try dsimp only at hS'); dsimp only [zo175_1_23]; go_simp; try with_reducible rfl)
        simp only [Act.put, pa175_1, pb175_1, pc175_1]
        refine tk175_1 (i := 24) (oi := zo175_1_24) (v := ?_) rfl (by kernel_rfl) (fun _ _ _ h => h) (Or.inl ⟨rfl, ?_⟩) hS ?_
        rotate_left
        · (intro w' hS'; (try dsimp only at hS'); dsimp only [zo175_1_24]; go_simp; try with_reducible rfl)
        simp only [Act.put, pa175_1, pb175_1, pc175_1]
        refine tk175_1 (i := 25) (oi := zo175_1_25) (v := ?_) rfl (by kernel_rfl) (fun _ _ _ h => h) (Or.inl ⟨rfl, ?_⟩) hS ?_
        rotate_left
        · (intro w' hS'; (try dsimp only at hS'); dsimp only [zo175_1_25]; go_simp; try with_reducible rfl)
        simp only [Act.put, pa175_1, pb175_1, pc175_1]
        refine tk175_1 (i := 26) (oi := zo175_1_26) (v := ?_) rfl (by kernel_rfl) (fun _ _ _ h => h) (Or.inl ⟨rfl, ?_⟩) hS ?_
        rotate_left
        · (intro w' hS'; (try dsimp only at hS'); dsimp only [zo175_1_26]; go_simp; try with_reducible rfl)
        simp only [Act.put, pa175_1, pb175_1, pc175_1]
        refine tk175_1 (i := 27) (oi := zo175_1_27) (v := ?_) rfl (by kernel_rfl) (fun _ _ _ h => h) (Or.inl ⟨rfl, ?_⟩) hS ?_
        rotate_left
        · (intro w' hS'; (try dsimp only at hS'); dsimp only [zo175_1_27]; go_simp; try with_reducible rfl)
        simp only [Act.put, pa175_1, pb175_1, pc175_1]
        refine tk175_1 (i := 28) (oi := zo175_1_28) (v := ?_) rfl (by kernel_rfl) (fun _ _ _ h => h) (Or.inl ⟨rfl, ?_⟩) hS ?_
        rotate_left
        · (intro w' hS'; (try dsimp only at hS'); dsimp only [zo175_1_28]; go_simp; try with_reducible rfl)
        simp only [Act.put, pa175_1, pb175_1, pc175_1]
        refine tk175_1 (i := 29) (oi := zo175_1_29) (v := ?_) rfl (by kernel_rfl) (fun _ _ _ h => h) (Or.inl ⟨rfl, ?_⟩) hS ?_
        rotate_left
        · (intro w' hS'; (try dsimp only at hS'); dsimp only [zo175_1_29]; go_simp; try with_reducible rfl)
        simp only [Act.put, pa175_1, pb175_1, pc175_1]
        refine tk175_1 (i := 30) (oi := zo175_1_30) (v := ?_) rfl (by kernel_rfl) (fun _ _ _ h => h) (Or.inl ⟨rfl, ?_⟩) hS ?_
        rotate_left
        · (intro w' hS'; (try dsimp only at hS'); dsimp only [zo175_1_30]; go_simp; try with_reducible rfl)
        simp only [Act.put, pa175_1, pb175_1, pc175_1]
        refine tk175_1 (i := 31) (oi := zo175_1_31) (v := ?_) rfl (by kernel_rfl) (fun _ _ _ h => h) (Or.inl ⟨rfl, ?_⟩) hS ?_
        rotate_left
        · (intro w' hS'; (try dsimp only at hS'); dsimp only [zo175_1_31]; go_simp; try with_reducible rfl)
        simp only [Act.put, pa175_1, pb175_1, pc175_1]
        refine wpAnyH_done (by kernel_rfl) ?_ _
        go_wp2_with fail
        go_ret
        exact ⟨ret_boolI HF.out.symm, 1, rfl⟩
      · have HF : Hid (cLess (bigKey x) (bigKey y) = true) := by show _ = _; rw [hc, h1, h3, decide_eq_true h2]; rfl
        unfold bLess at h1 h3
        clear hc h2
        go_enter Tryz.func175, Tryz.ntmps175
        go_wp2_with fail
        have hS : (fun w' : World => w'.cell? ⟨g, f, none⟩ = some (.string x.first) ∧ w'.cell? ⟨g, f + 1, none⟩ = some (.string x.second) ∧ w'.cell? ⟨g', f', none⟩ = some (.string y.first) ∧ w'.cell? ⟨g', f' + 1, none⟩ = some (.string y.second)) w.drew := ⟨a0, a1, b0, b1⟩
        dsimp only at hS
        refine wp_region_held_drew (S := (fun w' : World => w'.cell? ⟨g, f, none⟩ = some (.string x.first) ∧ w'.cell? ⟨g, f + 1, none⟩ = some (.string x.second) ∧ w'.cell? ⟨g', f', none⟩ = some (.string y.first) ∧ w'.cell? ⟨g', f' + 1, none⟩ = some (.string y.second))) (by kernel_rfl) hS (fun _ => ?_)
        refine tk175_1 (i := 0) (oi := zo175_1_0) (v := ?_) rfl (by kernel_rfl) (fun _ _ _ h => h) (Or.inl ⟨rfl, ?_⟩) hS ?_
        rotate_left
        · (intro w' hS'; (try dsimp only at hS'); dsimp only [zo175_1_0]; go_simp; try with_reducible rfl)
        simp only [Act.put, pa175_1, pb175_1, pc175_1]
        refine tk175_1 (i := 1) (oi := zo175_1_1) (v := ?_) rfl (by kernel_rfl) (fun _ _ _ h => h) (Or.inl ⟨rfl, ?_⟩) hS ?_
        rotate_left
        · (intro w' hS'; (try dsimp only at hS'); dsimp only [zo175_1_1]; go_simp; try with_reducible rfl)
        simp only [Act.put, pa175_1, pb175_1, pc175_1]
        refine tk175_1 (i := 2) (oi := zo175_1_2) (v := ?_) rfl (by kernel_rfl) (fun _ _ _ h => h) (Or.inl ⟨rfl, ?_⟩) hS ?_
        rotate_left
        · (intro w' hS'; (try dsimp only at hS'); dsimp only [zo175_1_2]; go_simp; try with_reducible rfl)
        simp only [Act.put, pa175_1, pb175_1, pc175_1]
        refine tk175_1 (i := 3) (oi := zo175_1_3) (v := ?_) rfl (by kernel_rfl) (fun _ _ _ h => h) (Or.inl ⟨rfl, ?_⟩) hS ?_
        rotate_left
        · (intro w' hS'; (try dsimp only at hS'); dsimp only [zo175_1_3]; go_simp; try with_reducible rfl)
        simp only [Act.put, pa175_1, pb175_1, pc175_1]
        refine tk175_1 (i := 4) (oi := zo175_1_4) (v := ?_) rfl (by kernel_rfl) (fun _ _ _ h => h) (Or.inl ⟨rfl, ?_⟩) hS ?_
        rotate_left
        · (intro w' hS'; (try dsimp only at hS'); dsimp only [zo175_1_4]; go_simp; try with_reducible rfl)
        simp only [Act.put, pa175_1, pb175_1, pc175_1]
        refine tk175_1 (i := 5) (oi := zo175_1_5) (v := ?_) rfl (by kernel_rfl) (fun _ _ _ h => h) (Or.inl ⟨rfl, ?_⟩) hS ?_
        rotate_left
        · (intro w' hS'; (try dsimp only at hS'); dsimp only [zo175_1_5]; go_simp; try with_reducible rfl)
        simp only [Act.put, pa175_1, pb175_1, pc175_1]
        refine tk175_1 (i := 6) (oi := zo175_1_6) (v := ?_) rfl (by kernel_rfl) (fun _ _ _ h => h) (Or.inl ⟨rfl, ?_⟩) hS ?_
        rotate_left
        · (intro w' hS'; (try dsimp only at hS'); dsimp only [zo175_1_6]; go_simp; try with_reducible rfl)
        simp only [Act.put, pa175_1, pb175_1, pc175_1]
        refine tk175_1 (i := 7) (oi := zo175_1_7) (v := ?_) rfl (by kernel_rfl) (fun _ _ _ h => h) (Or.inl ⟨rfl, ?_⟩) hS ?_
        rotate_left
        · (intro w' hS'; (try dsimp only at hS'); dsimp only [zo175_1_7]; go_simp; try with_reducible rfl)
        simp only [Act.put, pa175_1, pb175_1, pc175_1]
        refine tk175_1 (i := 8) (oi := zo175_1_8) (v := ?_) rfl (by kernel_rfl) (fun _ _ _ h => h) (Or.inl ⟨rfl, ?_⟩) hS ?_
        rotate_left
        · (intro w' hS'; (try dsimp only at hS'); dsimp only [zo175_1_8]; go_simp; try with_reducible rfl)
        simp only [Act.put, pa175_1, pb175_1, pc175_1]
        refine tk175_1 (i := 9) (oi := zo175_1_9) (v := ?_) rfl (by kernel_rfl) (fun _ _ _ h => h) (Or.inl ⟨rfl, ?_⟩) hS ?_
        rotate_left
        · (intro w' hS'; (try dsimp only at hS'); dsimp only [zo175_1_9]; go_simp; try with_reducible rfl)
        simp only [Act.put, pa175_1, pb175_1, pc175_1]
        refine tk175_1 (i := 10) (oi := zo175_1_10) (v := ?_) rfl (by kernel_rfl) (fun _ _ _ h => h) (Or.inl ⟨rfl, ?_⟩) hS ?_
        rotate_left
        · (intro w' hS'; (try dsimp only at hS'); dsimp only [zo175_1_10]; go_simp; try with_reducible rfl)
        simp only [Act.put, pa175_1, pb175_1, pc175_1]
        refine tk175_1 (i := 11) (oi := zo175_1_11) (v := ?_) rfl (by kernel_rfl) (fun _ _ _ h => h) (Or.inl ⟨rfl, ?_⟩) hS ?_
        rotate_left
        · (intro w' hS'; (try dsimp only at hS'); dsimp only [zo175_1_11]; go_simp; try with_reducible rfl)
        simp only [Act.put, pa175_1, pb175_1, pc175_1]
        refine tk175_1 (i := 12) (oi := zo175_1_12) (v := ?_) rfl (by kernel_rfl) (fun _ _ _ h => h) (Or.inl ⟨rfl, ?_⟩) hS ?_
        rotate_left
        · (intro w' hS'; (try dsimp only at hS'); dsimp only [zo175_1_12]; go_simp; try with_reducible rfl)
        simp only [Act.put, pa175_1, pb175_1, pc175_1]
        refine tk175_1 (i := 13) (oi := zo175_1_13) (v := ?_) rfl (by kernel_rfl) (fun _ _ _ h => h) (Or.inl ⟨rfl, ?_⟩) hS ?_
        rotate_left
        · (intro w' hS'; (try dsimp only at hS'); dsimp only [zo175_1_13]; go_simp; try with_reducible rfl)
        simp only [Act.put, pa175_1, pb175_1, pc175_1]
        refine tk175_1 (i := 14) (oi := zo175_1_14) (v := ?_) rfl (by kernel_rfl) (fun _ _ _ h => h) (Or.inl ⟨rfl, ?_⟩) hS ?_
        rotate_left
        · (intro w' hS'; (try dsimp only at hS'); dsimp only [zo175_1_14]; go_simp; try with_reducible rfl)
        simp only [Act.put, pa175_1, pb175_1, pc175_1]
        refine tk175_1 (i := 15) (oi := zo175_1_15) (v := ?_) rfl (by kernel_rfl) (fun _ _ _ h => h) (Or.inl ⟨rfl, ?_⟩) hS ?_
        rotate_left
        · (intro w' hS'; (try dsimp only at hS'); dsimp only [zo175_1_15]; go_simp; try with_reducible rfl)
        simp only [Act.put, pa175_1, pb175_1, pc175_1]
        refine tk175_1 (i := 16) (oi := zo175_1_16) (v := ?_) rfl (by kernel_rfl) (fun _ _ _ h => h) (Or.inl ⟨rfl, ?_⟩) hS ?_
        rotate_left
        · (intro w' hS'; (try dsimp only at hS'); dsimp only [zo175_1_16]; go_simp; try with_reducible rfl)
        simp only [Act.put, pa175_1, pb175_1, pc175_1]
        refine tk175_1 (i := 17) (oi := zo175_1_17) (v := ?_) rfl (by kernel_rfl) (fun _ _ _ h => h) (Or.inl ⟨rfl, ?_⟩) hS ?_
        rotate_left
        · (intro w' hS'; (try dsimp only at hS'); dsimp only [zo175_1_17]; go_simp; try with_reducible rfl)
        simp only [Act.put, pa175_1, pb175_1, pc175_1]
        refine tk175_1 (i := 18) (oi := zo175_1_18) (v := ?_) rfl (by kernel_rfl) (fun _ _ _ h => h) (Or.inl ⟨rfl, ?_⟩) hS ?_
        rotate_left
        · (intro w' hS'; (try dsimp only at hS'); dsimp only [zo175_1_18]; go_simp; try with_reducible rfl)
        simp only [Act.put, pa175_1, pb175_1, pc175_1]
        refine tk175_1 (i := 19) (oi := zo175_1_19) (v := ?_) rfl (by kernel_rfl) (fun _ _ _ h => h) (Or.inl ⟨rfl, ?_⟩) hS ?_
        rotate_left
        · (intro w' hS'; (try dsimp only at hS'); dsimp only [zo175_1_19]; go_simp; try with_reducible rfl)
        simp only [Act.put, pa175_1, pb175_1, pc175_1]
        refine tk175_1 (i := 20) (oi := zo175_1_20) (v := ?_) rfl (by kernel_rfl) (fun _ _ _ h => h) (Or.inl ⟨rfl, ?_⟩) hS ?_
        rotate_left
        · (intro w' hS'; (try dsimp only at hS'); dsimp only [zo175_1_20]; go_simp; try with_reducible rfl)
        simp only [Act.put, pa175_1, pb175_1, pc175_1]
        refine tk175_1 (i := 21) (oi := zo175_1_21) (v := ?_) rfl (by kernel_rfl) (fun _ _ _ h => h) (Or.inl ⟨rfl, ?_⟩) hS ?_
        rotate_left
        · (intro w' hS'; (try dsimp only at hS'); dsimp only [zo175_1_21]; go_simp; try with_reducible rfl)
        simp only [Act.put, pa175_1, pb175_1, pc175_1]
        refine tk175_1 (i := 22) (oi := zo175_1_22) (v := ?_) rfl (by kernel_rfl) (fun _ _ _ h => h) (Or.inl ⟨rfl, ?_⟩) hS ?_
        rotate_left
        · (intro w' hS'; (try dsimp only at hS'); dsimp only [zo175_1_22]; go_simp; try with_reducible rfl)
        simp only [Act.put, pa175_1, pb175_1, pc175_1]
        refine tk175_1 (i := 23) (oi := zo175_1_23) (v := ?_) rfl (by kernel_rfl) (fun _ _ _ h => h) (Or.inl ⟨rfl, ?_⟩) hS ?_
        rotate_left
        · (intro w' hS'; (try dsimp only at hS'); dsimp only [zo175_1_23]; go_simp; try with_reducible rfl)
        simp only [Act.put, pa175_1, pb175_1, pc175_1]
        refine tk175_1 (i := 24) (oi := zo175_1_24) (v := ?_) rfl (by kernel_rfl) (fun _ _ _ h => h) (Or.inl ⟨rfl, ?_⟩) hS ?_
        rotate_left
        · (intro w' hS'; (try dsimp only at hS'); dsimp only [zo175_1_24]; go_simp; try with_reducible rfl)
        simp only [Act.put, pa175_1, pb175_1, pc175_1]
        refine tk175_1 (i := 25) (oi := zo175_1_25) (v := ?_) rfl (by kernel_rfl) (fun _ _ _ h => h) (Or.inl ⟨rfl, ?_⟩) hS ?_
        rotate_left
        · (intro w' hS'; (try dsimp only at hS'); dsimp only [zo175_1_25]; go_simp; try with_reducible rfl)
        simp only [Act.put, pa175_1, pb175_1, pc175_1]
        refine tk175_1 (i := 26) (oi := zo175_1_26) (v := ?_) rfl (by kernel_rfl) (fun _ _ _ h => h) (Or.inl ⟨rfl, ?_⟩) hS ?_
        rotate_left
        · (intro w' hS'; (try dsimp only at hS'); dsimp only [zo175_1_26]; go_simp; try with_reducible rfl)
        simp only [Act.put, pa175_1, pb175_1, pc175_1]
        refine tk175_1 (i := 27) (oi := zo175_1_27) (v := ?_) rfl (by kernel_rfl) (fun _ _ _ h => h) (Or.inl ⟨rfl, ?_⟩) hS ?_
        rotate_left
        · (intro w' hS'; (try dsimp only at hS'); dsimp only [zo175_1_27]; go_simp; try with_reducible rfl)
        simp only [Act.put, pa175_1, pb175_1, pc175_1]
        refine tk175_1 (i := 28) (oi := zo175_1_28) (v := ?_) rfl (by kernel_rfl) (fun _ _ _ h => h) (Or.inl ⟨rfl, ?_⟩) hS ?_
        rotate_left
        · (intro w' hS'; (try dsimp only at hS'); dsimp only [zo175_1_28]; go_simp; try with_reducible rfl)
        simp only [Act.put, pa175_1, pb175_1, pc175_1]
        refine tk175_1 (i := 29) (oi := zo175_1_29) (v := ?_) rfl (by kernel_rfl) (fun _ _ _ h => h) (Or.inl ⟨rfl, ?_⟩) hS ?_
        rotate_left
        · (intro w' hS'; (try dsimp only at hS'); dsimp only [zo175_1_29]; go_simp; try with_reducible rfl)
        simp only [Act.put, pa175_1, pb175_1, pc175_1]
        refine tk175_1 (i := 30) (oi := zo175_1_30) (v := ?_) rfl (by kernel_rfl) (fun _ _ _ h => h) (Or.inl ⟨rfl, ?_⟩) hS ?_
        rotate_left
        · (intro w' hS'; (try dsimp only at hS'); dsimp only [zo175_1_30]; go_simp; try with_reducible rfl)
        simp only [Act.put, pa175_1, pb175_1, pc175_1]
        refine tk175_1 (i := 31) (oi := zo175_1_31) (v := ?_) rfl (by kernel_rfl) (fun _ _ _ h => h) (Or.inl ⟨rfl, ?_⟩) hS ?_
        rotate_left
        · (intro w' hS'; (try dsimp only at hS'); dsimp only [zo175_1_31]; go_simp; try with_reducible rfl)
        simp only [Act.put, pa175_1, pb175_1, pc175_1]
        refine wpAnyH_done (by kernel_rfl) ?_ _
        go_wp2_with fail
        go_ret
        exact ⟨ret_boolI HF.out.symm, 1, rfl⟩
    · rw [decide_eq_false h2] at he
      have HF : Hid (cLess (bigKey x) (bigKey y) = false) := by show _ = _; rw [hc, h1, decide_eq_false h2]; rfl
      unfold bLess at h1
      clear hc h2
      go_enter Tryz.func175, Tryz.ntmps175
      go_wp2_with fail
      have hS : (fun w' : World => w'.cell? ⟨g, f, none⟩ = some (.string x.first) ∧ w'.cell? ⟨g, f + 1, none⟩ = some (.string x.second) ∧ w'.cell? ⟨g', f', none⟩ = some (.string y.first) ∧ w'.cell? ⟨g', f' + 1, none⟩ = some (.string y.second)) w.drew := ⟨a0, a1, b0, b1⟩
      dsimp only at hS
      refine wp_region_held_drew (S := (fun w' : World => w'.cell? ⟨g, f, none⟩ = some (.string x.first) ∧ w'.cell? ⟨g, f + 1, none⟩ = some (.string x.second) ∧ w'.cell? ⟨g', f', none⟩ = some (.string y.first) ∧ w'.cell? ⟨g', f' + 1, none⟩ = some (.string y.second))) (by kernel_rfl) hS (fun _ => ?_)
      refine tk175_1 (i := 0) (oi := zo175_1_0) (v := ?_) rfl (by kernel_rfl) (fun _ _ _ h => h) (Or.inl ⟨rfl, ?_⟩) hS ?_
      rotate_left
      · (intro w' hS'; (try dsimp only at hS'); dsimp only [zo175_1_0]; go_simp; try with_reducible rfl)
      simp only [Act.put, pa175_1, pb175_1, pc175_1]
      refine tk175_1 (i := 1) (oi := zo175_1_1) (v := ?_) rfl (by kernel_rfl) (fun _ _ _ h => h) (Or.inl ⟨rfl, ?_⟩) hS ?_
      rotate_left
      · (intro w' hS'; (try dsimp only at hS'); dsimp only [zo175_1_1]; go_simp; try with_reducible rfl)
      simp only [Act.put, pa175_1, pb175_1, pc175_1]
      refine tk175_1 (i := 2) (oi := zo175_1_2) (v := ?_) rfl (by kernel_rfl) (fun _ _ _ h => h) (Or.inl ⟨rfl, ?_⟩) hS ?_
      rotate_left
      · (intro w' hS'; (try dsimp only at hS'); dsimp only [zo175_1_2]; go_simp; try with_reducible rfl)
      simp only [Act.put, pa175_1, pb175_1, pc175_1]
      refine tk175_1 (i := 3) (oi := zo175_1_3) (v := ?_) rfl (by kernel_rfl) (fun _ _ _ h => h) (Or.inl ⟨rfl, ?_⟩) hS ?_
      rotate_left
      · (intro w' hS'; (try dsimp only at hS'); dsimp only [zo175_1_3]; go_simp; try with_reducible rfl)
      simp only [Act.put, pa175_1, pb175_1, pc175_1]
      refine tk175_1 (i := 4) (oi := zo175_1_4) (v := ?_) rfl (by kernel_rfl) (fun _ _ _ h => h) (Or.inl ⟨rfl, ?_⟩) hS ?_
      rotate_left
      · (intro w' hS'; (try dsimp only at hS'); dsimp only [zo175_1_4]; go_simp; try with_reducible rfl)
      simp only [Act.put, pa175_1, pb175_1, pc175_1]
      refine tk175_1 (i := 5) (oi := zo175_1_5) (v := ?_) rfl (by kernel_rfl) (fun _ _ _ h => h) (Or.inl ⟨rfl, ?_⟩) hS ?_
      rotate_left
      · (intro w' hS'; (try dsimp only at hS'); dsimp only [zo175_1_5]; go_simp; try with_reducible rfl)
      simp only [Act.put, pa175_1, pb175_1, pc175_1]
      refine tk175_1 (i := 6) (oi := zo175_1_6) (v := ?_) rfl (by kernel_rfl) (fun _ _ _ h => h) (Or.inl ⟨rfl, ?_⟩) hS ?_
      rotate_left
      · (intro w' hS'; (try dsimp only at hS'); dsimp only [zo175_1_6]; go_simp; try with_reducible rfl)
      simp only [Act.put, pa175_1, pb175_1, pc175_1]
      refine tk175_1 (i := 7) (oi := zo175_1_7) (v := ?_) rfl (by kernel_rfl) (fun _ _ _ h => h) (Or.inl ⟨rfl, ?_⟩) hS ?_
      rotate_left
      · (intro w' hS'; (try dsimp only at hS'); dsimp only [zo175_1_7]; go_simp; try with_reducible rfl)
      simp only [Act.put, pa175_1, pb175_1, pc175_1]
      refine tk175_1 (i := 8) (oi := zo175_1_8) (v := ?_) rfl (by kernel_rfl) (fun _ _ _ h => h) (Or.inl ⟨rfl, ?_⟩) hS ?_
      rotate_left
      · (intro w' hS'; (try dsimp only at hS'); dsimp only [zo175_1_8]; go_simp; try with_reducible rfl)
      simp only [Act.put, pa175_1, pb175_1, pc175_1]
      refine tk175_1 (i := 9) (oi := zo175_1_9) (v := ?_) rfl (by kernel_rfl) (fun _ _ _ h => h) (Or.inl ⟨rfl, ?_⟩) hS ?_
      rotate_left
      · (intro w' hS'; (try dsimp only at hS'); dsimp only [zo175_1_9]; go_simp; try with_reducible rfl)
      simp only [Act.put, pa175_1, pb175_1, pc175_1]
      refine tk175_1 (i := 10) (oi := zo175_1_10) (v := ?_) rfl (by kernel_rfl) (fun _ _ _ h => h) (Or.inl ⟨rfl, ?_⟩) hS ?_
      rotate_left
      · (intro w' hS'; (try dsimp only at hS'); dsimp only [zo175_1_10]; go_simp; try with_reducible rfl)
      simp only [Act.put, pa175_1, pb175_1, pc175_1]
      refine tk175_1 (i := 11) (oi := zo175_1_11) (v := ?_) rfl (by kernel_rfl) (fun _ _ _ h => h) (Or.inl ⟨rfl, ?_⟩) hS ?_
      rotate_left
      · (intro w' hS'; (try dsimp only at hS'); dsimp only [zo175_1_11]; go_simp; try with_reducible rfl)
      simp only [Act.put, pa175_1, pb175_1, pc175_1]
      refine tk175_1 (i := 12) (oi := zo175_1_12) (v := ?_) rfl (by kernel_rfl) (fun _ _ _ h => h) (Or.inl ⟨rfl, ?_⟩) hS ?_
      rotate_left
      · (intro w' hS'; (try dsimp only at hS'); dsimp only [zo175_1_12]; go_simp; try with_reducible rfl)
      simp only [Act.put, pa175_1, pb175_1, pc175_1]
      refine tk175_1 (i := 13) (oi := zo175_1_13) (v := ?_) rfl (by kernel_rfl) (fun _ _ _ h => h) (Or.inl ⟨rfl, ?_⟩) hS ?_
      rotate_left
      · (intro w' hS'; (try dsimp only at hS'); dsimp only [zo175_1_13]; go_simp; try with_reducible rfl)
      simp only [Act.put, pa175_1, pb175_1, pc175_1]
      refine tk175_1 (i := 14) (oi := zo175_1_14) (v := ?_) rfl (by kernel_rfl) (fun _ _ _ h => h) (Or.inl ⟨rfl, ?_⟩) hS ?_
      rotate_left
      · (intro w' hS'; (try dsimp only at hS'); dsimp only [zo175_1_14]; go_simp; try with_reducible rfl)
      simp only [Act.put, pa175_1, pb175_1, pc175_1]
      refine tk175_1 (i := 15) (oi := zo175_1_15) (v := ?_) rfl (by kernel_rfl) (fun _ _ _ h => h) (Or.inl ⟨rfl, ?_⟩) hS ?_
      rotate_left
      · (intro w' hS'; (try dsimp only at hS'); dsimp only [zo175_1_15]; go_simp; try with_reducible rfl)
      simp only [Act.put, pa175_1, pb175_1, pc175_1]
      refine tk175_1 (i := 16) (oi := zo175_1_16) (v := ?_) rfl (by kernel_rfl) (fun _ _ _ h => h) (Or.inl ⟨rfl, ?_⟩) hS ?_
      rotate_left
      · (intro w' hS'; (try dsimp only at hS'); dsimp only [zo175_1_16]; go_simp; try with_reducible rfl)
      simp only [Act.put, pa175_1, pb175_1, pc175_1]
      refine tk175_1 (i := 17) (oi := zo175_1_17) (v := ?_) rfl (by kernel_rfl) (fun _ _ _ h => h) (Or.inl ⟨rfl, ?_⟩) hS ?_
      rotate_left
      · (intro w' hS'; (try dsimp only at hS'); dsimp only [zo175_1_17]; go_simp; try with_reducible rfl)
      simp only [Act.put, pa175_1, pb175_1, pc175_1]
      refine tk175_1 (i := 18) (oi := zo175_1_18) (v := ?_) rfl (by kernel_rfl) (fun _ _ _ h => h) (Or.inl ⟨rfl, ?_⟩) hS ?_
      rotate_left
      · (intro w' hS'; (try dsimp only at hS'); dsimp only [zo175_1_18]; go_simp; try with_reducible rfl)
      simp only [Act.put, pa175_1, pb175_1, pc175_1]
      refine tk175_1 (i := 19) (oi := zo175_1_19) (v := ?_) rfl (by kernel_rfl) (fun _ _ _ h => h) (Or.inl ⟨rfl, ?_⟩) hS ?_
      rotate_left
      · (intro w' hS'; (try dsimp only at hS'); dsimp only [zo175_1_19]; go_simp; try with_reducible rfl)
      simp only [Act.put, pa175_1, pb175_1, pc175_1]
      refine tk175_1 (i := 20) (oi := zo175_1_20) rfl (by kernel_rfl) (fun _ _ _ h => h) (Or.inr ⟨rfl, rfl⟩) hS ?_
      simp only [Act.put, pa175_1, pb175_1, pc175_1]
      refine tk175_1 (i := 21) (oi := zo175_1_21) rfl (by kernel_rfl) (fun _ _ _ h => h) (Or.inr ⟨rfl, rfl⟩) hS ?_
      simp only [Act.put, pa175_1, pb175_1, pc175_1]
      refine tk175_1 (i := 22) (oi := zo175_1_22) rfl (by kernel_rfl) (fun _ _ _ h => h) (Or.inr ⟨rfl, rfl⟩) hS ?_
      simp only [Act.put, pa175_1, pb175_1, pc175_1]
      refine tk175_1 (i := 23) (oi := zo175_1_23) rfl (by kernel_rfl) (fun _ _ _ h => h) (Or.inr ⟨rfl, rfl⟩) hS ?_
      simp only [Act.put, pa175_1, pb175_1, pc175_1]
      refine tk175_1 (i := 24) (oi := zo175_1_24) rfl (by kernel_rfl) (fun _ _ _ h => h) (Or.inr ⟨rfl, rfl⟩) hS ?_
      simp only [Act.put, pa175_1, pb175_1, pc175_1]
      refine tk175_1 (i := 25) (oi := zo175_1_25) rfl (by kernel_rfl) (fun _ _ _ h => h) (Or.inr ⟨rfl, rfl⟩) hS ?_
      simp only [Act.put, pa175_1, pb175_1, pc175_1]
      refine tk175_1 (i := 26) (oi := zo175_1_26) rfl (by kernel_rfl) (fun _ _ _ h => h) (Or.inr ⟨rfl, rfl⟩) hS ?_
      simp only [Act.put, pa175_1, pb175_1, pc175_1]
      refine tk175_1 (i := 27) (oi := zo175_1_27) rfl (by kernel_rfl) (fun _ _ _ h => h) (Or.inr ⟨rfl, rfl⟩) hS ?_
      simp only [Act.put, pa175_1, pb175_1, pc175_1]
      refine tk175_1 (i := 28) (oi := zo175_1_28) rfl (by kernel_rfl) (fun _ _ _ h => h) (Or.inr ⟨rfl, rfl⟩) hS ?_
      simp only [Act.put, pa175_1, pb175_1, pc175_1]
      refine tk175_1 (i := 29) (oi := zo175_1_29) (v := ?_) rfl (by kernel_rfl) (fun _ _ _ h => h) (Or.inl ⟨rfl, ?_⟩) hS ?_
      rotate_left
      · (intro w' hS'; (try dsimp only at hS'); dsimp only [zo175_1_29]; go_simp; try with_reducible rfl)
      simp only [Act.put, pa175_1, pb175_1, pc175_1]
      refine tk175_1 (i := 30) (oi := zo175_1_30) (v := ?_) rfl (by kernel_rfl) (fun _ _ _ h => h) (Or.inl ⟨rfl, ?_⟩) hS ?_
      rotate_left
      · (intro w' hS'; (try dsimp only at hS'); dsimp only [zo175_1_30]; go_simp; try with_reducible rfl)
      simp only [Act.put, pa175_1, pb175_1, pc175_1]
      refine tk175_1 (i := 31) (oi := zo175_1_31) (v := ?_) rfl (by kernel_rfl) (fun _ _ _ h => h) (Or.inl ⟨rfl, ?_⟩) hS ?_
      rotate_left
      · (intro w' hS'; (try dsimp only at hS'); dsimp only [zo175_1_31]; go_simp; try with_reducible rfl)
      simp only [Act.put, pa175_1, pb175_1, pc175_1]
      refine wpAnyH_done (by kernel_rfl) ?_ _
      go_wp2_with fail
      go_ret
      exact ⟨ret_boolI HF.out.symm, 1, rfl⟩
  · have HF : Hid (cLess (bigKey x) (bigKey y) = true) := by show _ = _; rw [hc, h1]; rfl
    unfold bLess at h1
    clear hc he
    go_enter Tryz.func175, Tryz.ntmps175
    go_wp2_with fail
    have hS : (fun w' : World => w'.cell? ⟨g, f, none⟩ = some (.string x.first) ∧ w'.cell? ⟨g, f + 1, none⟩ = some (.string x.second) ∧ w'.cell? ⟨g', f', none⟩ = some (.string y.first) ∧ w'.cell? ⟨g', f' + 1, none⟩ = some (.string y.second)) w.drew := ⟨a0, a1, b0, b1⟩
    dsimp only at hS
    refine wp_region_held_drew (S := (fun w' : World => w'.cell? ⟨g, f, none⟩ = some (.string x.first) ∧ w'.cell? ⟨g, f + 1, none⟩ = some (.string x.second) ∧ w'.cell? ⟨g', f', none⟩ = some (.string y.first) ∧ w'.cell? ⟨g', f' + 1, none⟩ = some (.string y.second))) (by kernel_rfl) hS (fun _ => ?_)
    refine tk175_1 (i := 0) (oi := zo175_1_0) (v := ?_) rfl (by kernel_rfl) (fun _ _ _ h => h) (Or.inl ⟨rfl, ?_⟩) hS ?_
    rotate_left
    · (intro w' hS'; (try dsimp only at hS'); dsimp only [zo175_1_0]; go_simp; try with_reducible rfl)
    simp only [Act.put, pa175_1, pb175_1, pc175_1]
    refine tk175_1 (i := 1) (oi := zo175_1_1) (v := ?_) rfl (by kernel_rfl) (fun _ _ _ h => h) (Or.inl ⟨rfl, ?_⟩) hS ?_
    rotate_left
    · (intro w' hS'; (try dsimp only at hS'); dsimp only [zo175_1_1]; go_simp; try with_reducible rfl)
    simp only [Act.put, pa175_1, pb175_1, pc175_1]
    refine tk175_1 (i := 2) (oi := zo175_1_2) (v := ?_) rfl (by kernel_rfl) (fun _ _ _ h => h) (Or.inl ⟨rfl, ?_⟩) hS ?_
    rotate_left
    · (intro w' hS'; (try dsimp only at hS'); dsimp only [zo175_1_2]; go_simp; try with_reducible rfl)
    simp only [Act.put, pa175_1, pb175_1, pc175_1]
    refine tk175_1 (i := 3) (oi := zo175_1_3) (v := ?_) rfl (by kernel_rfl) (fun _ _ _ h => h) (Or.inl ⟨rfl, ?_⟩) hS ?_
    rotate_left
    · (intro w' hS'; (try dsimp only at hS'); dsimp only [zo175_1_3]; go_simp; try with_reducible rfl)
    simp only [Act.put, pa175_1, pb175_1, pc175_1]
    refine tk175_1 (i := 4) (oi := zo175_1_4) (v := ?_) rfl (by kernel_rfl) (fun _ _ _ h => h) (Or.inl ⟨rfl, ?_⟩) hS ?_
    rotate_left
    · (intro w' hS'; (try dsimp only at hS'); dsimp only [zo175_1_4]; go_simp; try with_reducible rfl)
    simp only [Act.put, pa175_1, pb175_1, pc175_1]
    refine tk175_1 (i := 5) (oi := zo175_1_5) (v := ?_) rfl (by kernel_rfl) (fun _ _ _ h => h) (Or.inl ⟨rfl, ?_⟩) hS ?_
    rotate_left
    · (intro w' hS'; (try dsimp only at hS'); dsimp only [zo175_1_5]; go_simp; try with_reducible rfl)
    simp only [Act.put, pa175_1, pb175_1, pc175_1]
    refine tk175_1 (i := 6) (oi := zo175_1_6) (v := ?_) rfl (by kernel_rfl) (fun _ _ _ h => h) (Or.inl ⟨rfl, ?_⟩) hS ?_
    rotate_left
    · (intro w' hS'; (try dsimp only at hS'); dsimp only [zo175_1_6]; go_simp; try with_reducible rfl)
    simp only [Act.put, pa175_1, pb175_1, pc175_1]
    refine tk175_1 (i := 7) (oi := zo175_1_7) (v := ?_) rfl (by kernel_rfl) (fun _ _ _ h => h) (Or.inl ⟨rfl, ?_⟩) hS ?_
    rotate_left
    · (intro w' hS'; (try dsimp only at hS'); dsimp only [zo175_1_7]; go_simp; try with_reducible rfl)
    simp only [Act.put, pa175_1, pb175_1, pc175_1]
    refine tk175_1 (i := 8) (oi := zo175_1_8) (v := ?_) rfl (by kernel_rfl) (fun _ _ _ h => h) (Or.inl ⟨rfl, ?_⟩) hS ?_
    rotate_left
    · (intro w' hS'; (try dsimp only at hS'); dsimp only [zo175_1_8]; go_simp; try with_reducible rfl)
    simp only [Act.put, pa175_1, pb175_1, pc175_1]
    refine tk175_1 (i := 9) (oi := zo175_1_9) (v := ?_) rfl (by kernel_rfl) (fun _ _ _ h => h) (Or.inl ⟨rfl, ?_⟩) hS ?_
    rotate_left
    · (intro w' hS'; (try dsimp only at hS'); dsimp only [zo175_1_9]; go_simp; try with_reducible rfl)
    simp only [Act.put, pa175_1, pb175_1, pc175_1]
    refine tk175_1 (i := 10) (oi := zo175_1_10) rfl (by kernel_rfl) (fun _ _ _ h => h) (Or.inr ⟨rfl, rfl⟩) hS ?_
    simp only [Act.put, pa175_1, pb175_1, pc175_1]
    refine tk175_1 (i := 11) (oi := zo175_1_11) rfl (by kernel_rfl) (fun _ _ _ h => h) (Or.inr ⟨rfl, rfl⟩) hS ?_
    simp only [Act.put, pa175_1, pb175_1, pc175_1]
    refine tk175_1 (i := 12) (oi := zo175_1_12) rfl (by kernel_rfl) (fun _ _ _ h => h) (Or.inr ⟨rfl, rfl⟩) hS ?_
    simp only [Act.put, pa175_1, pb175_1, pc175_1]
    refine tk175_1 (i := 13) (oi := zo175_1_13) rfl (by kernel_rfl) (fun _ _ _ h => h) (Or.inr ⟨rfl, rfl⟩) hS ?_
    simp only [Act.put, pa175_1, pb175_1, pc175_1]
    refine tk175_1 (i := 14) (oi := zo175_1_14) rfl (by kernel_rfl) (fun _ _ _ h => h) (Or.inr ⟨rfl, rfl⟩) hS ?_
    simp only [Act.put, pa175_1, pb175_1, pc175_1]
    refine tk175_1 (i := 15) (oi := zo175_1_15) rfl (by kernel_rfl) (fun _ _ _ h => h) (Or.inr ⟨rfl, rfl⟩) hS ?_
    simp only [Act.put, pa175_1, pb175_1, pc175_1]
    refine tk175_1 (i := 16) (oi := zo175_1_16) rfl (by kernel_rfl) (fun _ _ _ h => h) (Or.inr ⟨rfl, rfl⟩) hS ?_
    simp only [Act.put, pa175_1, pb175_1, pc175_1]
    refine tk175_1 (i := 17) (oi := zo175_1_17) rfl (by kernel_rfl) (fun _ _ _ h => h) (Or.inr ⟨rfl, rfl⟩) hS ?_
    simp only [Act.put, pa175_1, pb175_1, pc175_1]
    refine tk175_1 (i := 18) (oi := zo175_1_18) rfl (by kernel_rfl) (fun _ _ _ h => h) (Or.inr ⟨rfl, rfl⟩) hS ?_
    simp only [Act.put, pa175_1, pb175_1, pc175_1]
    refine tk175_1 (i := 19) (oi := zo175_1_19) rfl (by kernel_rfl) (fun _ _ _ h => h) (Or.inr ⟨rfl, rfl⟩) hS ?_
    simp only [Act.put, pa175_1, pb175_1, pc175_1]
    refine tk175_1 (i := 20) (oi := zo175_1_20) rfl (by kernel_rfl) (fun _ _ _ h => h) (Or.inr ⟨rfl, rfl⟩) hS ?_
    simp only [Act.put, pa175_1, pb175_1, pc175_1]
    refine tk175_1 (i := 21) (oi := zo175_1_21) rfl (by kernel_rfl) (fun _ _ _ h => h) (Or.inr ⟨rfl, rfl⟩) hS ?_
    simp only [Act.put, pa175_1, pb175_1, pc175_1]
    refine tk175_1 (i := 22) (oi := zo175_1_22) rfl (by kernel_rfl) (fun _ _ _ h => h) (Or.inr ⟨rfl, rfl⟩) hS ?_
    simp only [Act.put, pa175_1, pb175_1, pc175_1]
    refine tk175_1 (i := 23) (oi := zo175_1_23) rfl (by kernel_rfl) (fun _ _ _ h => h) (Or.inr ⟨rfl, rfl⟩) hS ?_
    simp only [Act.put, pa175_1, pb175_1, pc175_1]
    refine tk175_1 (i := 24) (oi := zo175_1_24) rfl (by kernel_rfl) (fun _ _ _ h => h) (Or.inr ⟨rfl, rfl⟩) hS ?_
    simp only [Act.put, pa175_1, pb175_1, pc175_1]
    refine tk175_1 (i := 25) (oi := zo175_1_25) rfl (by kernel_rfl) (fun _ _ _ h => h) (Or.inr ⟨rfl, rfl⟩) hS ?_
    simp only [Act.put, pa175_1, pb175_1, pc175_1]
    refine tk175_1 (i := 26) (oi := zo175_1_26) rfl (by kernel_rfl) (fun _ _ _ h => h) (Or.inr ⟨rfl, rfl⟩) hS ?_
    simp only [Act.put, pa175_1, pb175_1, pc175_1]
    refine tk175_1 (i := 27) (oi := zo175_1_27) rfl (by kernel_rfl) (fun _ _ _ h => h) (Or.inr ⟨rfl, rfl⟩) hS ?_
    simp only [Act.put, pa175_1, pb175_1, pc175_1]
    refine tk175_1 (i := 28) (oi := zo175_1_28) rfl (by kernel_rfl) (fun _ _ _ h => h) (Or.inr ⟨rfl, rfl⟩) hS ?_
    simp only [Act.put, pa175_1, pb175_1, pc175_1]
    refine tk175_1 (i := 29) (oi := zo175_1_29) rfl (by kernel_rfl) (fun _ _ _ h => h) (Or.inr ⟨rfl, rfl⟩) hS ?_
    simp only [Act.put, pa175_1, pb175_1, pc175_1]
    refine tk175_1 (i := 30) (oi := zo175_1_30) (v := ?_) rfl (by kernel_rfl) (fun _ _ _ h => h) (Or.inl ⟨rfl, ?_⟩) hS ?_
    rotate_left
    · (intro w' hS'; (try dsimp only at hS'); dsimp only [zo175_1_30]; go_simp; try with_reducible rfl)
    simp only [Act.put, pa175_1, pb175_1, pc175_1]
    refine tk175_1 (i := 31) (oi := zo175_1_31) (v := ?_) rfl (by kernel_rfl) (fun _ _ _ h => h) (Or.inl ⟨rfl, ?_⟩) hS ?_
    rotate_left
    · (intro w' hS'; (try dsimp only at hS'); dsimp only [zo175_1_31]; go_simp; try with_reducible rfl)
    simp only [Act.put, pa175_1, pb175_1, pc175_1]
    refine wpAnyH_done (by kernel_rfl) ?_ _
    go_wp2_with fail
    go_ret
    exact ⟨ret_boolI HF.out.symm, 1, rfl⟩
set_option maxRecDepth 100000 in
set_option maxHeartbeats 4000000 in
theorem spec_l18Ok_c {o : Bool} {e : TypeId} {n : Int} {xs : List PBigram} {v : Value} {F : List Nat} {g f : Nat} (w : World) (c0 : w.cell? ⟨g, f, none⟩ = some (.int .i64 n)) (c1 : w.cell? ⟨g, f + 1, none⟩ = some v) (h : (pBigrams e).rep o w xs [v] F) (hx : xs.length ≤ 1048576) (hs : ∀ l ∈ xs, l.first.size ≤ 1048576 ∧ l.second.size ≤ 1048576) :
    Calls Tryz.prog 110 #[.pointer (some ⟨g, f, none⟩)] w (GivesB (modelB n xs) w) := by
  obtain ⟨A, c, rfl, hc1, hc2, hr⟩ := pBigrams_open h
  clear h
  go_enter Tryz.func110, Tryz.ntmps110
  go_wp2_with fail
  go_loopw [3] (fun i wr => ∃ k : Nat, k ≤ xs.length ∧ i = .int .i64 k ∧ Hid (bigsOk xs k = true) ∧ ∃ m, wr = w.drewN m) (fun i _ => xs.length - (intOf i).toNat)
  case atStart => exact ⟨0, Nat.zero_le _, rfl, rfl, 0, rfl⟩
  case round =>
    obtain ⟨k, hk, rfl, hok, m, rfl⟩ := hrel
    by_cases hlt : k < xs.length
    · obtain ⟨b, off, rfl, hbb, _, h0, h1, h2, _⟩ := hr k hlt
      have hsk := hs _ (List.getElem_mem hlt)
      have HW := Lib.hid (fun w' => spec_l18Bigram_c xs[k] hsk.1 hsk.2 (g := b) (f := off + k * 3) w')
      have he : bigOk xs k = (bigB xs[k] && (decide (k = 0) || cLess (bigKey (bigAt xs (k - 1))) (bigKey xs[k]))) := by rw [bigOk, bigAt_get hlt]
      have hs1 : bigsOk xs (k + 1) = (bigsOk xs k && bigOk xs k) := rfl
      clear hsk
      cases hw : bigB xs[k]
      · have HF := Lib.hid (modelB_false (n := n) hlt (by rw [he, hw]; rfl))
        simp only [hw] at HW
        clear hr hw he hs1
        go_wp2_with fail
        have hS : (fun w' : World => w'.cell? ⟨b, off + k * 3, none⟩ = some (.string xs[k].first) ∧ w'.cell? ⟨b, off + k * 3 + 1, none⟩ = some (.string xs[k].second) ∧ w'.cell? ⟨b, off + k * 3 + 2, none⟩ = some (.int .i64 xs[k].cost) ∧ w'.cell? ⟨g, f + 1, none⟩ = some (.slice (some ⟨b, off, none⟩) xs.length c)) (w.drewN m).drew := ⟨h0, h1, h2, c1⟩
        dsimp only at hS
        refine wp_region_held_drew (S := (fun w' : World => w'.cell? ⟨b, off + k * 3, none⟩ = some (.string xs[k].first) ∧ w'.cell? ⟨b, off + k * 3 + 1, none⟩ = some (.string xs[k].second) ∧ w'.cell? ⟨b, off + k * 3 + 2, none⟩ = some (.int .i64 xs[k].cost) ∧ w'.cell? ⟨g, f + 1, none⟩ = some (.slice (some ⟨b, off, none⟩) xs.length c))) (by kernel_rfl) hS (fun _ => ?_)
        refine tk175_1 (i := 0) (oi := zo110_4_0) (v := ?_) rfl (by kernel_rfl) (fun _ _ _ h => h) (Or.inl ⟨rfl, ?_⟩) hS ?_
        rotate_left
        · (intro w' hS'; (try dsimp only at hS'); dsimp only [zo110_4_0]; go_simp; try with_reducible rfl)
        simp only [Act.put, pa175_1, pb175_1, pc175_1]
        refine tk175_1 (i := 1) (oi := zo110_4_1) (v := ?_) rfl (by kernel_rfl) (fun _ _ _ h => h) (Or.inl ⟨rfl, ?_⟩) hS ?_
        rotate_left
        · (intro w' hS'; (try dsimp only at hS'); dsimp only [zo110_4_1]; go_simp; try with_reducible rfl)
        simp only [Act.put, pa175_1, pb175_1, pc175_1]
        refine tk175_1 (i := 2) (oi := zo110_4_2) (v := ?_) rfl (by kernel_rfl) (fun _ _ _ h => h) (Or.inl ⟨rfl, ?_⟩) hS ?_
        rotate_left
        · (intro w' hS'; (try dsimp only at hS'); dsimp only [zo110_4_2]; go_simp; try with_reducible rfl)
        simp only [Act.put, pa175_1, pb175_1, pc175_1]
        refine tk175_1 (i := 3) (oi := zo110_4_3) (v := ?_) rfl (by kernel_rfl) (fun _ _ _ h => h) (Or.inl ⟨rfl, ?_⟩) hS ?_
        rotate_left
        · (intro w' hS'; (try dsimp only at hS'); dsimp only [zo110_4_3]; go_simp; try with_reducible rfl)
        simp only [Act.put, pa175_1, pb175_1, pc175_1]
        refine tk175_1 (i := 4) (oi := zo110_4_4) (v := ?_) rfl (by kernel_rfl) (fun _ _ _ h => h) (Or.inl ⟨rfl, ?_⟩) hS ?_
        rotate_left
        · (intro w' hS'; (try dsimp only at hS'); dsimp only [zo110_4_4]; go_simp; try with_reducible rfl)
        simp only [Act.put, pa175_1, pb175_1, pc175_1]
        refine tk175_1 (i := 5) (oi := zo110_4_5) (v := ?_) rfl (by kernel_rfl) (fun _ _ _ h => h) (Or.inl ⟨rfl, ?_⟩) hS ?_
        rotate_left
        · (intro w' hS'; (try dsimp only at hS'); dsimp only [zo110_4_5]; go_simp; try with_reducible rfl)
        simp only [Act.put, pa175_1, pb175_1, pc175_1]
        refine wpAnyH_ready (rs := [6]) (by kernel_rfl) (by simp) ?_
        refine AllReadyH.cons (o := zo110_4_6) rfl (fun K hK => ?_) .nil
        refine step_call 174 #[Go.Operand.tmp 18] _ rfl rfl #[.pointer (some ⟨b, off + k * 3, none⟩)] Tryz.call174 (by go_simp) (HW.out _ hS.1 hS.2.1 hS.2.2.1) ?_
        rintro e w1 ⟨rfl, rfl⟩
        refine ⟨_, rfl, ?_⟩
        refine hK.out _ _ ?_ (fun hHeld => ?_)
        · exact hS
        clear hK K hHeld
        simp only [Act.put, pa175_1, pb175_1, pc175_1]
        refine tk175_1 (i := 7) (oi := zo110_4_7) (v := ?_) rfl (by kernel_rfl) (fun _ _ _ h => h) (Or.inl ⟨rfl, ?_⟩) hS ?_
        rotate_left
        · (intro w' hS'; (try dsimp only at hS'); dsimp only [zo110_4_7]; go_simp; try with_reducible rfl)
        simp only [Act.put, pa175_1, pb175_1, pc175_1]
        refine tk175_1 (i := 8) (oi := zo110_4_8) (v := ?_) rfl (by kernel_rfl) (fun _ _ _ h => h) (Or.inl ⟨rfl, ?_⟩) hS ?_
        rotate_left
        · (intro w' hS'; (try dsimp only at hS'); dsimp only [zo110_4_8]; go_simp; try with_reducible rfl)
        simp only [Act.put, pa175_1, pb175_1, pc175_1]
        refine tk175_1 (i := 9) (oi := zo110_4_9) rfl (by kernel_rfl) (fun _ _ _ h => h) (Or.inr ⟨rfl, rfl⟩) hS ?_
        simp only [Act.put, pa175_1, pb175_1, pc175_1]
        refine tk175_1 (i := 10) (oi := zo110_4_10) rfl (by kernel_rfl) (fun _ _ _ h => h) (Or.inr ⟨rfl, rfl⟩) hS ?_
        simp only [Act.put, pa175_1, pb175_1, pc175_1]
        refine tk175_1 (i := 11) (oi := zo110_4_11) rfl (by kernel_rfl) (fun _ _ _ h => h) (Or.inr ⟨rfl, rfl⟩) hS ?_
        simp only [Act.put, pa175_1, pb175_1, pc175_1]
        refine tk175_1 (i := 12) (oi := zo110_4_12) rfl (by kernel_rfl) (fun _ _ _ h => h) (Or.inr ⟨rfl, rfl⟩) hS ?_
        simp only [Act.put, pa175_1, pb175_1, pc175_1]
        refine tk175_1 (i := 13) (oi := zo110_4_13) rfl (by kernel_rfl) (fun _ _ _ h => h) (Or.inr ⟨rfl, rfl⟩) hS ?_
        simp only [Act.put, pa175_1, pb175_1, pc175_1]
        refine tk175_1 (i := 14) (oi := zo110_4_14) rfl (by kernel_rfl) (fun _ _ _ h => h) (Or.inr ⟨rfl, rfl⟩) hS ?_
        simp only [Act.put, pa175_1, pb175_1, pc175_1]
        refine tk175_1 (i := 15) (oi := zo110_4_15) rfl (by kernel_rfl) (fun _ _ _ h => h) (Or.inr ⟨rfl, rfl⟩) hS ?_
        simp only [Act.put, pa175_1, pb175_1, pc175_1]
        refine tk175_1 (i := 16) (oi := zo110_4_16) rfl (by kernel_rfl) (fun _ _ _ h => h) (Or.inr ⟨rfl, rfl⟩) hS ?_
        simp only [Act.put, pa175_1, pb175_1, pc175_1]
        refine tk175_1 (i := 17) (oi := zo110_4_17) rfl (by kernel_rfl) (fun _ _ _ h => h) (Or.inr ⟨rfl, rfl⟩) hS ?_
        simp only [Act.put, pa175_1, pb175_1, pc175_1]
        refine tk175_1 (i := 18) (oi := zo110_4_18) rfl (by kernel_rfl) (fun _ _ _ h => h) (Or.inr ⟨rfl, rfl⟩) hS ?_
        simp only [Act.put, pa175_1, pb175_1, pc175_1]
        refine tk175_1 (i := 19) (oi := zo110_4_19) rfl (by kernel_rfl) (fun _ _ _ h => h) (Or.inr ⟨rfl, rfl⟩) hS ?_
        simp only [Act.put, pa175_1, pb175_1, pc175_1]
        refine tk175_1 (i := 20) (oi := zo110_4_20) rfl (by kernel_rfl) (fun _ _ _ h => h) (Or.inr ⟨rfl, rfl⟩) hS ?_
        simp only [Act.put, pa175_1, pb175_1, pc175_1]
        refine tk175_1 (i := 21) (oi := zo110_4_21) rfl (by kernel_rfl) (fun _ _ _ h => h) (Or.inr ⟨rfl, rfl⟩) hS ?_
        simp only [Act.put, pa175_1, pb175_1, pc175_1]
        refine tk175_1 (i := 22) (oi := zo110_4_22) rfl (by kernel_rfl) (fun _ _ _ h => h) (Or.inr ⟨rfl, rfl⟩) hS ?_
        simp only [Act.put, pa175_1, pb175_1, pc175_1]
        refine tk175_1 (i := 23) (oi := zo110_4_23) rfl (by kernel_rfl) (fun _ _ _ h => h) (Or.inr ⟨rfl, rfl⟩) hS ?_
        simp only [Act.put, pa175_1, pb175_1, pc175_1]
        refine tk175_1 (i := 24) (oi := zo110_4_24) rfl (by kernel_rfl) (fun _ _ _ h => h) (Or.inr ⟨rfl, rfl⟩) hS ?_
        simp only [Act.put, pa175_1, pb175_1, pc175_1]
        refine tk175_1 (i := 25) (oi := zo110_4_25) rfl (by kernel_rfl) (fun _ _ _ h => h) (Or.inr ⟨rfl, rfl⟩) hS ?_
        simp only [Act.put, pa175_1, pb175_1, pc175_1]
        refine tk175_1 (i := 26) (oi := zo110_4_26) rfl (by kernel_rfl) (fun _ _ _ h => h) (Or.inr ⟨rfl, rfl⟩) hS ?_
        simp only [Act.put, pa175_1, pb175_1, pc175_1]
        refine tk175_1 (i := 27) (oi := zo110_4_27) rfl (by kernel_rfl) (fun _ _ _ h => h) (Or.inr ⟨rfl, rfl⟩) hS ?_
        simp only [Act.put, pa175_1, pb175_1, pc175_1]
        refine tk175_1 (i := 28) (oi := zo110_4_28) (v := ?_) rfl (by kernel_rfl) (fun _ _ _ h => h) (Or.inl ⟨rfl, ?_⟩) hS ?_
        rotate_left
        · (intro w' hS'; (try dsimp only at hS'); dsimp only [zo110_4_28]; go_simp; try with_reducible rfl)
        simp only [Act.put, pa175_1, pb175_1, pc175_1]
        refine wpAnyH_done (by kernel_rfl) ?_ _
        go_wp2_with fail
        go_ret
        exact ⟨ret_boolI HF.out.symm, _, by first | rfl | exact World.drewN_drewN _ _ _ | exact (show ((w.drewN m).drewN 1).drewN m2 = _ from (World.drewN_drewN _ _ _).trans (World.drewN_drewN _ _ _))⟩
      · simp only [hw] at HW
        by_cases hz : k = 0
        · have HK : Hid (bigsOk xs (k + 1) = true) := by show _ = _; rw [hs1, hok.out, he, hw]; simp [hz]
          have g0 : (0 < k) = False := eq_false (by omega)
          clear hr hz hw he hs1
          go_wp2_with fail
          have hS : (fun w' : World => w'.cell? ⟨b, off + k * 3, none⟩ = some (.string xs[k].first) ∧ w'.cell? ⟨b, off + k * 3 + 1, none⟩ = some (.string xs[k].second) ∧ w'.cell? ⟨b, off + k * 3 + 2, none⟩ = some (.int .i64 xs[k].cost) ∧ w'.cell? ⟨g, f + 1, none⟩ = some (.slice (some ⟨b, off, none⟩) xs.length c)) (w.drewN m).drew := ⟨h0, h1, h2, c1⟩
          dsimp only at hS
          refine wp_region_held_drew (S := (fun w' : World => w'.cell? ⟨b, off + k * 3, none⟩ = some (.string xs[k].first) ∧ w'.cell? ⟨b, off + k * 3 + 1, none⟩ = some (.string xs[k].second) ∧ w'.cell? ⟨b, off + k * 3 + 2, none⟩ = some (.int .i64 xs[k].cost) ∧ w'.cell? ⟨g, f + 1, none⟩ = some (.slice (some ⟨b, off, none⟩) xs.length c))) (by kernel_rfl) hS (fun _ => ?_)
          refine tk175_1 (i := 0) (oi := zo110_4_0) (v := ?_) rfl (by kernel_rfl) (fun _ _ _ h => h) (Or.inl ⟨rfl, ?_⟩) hS ?_
          rotate_left
          · (intro w' hS'; (try dsimp only at hS'); dsimp only [zo110_4_0]; go_simp; try with_reducible rfl)
          simp only [Act.put, pa175_1, pb175_1, pc175_1]
          refine tk175_1 (i := 1) (oi := zo110_4_1) (v := ?_) rfl (by kernel_rfl) (fun _ _ _ h => h) (Or.inl ⟨rfl, ?_⟩) hS ?_
          rotate_left
          · (intro w' hS'; (try dsimp only at hS'); dsimp only [zo110_4_1]; go_simp; try with_reducible rfl)
          simp only [Act.put, pa175_1, pb175_1, pc175_1]
          refine tk175_1 (i := 2) (oi := zo110_4_2) (v := ?_) rfl (by kernel_rfl) (fun _ _ _ h => h) (Or.inl ⟨rfl, ?_⟩) hS ?_
          rotate_left
          · (intro w' hS'; (try dsimp only at hS'); dsimp only [zo110_4_2]; go_simp; try with_reducible rfl)
          simp only [Act.put, pa175_1, pb175_1, pc175_1]
          refine tk175_1 (i := 3) (oi := zo110_4_3) (v := ?_) rfl (by kernel_rfl) (fun _ _ _ h => h) (Or.inl ⟨rfl, ?_⟩) hS ?_
          rotate_left
          · (intro w' hS'; (try dsimp only at hS'); dsimp only [zo110_4_3]; go_simp; try with_reducible rfl)
          simp only [Act.put, pa175_1, pb175_1, pc175_1]
          refine tk175_1 (i := 4) (oi := zo110_4_4) (v := ?_) rfl (by kernel_rfl) (fun _ _ _ h => h) (Or.inl ⟨rfl, ?_⟩) hS ?_
          rotate_left
          · (intro w' hS'; (try dsimp only at hS'); dsimp only [zo110_4_4]; go_simp; try with_reducible rfl)
          simp only [Act.put, pa175_1, pb175_1, pc175_1]
          refine tk175_1 (i := 5) (oi := zo110_4_5) (v := ?_) rfl (by kernel_rfl) (fun _ _ _ h => h) (Or.inl ⟨rfl, ?_⟩) hS ?_
          rotate_left
          · (intro w' hS'; (try dsimp only at hS'); dsimp only [zo110_4_5]; go_simp; try with_reducible rfl)
          simp only [Act.put, pa175_1, pb175_1, pc175_1]
          refine wpAnyH_ready (rs := [6]) (by kernel_rfl) (by simp) ?_
          refine AllReadyH.cons (o := zo110_4_6) rfl (fun K hK => ?_) .nil
          refine step_call 174 #[Go.Operand.tmp 18] _ rfl rfl #[.pointer (some ⟨b, off + k * 3, none⟩)] Tryz.call174 (by go_simp) (HW.out _ hS.1 hS.2.1 hS.2.2.1) ?_
          rintro e w1 ⟨rfl, rfl⟩
          refine ⟨_, rfl, ?_⟩
          refine hK.out _ _ ?_ (fun hHeld => ?_)
          · exact hS
          clear hK K hHeld
          simp only [Act.put, pa175_1, pb175_1, pc175_1]
          refine tk175_1 (i := 7) (oi := zo110_4_7) (v := ?_) rfl (by kernel_rfl) (fun _ _ _ h => h) (Or.inl ⟨rfl, ?_⟩) hS ?_
          rotate_left
          · (intro w' hS'; (try dsimp only at hS'); dsimp only [zo110_4_7]; go_simp; try with_reducible rfl)
          simp only [Act.put, pa175_1, pb175_1, pc175_1]
          refine tk175_1 (i := 8) (oi := zo110_4_8) (v := ?_) rfl (by kernel_rfl) (fun _ _ _ h => h) (Or.inl ⟨rfl, ?_⟩) hS ?_
          rotate_left
          · (intro w' hS'; (try dsimp only at hS'); dsimp only [zo110_4_8]; go_simp; try with_reducible rfl)
          simp only [Act.put, pa175_1, pb175_1, pc175_1]
          refine tk175_1 (i := 9) (oi := zo110_4_9) (v := ?_) rfl (by kernel_rfl) (fun _ _ _ h => h) (Or.inl ⟨rfl, ?_⟩) hS ?_
          rotate_left
          · (intro w' hS'; (try dsimp only at hS'); dsimp only [zo110_4_9]; go_simp; try with_reducible rfl)
          simp only [Act.put, pa175_1, pb175_1, pc175_1]
          refine tk175_1 (i := 10) (oi := zo110_4_10) (v := ?_) rfl (by kernel_rfl) (fun _ _ _ h => h) (Or.inl ⟨rfl, ?_⟩) hS ?_
          rotate_left
          · (intro w' hS'; (try dsimp only at hS'); dsimp only [zo110_4_10]; go_simp; try with_reducible rfl)
          simp only [Act.put, pa175_1, pb175_1, pc175_1]
          refine tk175_1 (i := 11) (oi := zo110_4_11) (v := ?_) rfl (by kernel_rfl) (fun _ _ _ h => h) (Or.inl ⟨rfl, ?_⟩) hS ?_
          rotate_left
          · (intro w' hS'; (try dsimp only at hS'); dsimp only [zo110_4_11]; go_simp; try with_reducible rfl)
          simp only [Act.put, pa175_1, pb175_1, pc175_1]
          refine tk175_1 (i := 12) (oi := zo110_4_12) rfl (by kernel_rfl) (fun _ _ _ h => h) (Or.inr ⟨rfl, rfl⟩) hS ?_
          simp only [Act.put, pa175_1, pb175_1, pc175_1]
          refine tk175_1 (i := 13) (oi := zo110_4_13) rfl (by kernel_rfl) (fun _ _ _ h => h) (Or.inr ⟨rfl, rfl⟩) hS ?_
          simp only [Act.put, pa175_1, pb175_1, pc175_1]
          refine tk175_1 (i := 14) (oi := zo110_4_14) rfl (by kernel_rfl) (fun _ _ _ h => h) (Or.inr ⟨rfl, rfl⟩) hS ?_
          simp only [Act.put, pa175_1, pb175_1, pc175_1]
          refine tk175_1 (i := 15) (oi := zo110_4_15) rfl (by kernel_rfl) (fun _ _ _ h => h) (Or.inr ⟨rfl, rfl⟩) hS ?_
          simp only [Act.put, pa175_1, pb175_1, pc175_1]
          refine tk175_1 (i := 16) (oi := zo110_4_16) rfl (by kernel_rfl) (fun _ _ _ h => h) (Or.inr ⟨rfl, rfl⟩) hS ?_
          simp only [Act.put, pa175_1, pb175_1, pc175_1]
          refine tk175_1 (i := 17) (oi := zo110_4_17) rfl (by kernel_rfl) (fun _ _ _ h => h) (Or.inr ⟨rfl, rfl⟩) hS ?_
          simp only [Act.put, pa175_1, pb175_1, pc175_1]
          refine tk175_1 (i := 18) (oi := zo110_4_18) rfl (by kernel_rfl) (fun _ _ _ h => h) (Or.inr ⟨rfl, rfl⟩) hS ?_
          simp only [Act.put, pa175_1, pb175_1, pc175_1]
          refine tk175_1 (i := 19) (oi := zo110_4_19) rfl (by kernel_rfl) (fun _ _ _ h => h) (Or.inr ⟨rfl, rfl⟩) hS ?_
          simp only [Act.put, pa175_1, pb175_1, pc175_1]
          refine tk175_1 (i := 20) (oi := zo110_4_20) rfl (by kernel_rfl) (fun _ _ _ h => h) (Or.inr ⟨rfl, rfl⟩) hS ?_
          simp only [Act.put, pa175_1, pb175_1, pc175_1]
          refine tk175_1 (i := 21) (oi := zo110_4_21) rfl (by kernel_rfl) (fun _ _ _ h => h) (Or.inr ⟨rfl, rfl⟩) hS ?_
          simp only [Act.put, pa175_1, pb175_1, pc175_1]
          refine tk175_1 (i := 22) (oi := zo110_4_22) rfl (by kernel_rfl) (fun _ _ _ h => h) (Or.inr ⟨rfl, rfl⟩) hS ?_
          simp only [Act.put, pa175_1, pb175_1, pc175_1]
          refine tk175_1 (i := 23) (oi := zo110_4_23) rfl (by kernel_rfl) (fun _ _ _ h => h) (Or.inr ⟨rfl, rfl⟩) hS ?_
          simp only [Act.put, pa175_1, pb175_1, pc175_1]
          refine tk175_1 (i := 24) (oi := zo110_4_24) rfl (by kernel_rfl) (fun _ _ _ h => h) (Or.inr ⟨rfl, rfl⟩) hS ?_
          simp only [Act.put, pa175_1, pb175_1, pc175_1]
          refine tk175_1 (i := 25) (oi := zo110_4_25) rfl (by kernel_rfl) (fun _ _ _ h => h) (Or.inr ⟨rfl, rfl⟩) hS ?_
          simp only [Act.put, pa175_1, pb175_1, pc175_1]
          refine tk175_1 (i := 26) (oi := zo110_4_26) rfl (by kernel_rfl) (fun _ _ _ h => h) (Or.inr ⟨rfl, rfl⟩) hS ?_
          simp only [Act.put, pa175_1, pb175_1, pc175_1]
          refine tk175_1 (i := 27) (oi := zo110_4_27) (v := ?_) rfl (by kernel_rfl) (fun _ _ _ h => h) (Or.inl ⟨rfl, ?_⟩) hS ?_
          rotate_left
          · (intro w' hS'; (try dsimp only at hS'); dsimp only [zo110_4_27]; go_simp; try with_reducible rfl)
          simp only [Act.put, pa175_1, pb175_1, pc175_1]
          refine tk175_1 (i := 28) (oi := zo110_4_28) (v := ?_) rfl (by kernel_rfl) (fun _ _ _ h => h) (Or.inl ⟨rfl, ?_⟩) hS ?_
          rotate_left
          · (intro w' hS'; (try dsimp only at hS'); dsimp only [zo110_4_28]; go_simp; try with_reducible rfl)
          simp only [Act.put, pa175_1, pb175_1, pc175_1]
          refine wpAnyH_done (by kernel_rfl) ?_ _
          go_wp2_with fail
          go_roundw
          case rel => exact ⟨k + 1, by omega, by go_num, HK, _, by first | rfl | exact World.drewN_drewN _ _ _ | exact (show ((w.drewN m).drewN 1).drewN m2 = _ from (World.drewN_drewN _ _ _).trans (World.drewN_drewN _ _ _))⟩
          case measure => simp [intOf]; omega
        · obtain ⟨j, hj⟩ : ∃ j, k = j + 1 := ⟨k - 1, by omega⟩
          have jl : j < xs.length := by omega
          obtain ⟨b', off', e', hbb', _, h3, h4, _⟩ := hr j jl
          injection e' with e'
          injection e' with e1 e2 _
          subst e1; subst e2
          have g0 : (0 < k) = True := eq_true (by omega)
          have gj : IntKind.i64.wrap ((k : Int) - 1) = (j : Int) := (IntWalk.i64_in _ (by omega)).trans (by omega)
          have jl' : (j : Int) < (xs.length : Int) := by omega
          have j0 : (0 : Int) ≤ (j : Int) := by omega
          have hen : bigAt xs (k - 1) = xs[j] := by subst hj; exact bigAt_get jl
          have dk : decide (k = 0) = false := decide_eq_false hz
          rw [hen, hw, dk] at he
          have HC := Lib.hid (fun w' => spec_l18Before_c xs[j] xs[k] (g := b) (f := off + j * 3) (g' := b) (f' := off + k * 3) w')
          clear hr
          cases hlw : cLess (bigKey xs[j]) (bigKey xs[k])
          · have HF := Lib.hid (modelB_false (n := n) hlt (by rw [he, hlw]; rfl))
            simp only [hlw] at HC
            have HJ := Lib.hid hj
            clear hj hz hw he hs1 hen dk hlw
            go_wp2_with fail
            have hS : (fun w' : World => w'.cell? ⟨b, off + k * 3, none⟩ = some (.string xs[k].first) ∧ w'.cell? ⟨b, off + k * 3 + 1, none⟩ = some (.string xs[k].second) ∧ w'.cell? ⟨b, off + k * 3 + 2, none⟩ = some (.int .i64 xs[k].cost) ∧ w'.cell? ⟨g, f + 1, none⟩ = some (.slice (some ⟨b, off, none⟩) xs.length c) ∧ w'.cell? ⟨b, off + j * 3, none⟩ = some (.string xs[j].first) ∧ w'.cell? ⟨b, off + j * 3 + 1, none⟩ = some (.string xs[j].second)) (w.drewN m).drew := ⟨h0, h1, h2, c1, h3, h4⟩
            dsimp only at hS
            refine wp_region_held_drew (S := (fun w' : World => w'.cell? ⟨b, off + k * 3, none⟩ = some (.string xs[k].first) ∧ w'.cell? ⟨b, off + k * 3 + 1, none⟩ = some (.string xs[k].second) ∧ w'.cell? ⟨b, off + k * 3 + 2, none⟩ = some (.int .i64 xs[k].cost) ∧ w'.cell? ⟨g, f + 1, none⟩ = some (.slice (some ⟨b, off, none⟩) xs.length c) ∧ w'.cell? ⟨b, off + j * 3, none⟩ = some (.string xs[j].first) ∧ w'.cell? ⟨b, off + j * 3 + 1, none⟩ = some (.string xs[j].second))) (by kernel_rfl) hS (fun _ => ?_)
            refine tk175_1 (i := 0) (oi := zo110_4_0) (v := ?_) rfl (by kernel_rfl) (fun _ _ _ h => h) (Or.inl ⟨rfl, ?_⟩) hS ?_
            rotate_left
            · (intro w' hS'; (try dsimp only at hS'); dsimp only [zo110_4_0]; go_simp; try with_reducible rfl)
            simp only [Act.put, pa175_1, pb175_1, pc175_1]
            refine tk175_1 (i := 1) (oi := zo110_4_1) (v := ?_) rfl (by kernel_rfl) (fun _ _ _ h => h) (Or.inl ⟨rfl, ?_⟩) hS ?_
            rotate_left
            · (intro w' hS'; (try dsimp only at hS'); dsimp only [zo110_4_1]; go_simp; try with_reducible rfl)
            simp only [Act.put, pa175_1, pb175_1, pc175_1]
            refine tk175_1 (i := 2) (oi := zo110_4_2) (v := ?_) rfl (by kernel_rfl) (fun _ _ _ h => h) (Or.inl ⟨rfl, ?_⟩) hS ?_
            rotate_left
            · (intro w' hS'; (try dsimp only at hS'); dsimp only [zo110_4_2]; go_simp; try with_reducible rfl)
            simp only [Act.put, pa175_1, pb175_1, pc175_1]
            refine tk175_1 (i := 3) (oi := zo110_4_3) (v := ?_) rfl (by kernel_rfl) (fun _ _ _ h => h) (Or.inl ⟨rfl, ?_⟩) hS ?_
            rotate_left
            · (intro w' hS'; (try dsimp only at hS'); dsimp only [zo110_4_3]; go_simp; try with_reducible rfl)
            simp only [Act.put, pa175_1, pb175_1, pc175_1]
            refine tk175_1 (i := 4) (oi := zo110_4_4) (v := ?_) rfl (by kernel_rfl) (fun _ _ _ h => h) (Or.inl ⟨rfl, ?_⟩) hS ?_
            rotate_left
            · (intro w' hS'; (try dsimp only at hS'); dsimp only [zo110_4_4]; go_simp; try with_reducible rfl)
            simp only [Act.put, pa175_1, pb175_1, pc175_1]
            refine tk175_1 (i := 5) (oi := zo110_4_5) (v := ?_) rfl (by kernel_rfl) (fun _ _ _ h => h) (Or.inl ⟨rfl, ?_⟩) hS ?_
            rotate_left
            · (intro w' hS'; (try dsimp only at hS'); dsimp only [zo110_4_5]; go_simp; try with_reducible rfl)
            simp only [Act.put, pa175_1, pb175_1, pc175_1]
            refine wpAnyH_ready (rs := [6]) (by kernel_rfl) (by simp) ?_
            refine AllReadyH.cons (o := zo110_4_6) rfl (fun K hK => ?_) .nil
            refine step_call 174 #[Go.Operand.tmp 18] _ rfl rfl #[.pointer (some ⟨b, off + k * 3, none⟩)] Tryz.call174 (by go_simp) (HW.out _ hS.1 hS.2.1 hS.2.2.1) ?_
            rintro e w1 ⟨rfl, rfl⟩
            refine ⟨_, rfl, ?_⟩
            refine hK.out _ _ ?_ (fun hHeld => ?_)
            · exact hS
            clear hK K hHeld
            simp only [Act.put, pa175_1, pb175_1, pc175_1]
            refine tk175_1 (i := 7) (oi := zo110_4_7) (v := ?_) rfl (by kernel_rfl) (fun _ _ _ h => h) (Or.inl ⟨rfl, ?_⟩) hS ?_
            rotate_left
            · (intro w' hS'; (try dsimp only at hS'); dsimp only [zo110_4_7]; go_simp; try with_reducible rfl)
            simp only [Act.put, pa175_1, pb175_1, pc175_1]
            refine tk175_1 (i := 8) (oi := zo110_4_8) (v := ?_) rfl (by kernel_rfl) (fun _ _ _ h => h) (Or.inl ⟨rfl, ?_⟩) hS ?_
            rotate_left
            · (intro w' hS'; (try dsimp only at hS'); dsimp only [zo110_4_8]; go_simp; try with_reducible rfl)
            simp only [Act.put, pa175_1, pb175_1, pc175_1]
            refine tk175_1 (i := 9) (oi := zo110_4_9) (v := ?_) rfl (by kernel_rfl) (fun _ _ _ h => h) (Or.inl ⟨rfl, ?_⟩) hS ?_
            rotate_left
            · (intro w' hS'; (try dsimp only at hS'); dsimp only [zo110_4_9]; go_simp; try with_reducible rfl)
            simp only [Act.put, pa175_1, pb175_1, pc175_1]
            refine tk175_1 (i := 10) (oi := zo110_4_10) (v := ?_) rfl (by kernel_rfl) (fun _ _ _ h => h) (Or.inl ⟨rfl, ?_⟩) hS ?_
            rotate_left
            · (intro w' hS'; (try dsimp only at hS'); dsimp only [zo110_4_10]; go_simp; try with_reducible rfl)
            simp only [Act.put, pa175_1, pb175_1, pc175_1]
            refine tk175_1 (i := 11) (oi := zo110_4_11) (v := ?_) rfl (by kernel_rfl) (fun _ _ _ h => h) (Or.inl ⟨rfl, ?_⟩) hS ?_
            rotate_left
            · (intro w' hS'; (try dsimp only at hS'); dsimp only [zo110_4_11]; go_simp; try with_reducible rfl)
            simp only [Act.put, pa175_1, pb175_1, pc175_1]
            refine tk175_1 (i := 12) (oi := zo110_4_12) (v := ?_) rfl (by kernel_rfl) (fun _ _ _ h => h) (Or.inl ⟨rfl, ?_⟩) hS ?_
            rotate_left
            · (intro w' hS'; (try dsimp only at hS'); dsimp only [zo110_4_12]; go_simp; try with_reducible rfl)
            simp only [Act.put, pa175_1, pb175_1, pc175_1]
            refine tk175_1 (i := 13) (oi := zo110_4_13) (v := ?_) rfl (by kernel_rfl) (fun _ _ _ h => h) (Or.inl ⟨rfl, ?_⟩) hS ?_
            rotate_left
            · (intro w' hS'; (try dsimp only at hS'); dsimp only [zo110_4_13]; go_simp; try with_reducible rfl)
            simp only [Act.put, pa175_1, pb175_1, pc175_1]
            refine tk175_1 (i := 14) (oi := zo110_4_14) (v := ?_) rfl (by kernel_rfl) (fun _ _ _ h => h) (Or.inl ⟨rfl, ?_⟩) hS ?_
            rotate_left
            · (intro w' hS'; (try dsimp only at hS'); dsimp only [zo110_4_14]; go_simp; try with_reducible rfl)
            simp only [Act.put, pa175_1, pb175_1, pc175_1]
            refine tk175_1 (i := 15) (oi := zo110_4_15) (v := ?_) rfl (by kernel_rfl) (fun _ _ _ h => h) (Or.inl ⟨rfl, ?_⟩) hS ?_
            rotate_left
            · (intro w' hS'; (try dsimp only at hS'); dsimp only [zo110_4_15]; go_simp; try with_reducible rfl)
            simp only [Act.put, pa175_1, pb175_1, pc175_1]
            refine tk175_1 (i := 16) (oi := zo110_4_16) (v := ?_) rfl (by kernel_rfl) (fun _ _ _ h => h) (Or.inl ⟨rfl, ?_⟩) hS ?_
            rotate_left
            · (intro w' hS'; (try dsimp only at hS'); dsimp only [zo110_4_16]; go_simp; try with_reducible rfl)
            simp only [Act.put, pa175_1, pb175_1, pc175_1]
            refine tk175_1 (i := 17) (oi := zo110_4_17) (v := ?_) rfl (by kernel_rfl) (fun _ _ _ h => h) (Or.inl ⟨rfl, ?_⟩) hS ?_
            rotate_left
            · (intro w' hS'; (try dsimp only at hS'); dsimp only [zo110_4_17]; go_simp; try with_reducible rfl)
            simp only [Act.put, pa175_1, pb175_1, pc175_1]
            refine tk175_1 (i := 18) (oi := zo110_4_18) (v := ?_) rfl (by kernel_rfl) (fun _ _ _ h => h) (Or.inl ⟨rfl, ?_⟩) hS ?_
            rotate_left
            · (intro w' hS'; (try dsimp only at hS'); dsimp only [zo110_4_18]; go_simp; try with_reducible rfl)
            simp only [Act.put, pa175_1, pb175_1, pc175_1]
            refine tk175_1 (i := 19) (oi := zo110_4_19) (v := ?_) rfl (by kernel_rfl) (fun _ _ _ h => h) (Or.inl ⟨rfl, ?_⟩) hS ?_
            rotate_left
            · (intro w' hS'; (try dsimp only at hS'); dsimp only [zo110_4_19]; go_simp; try with_reducible rfl)
            simp only [Act.put, pa175_1, pb175_1, pc175_1]
            refine tk175_1 (i := 20) (oi := zo110_4_20) (v := ?_) rfl (by kernel_rfl) (fun _ _ _ h => h) (Or.inl ⟨rfl, ?_⟩) hS ?_
            rotate_left
            · (intro w' hS'; (try dsimp only at hS'); dsimp only [zo110_4_20]; go_simp; try with_reducible rfl)
            simp only [Act.put, pa175_1, pb175_1, pc175_1]
            refine tk175_1 (i := 21) (oi := zo110_4_21) (v := ?_) rfl (by kernel_rfl) (fun _ _ _ h => h) (Or.inl ⟨rfl, ?_⟩) hS ?_
            rotate_left
            · (intro w' hS'; (try dsimp only at hS'); dsimp only [zo110_4_21]; go_simp; try with_reducible rfl)
            simp only [Act.put, pa175_1, pb175_1, pc175_1]
            refine tk175_1 (i := 22) (oi := zo110_4_22) (v := ?_) rfl (by kernel_rfl) (fun _ _ _ h => h) (Or.inl ⟨rfl, ?_⟩) hS ?_
            rotate_left
            · (intro w' hS'; (try dsimp only at hS'); dsimp only [zo110_4_22]; go_simp; try with_reducible rfl)
            simp only [Act.put, pa175_1, pb175_1, pc175_1]
            refine tk175_1 (i := 23) (oi := zo110_4_23) (v := ?_) rfl (by kernel_rfl) (fun _ _ _ h => h) (Or.inl ⟨rfl, ?_⟩) hS ?_
            rotate_left
            · (intro w' hS'; (try dsimp only at hS'); dsimp only [zo110_4_23]; go_simp; try with_reducible rfl)
            simp only [Act.put, pa175_1, pb175_1, pc175_1]
            refine tk175_1 (i := 24) (oi := zo110_4_24) (v := ?_) rfl (by kernel_rfl) (fun _ _ _ h => h) (Or.inl ⟨rfl, ?_⟩) hS ?_
            rotate_left
            · (intro w' hS'; (try dsimp only at hS'); dsimp only [zo110_4_24]; go_simp; try with_reducible rfl)
            simp only [Act.put, pa175_1, pb175_1, pc175_1]
            refine wpAnyH_ready (rs := [25]) (by kernel_rfl) (by simp) ?_
            refine AllReadyH.cons (o := zo110_4_25) rfl (fun K hK => ?_) .nil
            refine step_call 175 #[Go.Operand.tmp 31, Go.Operand.tmp 37] _ rfl rfl #[.pointer (some ⟨b, off + j * 3, none⟩), .pointer (some ⟨b, off + k * 3, none⟩)] Tryz.call175 (by go_simp) (HC.out _ hS.2.2.2.2.1 hS.2.2.2.2.2 hS.1 hS.2.1) ?_
            rintro e w1 ⟨rfl, m2, rfl⟩
            refine ⟨_, rfl, ?_⟩
            replace hS : (fun w' : World => w'.cell? ⟨b, off + k * 3, none⟩ = some (.string xs[k].first) ∧ w'.cell? ⟨b, off + k * 3 + 1, none⟩ = some (.string xs[k].second) ∧ w'.cell? ⟨b, off + k * 3 + 2, none⟩ = some (.int .i64 xs[k].cost) ∧ w'.cell? ⟨g, f + 1, none⟩ = some (.slice (some ⟨b, off, none⟩) xs.length c) ∧ w'.cell? ⟨b, off + j * 3, none⟩ = some (.string xs[j].first) ∧ w'.cell? ⟨b, off + j * 3 + 1, none⟩ = some (.string xs[j].second)) (((w.drewN m).drew).drewN m2) := hS
            dsimp only at hS
            refine hK.out _ _ ?_ (fun hHeld => ?_)
            · exact hS
            clear hK K hHeld
            simp only [Act.put, pa175_1, pb175_1, pc175_1]
            refine tk175_1 (i := 26) (oi := zo110_4_26) (v := ?_) rfl (by kernel_rfl) (fun _ _ _ h => h) (Or.inl ⟨rfl, ?_⟩) hS ?_
            rotate_left
            · (intro w' hS'; (try dsimp only at hS'); dsimp only [zo110_4_26]; go_simp; try with_reducible rfl)
            simp only [Act.put, pa175_1, pb175_1, pc175_1]
            refine tk175_1 (i := 27) (oi := zo110_4_27) (v := ?_) rfl (by kernel_rfl) (fun _ _ _ h => h) (Or.inl ⟨rfl, ?_⟩) hS ?_
            rotate_left
            · (intro w' hS'; (try dsimp only at hS'); dsimp only [zo110_4_27]; go_simp; try with_reducible rfl)
            simp only [Act.put, pa175_1, pb175_1, pc175_1]
            refine tk175_1 (i := 28) (oi := zo110_4_28) (v := ?_) rfl (by kernel_rfl) (fun _ _ _ h => h) (Or.inl ⟨rfl, ?_⟩) hS ?_
            rotate_left
            · (intro w' hS'; (try dsimp only at hS'); dsimp only [zo110_4_28]; go_simp; try with_reducible rfl)
            simp only [Act.put, pa175_1, pb175_1, pc175_1]
            refine wpAnyH_done (by kernel_rfl) ?_ _
            go_wp2_with fail
            go_ret
            exact ⟨ret_boolI HF.out.symm, _, by first | rfl | exact World.drewN_drewN _ _ _ | exact (show ((w.drewN m).drewN 1).drewN m2 = _ from (World.drewN_drewN _ _ _).trans (World.drewN_drewN _ _ _))⟩
          · have HK : Hid (bigsOk xs (k + 1) = true) := by show _ = _; rw [hs1, hok.out, he, hlw]; rfl
            simp only [hlw] at HC
            have HJ := Lib.hid hj
            clear hj hz hw he hs1 hen dk hlw
            go_wp2_with fail
            have hS : (fun w' : World => w'.cell? ⟨b, off + k * 3, none⟩ = some (.string xs[k].first) ∧ w'.cell? ⟨b, off + k * 3 + 1, none⟩ = some (.string xs[k].second) ∧ w'.cell? ⟨b, off + k * 3 + 2, none⟩ = some (.int .i64 xs[k].cost) ∧ w'.cell? ⟨g, f + 1, none⟩ = some (.slice (some ⟨b, off, none⟩) xs.length c) ∧ w'.cell? ⟨b, off + j * 3, none⟩ = some (.string xs[j].first) ∧ w'.cell? ⟨b, off + j * 3 + 1, none⟩ = some (.string xs[j].second)) (w.drewN m).drew := ⟨h0, h1, h2, c1, h3, h4⟩
            dsimp only at hS
            refine wp_region_held_drew (S := (fun w' : World => w'.cell? ⟨b, off + k * 3, none⟩ = some (.string xs[k].first) ∧ w'.cell? ⟨b, off + k * 3 + 1, none⟩ = some (.string xs[k].second) ∧ w'.cell? ⟨b, off + k * 3 + 2, none⟩ = some (.int .i64 xs[k].cost) ∧ w'.cell? ⟨g, f + 1, none⟩ = some (.slice (some ⟨b, off, none⟩) xs.length c) ∧ w'.cell? ⟨b, off + j * 3, none⟩ = some (.string xs[j].first) ∧ w'.cell? ⟨b, off + j * 3 + 1, none⟩ = some (.string xs[j].second))) (by kernel_rfl) hS (fun _ => ?_)
            refine tk175_1 (i := 0) (oi := zo110_4_0) (v := ?_) rfl (by kernel_rfl) (fun _ _ _ h => h) (Or.inl ⟨rfl, ?_⟩) hS ?_
            rotate_left
            · (intro w' hS'; (try dsimp only at hS'); dsimp only [zo110_4_0]; go_simp; try with_reducible rfl)
            simp only [Act.put, pa175_1, pb175_1, pc175_1]
            refine tk175_1 (i := 1) (oi := zo110_4_1) (v := ?_) rfl (by kernel_rfl) (fun _ _ _ h => h) (Or.inl ⟨rfl, ?_⟩) hS ?_
            rotate_left
            · (intro w' hS'; (try dsimp only at hS'); dsimp only [zo110_4_1]; go_simp; try with_reducible rfl)
            simp only [Act.put, pa175_1, pb175_1, pc175_1]
            refine tk175_1 (i := 2) (oi := zo110_4_2) (v := ?_) rfl (by kernel_rfl) (fun _ _ _ h => h) (Or.inl ⟨rfl, ?_⟩) hS ?_
            rotate_left
            · (intro w' hS'; (try dsimp only at hS'); dsimp only [zo110_4_2]; go_simp; try with_reducible rfl)
            simp only [Act.put, pa175_1, pb175_1, pc175_1]
            refine tk175_1 (i := 3) (oi := zo110_4_3) (v := ?_) rfl (by kernel_rfl) (fun _ _ _ h => h) (Or.inl ⟨rfl, ?_⟩) hS ?_
            rotate_left
            · (intro w' hS'; (try dsimp only at hS'); dsimp only [zo110_4_3]; go_simp; try with_reducible rfl)
            simp only [Act.put, pa175_1, pb175_1, pc175_1]
            refine tk175_1 (i := 4) (oi := zo110_4_4) (v := ?_) rfl (by kernel_rfl) (fun _ _ _ h => h) (Or.inl ⟨rfl, ?_⟩) hS ?_
            rotate_left
            · (intro w' hS'; (try dsimp only at hS'); dsimp only [zo110_4_4]; go_simp; try with_reducible rfl)
            simp only [Act.put, pa175_1, pb175_1, pc175_1]
            refine tk175_1 (i := 5) (oi := zo110_4_5) (v := ?_) rfl (by kernel_rfl) (fun _ _ _ h => h) (Or.inl ⟨rfl, ?_⟩) hS ?_
            rotate_left
            · (intro w' hS'; (try dsimp only at hS'); dsimp only [zo110_4_5]; go_simp; try with_reducible rfl)
            simp only [Act.put, pa175_1, pb175_1, pc175_1]
            refine wpAnyH_ready (rs := [6]) (by kernel_rfl) (by simp) ?_
            refine AllReadyH.cons (o := zo110_4_6) rfl (fun K hK => ?_) .nil
            refine step_call 174 #[Go.Operand.tmp 18] _ rfl rfl #[.pointer (some ⟨b, off + k * 3, none⟩)] Tryz.call174 (by go_simp) (HW.out _ hS.1 hS.2.1 hS.2.2.1) ?_
            rintro e w1 ⟨rfl, rfl⟩
            refine ⟨_, rfl, ?_⟩
            refine hK.out _ _ ?_ (fun hHeld => ?_)
            · exact hS
            clear hK K hHeld
            simp only [Act.put, pa175_1, pb175_1, pc175_1]
            refine tk175_1 (i := 7) (oi := zo110_4_7) (v := ?_) rfl (by kernel_rfl) (fun _ _ _ h => h) (Or.inl ⟨rfl, ?_⟩) hS ?_
            rotate_left
            · (intro w' hS'; (try dsimp only at hS'); dsimp only [zo110_4_7]; go_simp; try with_reducible rfl)
            simp only [Act.put, pa175_1, pb175_1, pc175_1]
            refine tk175_1 (i := 8) (oi := zo110_4_8) (v := ?_) rfl (by kernel_rfl) (fun _ _ _ h => h) (Or.inl ⟨rfl, ?_⟩) hS ?_
            rotate_left
            · (intro w' hS'; (try dsimp only at hS'); dsimp only [zo110_4_8]; go_simp; try with_reducible rfl)
            simp only [Act.put, pa175_1, pb175_1, pc175_1]
            refine tk175_1 (i := 9) (oi := zo110_4_9) (v := ?_) rfl (by kernel_rfl) (fun _ _ _ h => h) (Or.inl ⟨rfl, ?_⟩) hS ?_
            rotate_left
            · (intro w' hS'; (try dsimp only at hS'); dsimp only [zo110_4_9]; go_simp; try with_reducible rfl)
            simp only [Act.put, pa175_1, pb175_1, pc175_1]
            refine tk175_1 (i := 10) (oi := zo110_4_10) (v := ?_) rfl (by kernel_rfl) (fun _ _ _ h => h) (Or.inl ⟨rfl, ?_⟩) hS ?_
            rotate_left
            · (intro w' hS'; (try dsimp only at hS'); dsimp only [zo110_4_10]; go_simp; try with_reducible rfl)
            simp only [Act.put, pa175_1, pb175_1, pc175_1]
            refine tk175_1 (i := 11) (oi := zo110_4_11) (v := ?_) rfl (by kernel_rfl) (fun _ _ _ h => h) (Or.inl ⟨rfl, ?_⟩) hS ?_
            rotate_left
            · (intro w' hS'; (try dsimp only at hS'); dsimp only [zo110_4_11]; go_simp; try with_reducible rfl)
            simp only [Act.put, pa175_1, pb175_1, pc175_1]
            refine tk175_1 (i := 12) (oi := zo110_4_12) (v := ?_) rfl (by kernel_rfl) (fun _ _ _ h => h) (Or.inl ⟨rfl, ?_⟩) hS ?_
            rotate_left
            · (intro w' hS'; (try dsimp only at hS'); dsimp only [zo110_4_12]; go_simp; try with_reducible rfl)
            simp only [Act.put, pa175_1, pb175_1, pc175_1]
            refine tk175_1 (i := 13) (oi := zo110_4_13) (v := ?_) rfl (by kernel_rfl) (fun _ _ _ h => h) (Or.inl ⟨rfl, ?_⟩) hS ?_
            rotate_left
            · (intro w' hS'; (try dsimp only at hS'); dsimp only [zo110_4_13]; go_simp; try with_reducible rfl)
            simp only [Act.put, pa175_1, pb175_1, pc175_1]
            refine tk175_1 (i := 14) (oi := zo110_4_14) (v := ?_) rfl (by kernel_rfl) (fun _ _ _ h => h) (Or.inl ⟨rfl, ?_⟩) hS ?_
            rotate_left
            · (intro w' hS'; (try dsimp only at hS'); dsimp only [zo110_4_14]; go_simp; try with_reducible rfl)
            simp only [Act.put, pa175_1, pb175_1, pc175_1]
            refine tk175_1 (i := 15) (oi := zo110_4_15) (v := ?_) rfl (by kernel_rfl) (fun _ _ _ h => h) (Or.inl ⟨rfl, ?_⟩) hS ?_
            rotate_left
            · (intro w' hS'; (try dsimp only at hS'); dsimp only [zo110_4_15]; go_simp; try with_reducible rfl)
            simp only [Act.put, pa175_1, pb175_1, pc175_1]
            refine tk175_1 (i := 16) (oi := zo110_4_16) (v := ?_) rfl (by kernel_rfl) (fun _ _ _ h => h) (Or.inl ⟨rfl, ?_⟩) hS ?_
            rotate_left
            · (intro w' hS'; (try dsimp only at hS'); dsimp only [zo110_4_16]; go_simp; try with_reducible rfl)
            simp only [Act.put, pa175_1, pb175_1, pc175_1]
            refine tk175_1 (i := 17) (oi := zo110_4_17) (v := ?_) rfl (by kernel_rfl) (fun _ _ _ h => h) (Or.inl ⟨rfl, ?_⟩) hS ?_
            rotate_left
            · (intro w' hS'; (try dsimp only at hS'); dsimp only [zo110_4_17]; go_simp; try with_reducible rfl)
            simp only [Act.put, pa175_1, pb175_1, pc175_1]
            refine tk175_1 (i := 18) (oi := zo110_4_18) (v := ?_) rfl (by kernel_rfl) (fun _ _ _ h => h) (Or.inl ⟨rfl, ?_⟩) hS ?_
            rotate_left
            · (intro w' hS'; (try dsimp only at hS'); dsimp only [zo110_4_18]; go_simp; try with_reducible rfl)
            simp only [Act.put, pa175_1, pb175_1, pc175_1]
            refine tk175_1 (i := 19) (oi := zo110_4_19) (v := ?_) rfl (by kernel_rfl) (fun _ _ _ h => h) (Or.inl ⟨rfl, ?_⟩) hS ?_
            rotate_left
            · (intro w' hS'; (try dsimp only at hS'); dsimp only [zo110_4_19]; go_simp; try with_reducible rfl)
            simp only [Act.put, pa175_1, pb175_1, pc175_1]
            refine tk175_1 (i := 20) (oi := zo110_4_20) (v := ?_) rfl (by kernel_rfl) (fun _ _ _ h => h) (Or.inl ⟨rfl, ?_⟩) hS ?_
            rotate_left
            · (intro w' hS'; (try dsimp only at hS'); dsimp only [zo110_4_20]; go_simp; try with_reducible rfl)
            simp only [Act.put, pa175_1, pb175_1, pc175_1]
            refine tk175_1 (i := 21) (oi := zo110_4_21) (v := ?_) rfl (by kernel_rfl) (fun _ _ _ h => h) (Or.inl ⟨rfl, ?_⟩) hS ?_
            rotate_left
            · (intro w' hS'; (try dsimp only at hS'); dsimp only [zo110_4_21]; go_simp; try with_reducible rfl)
            simp only [Act.put, pa175_1, pb175_1, pc175_1]
            refine tk175_1 (i := 22) (oi := zo110_4_22) (v := ?_) rfl (by kernel_rfl) (fun _ _ _ h => h) (Or.inl ⟨rfl, ?_⟩) hS ?_
            rotate_left
            · (intro w' hS'; (try dsimp only at hS'); dsimp only [zo110_4_22]; go_simp; try with_reducible rfl)
            simp only [Act.put, pa175_1, pb175_1, pc175_1]
            refine tk175_1 (i := 23) (oi := zo110_4_23) (v := ?_) rfl (by kernel_rfl) (fun _ _ _ h => h) (Or.inl ⟨rfl, ?_⟩) hS ?_
            rotate_left
            · (intro w' hS'; (try dsimp only at hS'); dsimp only [zo110_4_23]; go_simp; try with_reducible rfl)
            simp only [Act.put, pa175_1, pb175_1, pc175_1]
            refine tk175_1 (i := 24) (oi := zo110_4_24) (v := ?_) rfl (by kernel_rfl) (fun _ _ _ h => h) (Or.inl ⟨rfl, ?_⟩) hS ?_
            rotate_left
            · (intro w' hS'; (try dsimp only at hS'); dsimp only [zo110_4_24]; go_simp; try with_reducible rfl)
            simp only [Act.put, pa175_1, pb175_1, pc175_1]
            refine wpAnyH_ready (rs := [25]) (by kernel_rfl) (by simp) ?_
            refine AllReadyH.cons (o := zo110_4_25) rfl (fun K hK => ?_) .nil
            refine step_call 175 #[Go.Operand.tmp 31, Go.Operand.tmp 37] _ rfl rfl #[.pointer (some ⟨b, off + j * 3, none⟩), .pointer (some ⟨b, off + k * 3, none⟩)] Tryz.call175 (by go_simp) (HC.out _ hS.2.2.2.2.1 hS.2.2.2.2.2 hS.1 hS.2.1) ?_
            rintro e w1 ⟨rfl, m2, rfl⟩
            refine ⟨_, rfl, ?_⟩
            replace hS : (fun w' : World => w'.cell? ⟨b, off + k * 3, none⟩ = some (.string xs[k].first) ∧ w'.cell? ⟨b, off + k * 3 + 1, none⟩ = some (.string xs[k].second) ∧ w'.cell? ⟨b, off + k * 3 + 2, none⟩ = some (.int .i64 xs[k].cost) ∧ w'.cell? ⟨g, f + 1, none⟩ = some (.slice (some ⟨b, off, none⟩) xs.length c) ∧ w'.cell? ⟨b, off + j * 3, none⟩ = some (.string xs[j].first) ∧ w'.cell? ⟨b, off + j * 3 + 1, none⟩ = some (.string xs[j].second)) (((w.drewN m).drew).drewN m2) := hS
            dsimp only at hS
            refine hK.out _ _ ?_ (fun hHeld => ?_)
            · exact hS
            clear hK K hHeld
            simp only [Act.put, pa175_1, pb175_1, pc175_1]
            refine tk175_1 (i := 26) (oi := zo110_4_26) (v := ?_) rfl (by kernel_rfl) (fun _ _ _ h => h) (Or.inl ⟨rfl, ?_⟩) hS ?_
            rotate_left
            · (intro w' hS'; (try dsimp only at hS'); dsimp only [zo110_4_26]; go_simp; try with_reducible rfl)
            simp only [Act.put, pa175_1, pb175_1, pc175_1]
            refine tk175_1 (i := 27) (oi := zo110_4_27) (v := ?_) rfl (by kernel_rfl) (fun _ _ _ h => h) (Or.inl ⟨rfl, ?_⟩) hS ?_
            rotate_left
            · (intro w' hS'; (try dsimp only at hS'); dsimp only [zo110_4_27]; go_simp; try with_reducible rfl)
            simp only [Act.put, pa175_1, pb175_1, pc175_1]
            refine tk175_1 (i := 28) (oi := zo110_4_28) (v := ?_) rfl (by kernel_rfl) (fun _ _ _ h => h) (Or.inl ⟨rfl, ?_⟩) hS ?_
            rotate_left
            · (intro w' hS'; (try dsimp only at hS'); dsimp only [zo110_4_28]; go_simp; try with_reducible rfl)
            simp only [Act.put, pa175_1, pb175_1, pc175_1]
            refine wpAnyH_done (by kernel_rfl) ?_ _
            go_wp2_with fail
            go_roundw
            case rel => exact ⟨k + 1, by omega, by go_num, HK, _, by first | rfl | exact World.drewN_drewN _ _ _ | exact (show ((w.drewN m).drewN 1).drewN m2 = _ from (World.drewN_drewN _ _ _).trans (World.drewN_drewN _ _ _))⟩
            case measure => simp [intOf]; omega
    · obtain rfl : k = xs.length := by omega
      have HQ := Lib.hid (spec_cost_c n)
      cases hq : costB n
      · have HF : Hid (modelB n xs = false) := by show _ = _; simp [modelB, hq]
        simp only [hq] at HQ
        clear hr hq
        go_wp2_with fail
        refine (HQ.out _).mono ?_
        rintro e w1 ⟨rfl, rfl⟩
        go_wp2_with fail
        go_ret
        exact ⟨ret_boolI HF.out.symm, _, rfl⟩
      · simp only [hq] at HQ
        by_cases h60 : xs.length ≤ 60
        · have g6 : ((xs.length : Int) ≤ 60) = True := eq_true (by omega)
          have HF : Hid (modelB n xs = true) := by show _ = _; simp [modelB, hok.out, h60, hq]
          clear h60 hr hq
          go_wp2_with fail
          refine (HQ.out _).mono ?_
          rintro e w1 ⟨rfl, rfl⟩
          go_wp2_with fail
          go_ret
          exact ⟨ret_boolI HF.out.symm, _, rfl⟩
        · have g6 : ((xs.length : Int) ≤ 60) = False := eq_false (by omega)
          have HF : Hid (modelB n xs = false) := by show _ = _; simp [modelB, h60]
          clear h60 hr hq
          go_wp2_with fail
          refine (HQ.out _).mono ?_
          rintro e w1 ⟨rfl, rfl⟩
          go_wp2_with fail
          go_ret
          exact ⟨ret_boolI HF.out.symm, _, rfl⟩
end Go.Proofs.YtkfadfddhbpngaaGreat
