/- l26OwnSetup of the reference: a setup of its own. Conditions: none. -/
import Derived.Test.YtkfadfddhbpngaaGreatSeOwn3z
namespace Go.Proofs.YtkfadfddhbpngaaGreat
open Go Go.RowKit
theorem pa44_1 (l : List Value) (i : Nat) (a : Value) : l.toArray.setIfInBounds i a = (l.set i a).toArray := List.setIfInBounds_toArray ..
theorem pb44_1 (a b : Value) (l : List Value) : (a :: l).set 0 b = b :: l := List.set_cons_zero ..
theorem pc44_1 (a b : Value) (l : List Value) (n : Nat) : (a :: l).set (n + 1) b = a :: l.set n b := List.set_cons_succ ..
theorem tk44_1 {P : Program} {md : Region.Mode} {ops : Array Oper} {Q : Exit → Act → World → Prop} {S : World → Prop} {i : Nat} {oi : Oper} {v : Value} {fuel : Nat} {listed : Array Bool} {a : Act} {w : World} (hi : ops[i]? = some oi)
    (hs : (Region.noSelect ops && (Region.free md ops listed i && (Region.ready md ops listed).contains i)) = true) (hQ : ∀ c a w, Q (.panic c) (a.put oi.dst v) w → Q (.panic c) a w) (hy : YieldsIf P ops S oi v a) (hS : S w)
    (h : wpAnyH P md ops Q S fuel (listed.setIfInBounds i true) (a.put oi.dst v) w) : wpAnyH P md ops Q S (fuel + 1) listed a w := by
  simp only [Bool.and_eq_true] at hs
  exact wpAnyH_take hi hs.1 hs.2.1 hs.2.2 hQ hy hS h
abbrev zo44_1_33 : Oper := { dst := some 36, op := Go.Op.build 61 #[(0, Go.Operand.tmp 6), (1, Go.Operand.tmp 10), (2, Go.Operand.tmp 18), (3, Go.Operand.tmp 31), (4, Go.Operand.tmp 35)], type := 61, pos := "l26_sessions.go:13", after := #[{ on := 3, ground := Go.Ground.data }, { on := 7, ground := Go.Ground.data }, { on := 15, ground := Go.Ground.data }, { on := 28, ground := Go.Ground.data }, { on := 32, ground := Go.Ground.data }], guard := none }
abbrev zo44_1_34 : Oper := { dst := none, op := Go.Op.store 61 (Go.Operand.tmp 2) (Go.Operand.tmp 36), type := 0, pos := "l26_sessions.go:13", after := #[{ on := 33, ground := Go.Ground.data }, { on := 27, ground := Go.Ground.chain }, { on := 0, ground := Go.Ground.phase }, { on := 1, ground := Go.Ground.phase }, { on := 2, ground := Go.Ground.phase }, { on := 3, ground := Go.Ground.phase }, { on := 4, ground := Go.Ground.phase }, { on := 5, ground := Go.Ground.phase }, { on := 6, ground := Go.Ground.phase }, { on := 7, ground := Go.Ground.phase }, { on := 8, ground := Go.Ground.phase }, { on := 9, ground := Go.Ground.phase }, { on := 10, ground := Go.Ground.phase }, { on := 11, ground := Go.Ground.phase }, { on := 12, ground := Go.Ground.phase }, { on := 13, ground := Go.Ground.phase }, { on := 14, ground := Go.Ground.phase }, { on := 15, ground := Go.Ground.phase }, { on := 16, ground := Go.Ground.phase }, { on := 17, ground := Go.Ground.phase }, { on := 18, ground := Go.Ground.phase }, { on := 19, ground := Go.Ground.phase }, { on := 20, ground := Go.Ground.phase }, { on := 21, ground := Go.Ground.phase }, { on := 22, ground := Go.Ground.phase }, { on := 23, ground := Go.Ground.phase }, { on := 24, ground := Go.Ground.phase }, { on := 25, ground := Go.Ground.phase }, { on := 26, ground := Go.Ground.phase }, { on := 27, ground := Go.Ground.phase }, { on := 28, ground := Go.Ground.phase }, { on := 29, ground := Go.Ground.phase }, { on := 30, ground := Go.Ground.phase }, { on := 31, ground := Go.Ground.phase }, { on := 32, ground := Go.Ground.phase }, { on := 33, ground := Go.Ground.phase }], guard := none }
abbrev zo44_1_28 : Oper := { dst := some 31, op := Go.Op.build 59 #[(0, Go.Operand.tmp 23), (1, Go.Operand.tmp 30)], type := 59, pos := "l26_sessions.go:13", after := #[{ on := 20, ground := Go.Ground.data }, { on := 27, ground := Go.Ground.data }], guard := none }
abbrev zo44_1_15 : Oper := { dst := some 18, op := Go.Op.build 56 #[(0, Go.Operand.tmp 17)], type := 56, pos := "l26_sessions.go:13", after := #[{ on := 14, ground := Go.Ground.data }], guard := none }
abbrev zo44_1_0 : Oper := { dst := some 3, op := Go.Op.move (Go.Operand.tmp 0), type := 105, pos := "l26_sessions.go:13", after := #[], guard := none }
abbrev zo44_1_1 : Oper := { dst := some 4, op := Go.Op.nilCheck (Go.Operand.tmp 3), type := 0, pos := "l26_sessions.go:13", after := #[{ on := 0, ground := Go.Ground.data }], guard := none }
abbrev zo44_1_2 : Oper := { dst := some 5, op := Go.Op.fieldAddr 61 (Go.Operand.tmp 4) 0, type := 0, pos := "l26_sessions.go:13", after := #[{ on := 1, ground := Go.Ground.data }], guard := none }
abbrev zo44_1_4 : Oper := { dst := some 7, op := Go.Op.move (Go.Operand.tmp 0), type := 105, pos := "l26_sessions.go:13", after := #[], guard := none }
abbrev zo44_1_5 : Oper := { dst := some 8, op := Go.Op.nilCheck (Go.Operand.tmp 7), type := 0, pos := "l26_sessions.go:13", after := #[{ on := 4, ground := Go.Ground.data }], guard := none }
abbrev zo44_1_6 : Oper := { dst := some 9, op := Go.Op.fieldAddr 61 (Go.Operand.tmp 8) 1, type := 0, pos := "l26_sessions.go:13", after := #[{ on := 5, ground := Go.Ground.data }], guard := none }
abbrev zo44_1_7 : Oper := { dst := some 10, op := Go.Op.load 53 (Go.Operand.tmp 9), type := 53, pos := "l26_sessions.go:13", after := #[{ on := 6, ground := Go.Ground.data }], guard := none }
abbrev zo44_1_9 : Oper := { dst := some 12, op := Go.Op.move (Go.Operand.tmp 0), type := 105, pos := "l26_sessions.go:13", after := #[], guard := none }
abbrev zo44_1_10 : Oper := { dst := some 13, op := Go.Op.nilCheck (Go.Operand.tmp 12), type := 0, pos := "l26_sessions.go:13", after := #[{ on := 9, ground := Go.Ground.data }], guard := none }
abbrev zo44_1_11 : Oper := { dst := some 14, op := Go.Op.fieldAddr 61 (Go.Operand.tmp 13) 2, type := 0, pos := "l26_sessions.go:13", after := #[{ on := 10, ground := Go.Ground.data }], guard := none }
abbrev zo44_1_12 : Oper := { dst := some 15, op := Go.Op.fieldAddr 56 (Go.Operand.tmp 14) 0, type := 0, pos := "l26_sessions.go:13", after := #[{ on := 11, ground := Go.Ground.data }], guard := none }
abbrev zo44_1_13 : Oper := { dst := some 16, op := Go.Op.load 54 (Go.Operand.tmp 15), type := 54, pos := "l26_sessions.go:13", after := #[{ on := 12, ground := Go.Ground.data }], guard := none }
abbrev zo44_1_16 : Oper := { dst := some 19, op := Go.Op.move (Go.Operand.tmp 0), type := 105, pos := "l26_sessions.go:13", after := #[], guard := none }
abbrev zo44_1_17 : Oper := { dst := some 20, op := Go.Op.nilCheck (Go.Operand.tmp 19), type := 0, pos := "l26_sessions.go:13", after := #[{ on := 16, ground := Go.Ground.data }], guard := none }
abbrev zo44_1_18 : Oper := { dst := some 21, op := Go.Op.fieldAddr 61 (Go.Operand.tmp 20) 3, type := 0, pos := "l26_sessions.go:13", after := #[{ on := 17, ground := Go.Ground.data }], guard := none }
abbrev zo44_1_19 : Oper := { dst := some 22, op := Go.Op.fieldAddr 59 (Go.Operand.tmp 21) 0, type := 0, pos := "l26_sessions.go:13", after := #[{ on := 18, ground := Go.Ground.data }], guard := none }
abbrev zo44_1_20 : Oper := { dst := some 23, op := Go.Op.load 2 (Go.Operand.tmp 22), type := 2, pos := "l26_sessions.go:13", after := #[{ on := 19, ground := Go.Ground.data }], guard := none }
abbrev zo44_1_22 : Oper := { dst := some 25, op := Go.Op.move (Go.Operand.tmp 0), type := 105, pos := "l26_sessions.go:13", after := #[], guard := none }
abbrev zo44_1_23 : Oper := { dst := some 26, op := Go.Op.nilCheck (Go.Operand.tmp 25), type := 0, pos := "l26_sessions.go:13", after := #[{ on := 22, ground := Go.Ground.data }], guard := none }
abbrev zo44_1_24 : Oper := { dst := some 27, op := Go.Op.fieldAddr 61 (Go.Operand.tmp 26) 3, type := 0, pos := "l26_sessions.go:13", after := #[{ on := 23, ground := Go.Ground.data }], guard := none }
abbrev zo44_1_25 : Oper := { dst := some 28, op := Go.Op.fieldAddr 59 (Go.Operand.tmp 27) 1, type := 0, pos := "l26_sessions.go:13", after := #[{ on := 24, ground := Go.Ground.data }], guard := none }
abbrev zo44_1_26 : Oper := { dst := some 29, op := Go.Op.load 57 (Go.Operand.tmp 28), type := 57, pos := "l26_sessions.go:13", after := #[{ on := 25, ground := Go.Ground.data }], guard := none }
abbrev zo44_1_29 : Oper := { dst := some 32, op := Go.Op.move (Go.Operand.tmp 0), type := 105, pos := "l26_sessions.go:13", after := #[], guard := none }
abbrev zo44_1_30 : Oper := { dst := some 33, op := Go.Op.nilCheck (Go.Operand.tmp 32), type := 0, pos := "l26_sessions.go:13", after := #[{ on := 29, ground := Go.Ground.data }], guard := none }
abbrev zo44_1_31 : Oper := { dst := some 34, op := Go.Op.fieldAddr 61 (Go.Operand.tmp 33) 4, type := 0, pos := "l26_sessions.go:13", after := #[{ on := 30, ground := Go.Ground.data }], guard := none }
abbrev zo44_1_32 : Oper := { dst := some 35, op := Go.Op.load 2 (Go.Operand.tmp 34), type := 2, pos := "l26_sessions.go:13", after := #[{ on := 31, ground := Go.Ground.data }], guard := none }

abbrev owsetup_ops : Array Oper := #[{ dst := some 3, op := Go.Op.move (Go.Operand.tmp 0), type := 105, pos := "l26_sessions.go:13", after := #[], guard := none }, { dst := some 4, op := Go.Op.nilCheck (Go.Operand.tmp 3), type := 0, pos := "l26_sessions.go:13", after := #[{ on := 0, ground := Go.Ground.data }], guard := none }, { dst := some 5, op := Go.Op.fieldAddr 61 (Go.Operand.tmp 4) 0, type := 0, pos := "l26_sessions.go:13", after := #[{ on := 1, ground := Go.Ground.data }], guard := none }, { dst := some 6, op := Go.Op.call { callee := Go.Callee.value (Go.Operand.func 112), args := #[Go.Operand.tmp 5, Go.Operand.const (Go.Value.int Go.IntKind.i64 (-1))], argTypes := #[135, 2] }, type := 52, pos := "l26_sessions.go:13", after := #[{ on := 2, ground := Go.Ground.data }], guard := none }, { dst := some 7, op := Go.Op.move (Go.Operand.tmp 0), type := 105, pos := "l26_sessions.go:13", after := #[], guard := none }, { dst := some 8, op := Go.Op.nilCheck (Go.Operand.tmp 7), type := 0, pos := "l26_sessions.go:13", after := #[{ on := 4, ground := Go.Ground.data }], guard := none }, { dst := some 9, op := Go.Op.fieldAddr 61 (Go.Operand.tmp 8) 1, type := 0, pos := "l26_sessions.go:13", after := #[{ on := 5, ground := Go.Ground.data }], guard := none }, { dst := some 10, op := Go.Op.load 53 (Go.Operand.tmp 9), type := 53, pos := "l26_sessions.go:13", after := #[{ on := 6, ground := Go.Ground.data }], guard := none }, { dst := some 11, op := Go.Op.buildSlice 54 0 #[], type := 54, pos := "l26_sessions.go:13", after := #[], guard := none }, { dst := some 12, op := Go.Op.move (Go.Operand.tmp 0), type := 105, pos := "l26_sessions.go:13", after := #[], guard := none }, { dst := some 13, op := Go.Op.nilCheck (Go.Operand.tmp 12), type := 0, pos := "l26_sessions.go:13", after := #[{ on := 9, ground := Go.Ground.data }], guard := none }, { dst := some 14, op := Go.Op.fieldAddr 61 (Go.Operand.tmp 13) 2, type := 0, pos := "l26_sessions.go:13", after := #[{ on := 10, ground := Go.Ground.data }], guard := none }, { dst := some 15, op := Go.Op.fieldAddr 56 (Go.Operand.tmp 14) 0, type := 0, pos := "l26_sessions.go:13", after := #[{ on := 11, ground := Go.Ground.data }], guard := none }, { dst := some 16, op := Go.Op.load 54 (Go.Operand.tmp 15), type := 54, pos := "l26_sessions.go:13", after := #[{ on := 12, ground := Go.Ground.data }], guard := none }, { dst := some 17, op := Go.Op.call { callee := Go.Callee.builtin Go.Builtin.append, args := #[Go.Operand.tmp 11, Go.Operand.tmp 16], argTypes := #[54, 54] }, type := 54, pos := "l26_sessions.go:13", after := #[{ on := 8, ground := Go.Ground.data }, { on := 13, ground := Go.Ground.data }, { on := 3, ground := Go.Ground.chain }], guard := none }, { dst := some 18, op := Go.Op.build 56 #[(0, Go.Operand.tmp 17)], type := 56, pos := "l26_sessions.go:13", after := #[{ on := 14, ground := Go.Ground.data }], guard := none }, { dst := some 19, op := Go.Op.move (Go.Operand.tmp 0), type := 105, pos := "l26_sessions.go:13", after := #[], guard := none }, { dst := some 20, op := Go.Op.nilCheck (Go.Operand.tmp 19), type := 0, pos := "l26_sessions.go:13", after := #[{ on := 16, ground := Go.Ground.data }], guard := none }, { dst := some 21, op := Go.Op.fieldAddr 61 (Go.Operand.tmp 20) 3, type := 0, pos := "l26_sessions.go:13", after := #[{ on := 17, ground := Go.Ground.data }], guard := none }, { dst := some 22, op := Go.Op.fieldAddr 59 (Go.Operand.tmp 21) 0, type := 0, pos := "l26_sessions.go:13", after := #[{ on := 18, ground := Go.Ground.data }], guard := none }, { dst := some 23, op := Go.Op.load 2 (Go.Operand.tmp 22), type := 2, pos := "l26_sessions.go:13", after := #[{ on := 19, ground := Go.Ground.data }], guard := none }, { dst := some 24, op := Go.Op.buildSlice 57 0 #[], type := 57, pos := "l26_sessions.go:13", after := #[], guard := none }, { dst := some 25, op := Go.Op.move (Go.Operand.tmp 0), type := 105, pos := "l26_sessions.go:13", after := #[], guard := none }, { dst := some 26, op := Go.Op.nilCheck (Go.Operand.tmp 25), type := 0, pos := "l26_sessions.go:13", after := #[{ on := 22, ground := Go.Ground.data }], guard := none }, { dst := some 27, op := Go.Op.fieldAddr 61 (Go.Operand.tmp 26) 3, type := 0, pos := "l26_sessions.go:13", after := #[{ on := 23, ground := Go.Ground.data }], guard := none }, { dst := some 28, op := Go.Op.fieldAddr 59 (Go.Operand.tmp 27) 1, type := 0, pos := "l26_sessions.go:13", after := #[{ on := 24, ground := Go.Ground.data }], guard := none }, { dst := some 29, op := Go.Op.load 57 (Go.Operand.tmp 28), type := 57, pos := "l26_sessions.go:13", after := #[{ on := 25, ground := Go.Ground.data }], guard := none }, { dst := some 30, op := Go.Op.call { callee := Go.Callee.builtin Go.Builtin.append, args := #[Go.Operand.tmp 24, Go.Operand.tmp 29], argTypes := #[57, 57] }, type := 57, pos := "l26_sessions.go:13", after := #[{ on := 21, ground := Go.Ground.data }, { on := 26, ground := Go.Ground.data }, { on := 14, ground := Go.Ground.chain }], guard := none }, { dst := some 31, op := Go.Op.build 59 #[(0, Go.Operand.tmp 23), (1, Go.Operand.tmp 30)], type := 59, pos := "l26_sessions.go:13", after := #[{ on := 20, ground := Go.Ground.data }, { on := 27, ground := Go.Ground.data }], guard := none }, { dst := some 32, op := Go.Op.move (Go.Operand.tmp 0), type := 105, pos := "l26_sessions.go:13", after := #[], guard := none }, { dst := some 33, op := Go.Op.nilCheck (Go.Operand.tmp 32), type := 0, pos := "l26_sessions.go:13", after := #[{ on := 29, ground := Go.Ground.data }], guard := none }, { dst := some 34, op := Go.Op.fieldAddr 61 (Go.Operand.tmp 33) 4, type := 0, pos := "l26_sessions.go:13", after := #[{ on := 30, ground := Go.Ground.data }], guard := none }, { dst := some 35, op := Go.Op.load 2 (Go.Operand.tmp 34), type := 2, pos := "l26_sessions.go:13", after := #[{ on := 31, ground := Go.Ground.data }], guard := none }, { dst := some 36, op := Go.Op.build 61 #[(0, Go.Operand.tmp 6), (1, Go.Operand.tmp 10), (2, Go.Operand.tmp 18), (3, Go.Operand.tmp 31), (4, Go.Operand.tmp 35)], type := 61, pos := "l26_sessions.go:13", after := #[{ on := 3, ground := Go.Ground.data }, { on := 7, ground := Go.Ground.data }, { on := 15, ground := Go.Ground.data }, { on := 28, ground := Go.Ground.data }, { on := 32, ground := Go.Ground.data }], guard := none }, { dst := none, op := Go.Op.store 61 (Go.Operand.tmp 2) (Go.Operand.tmp 36), type := 0, pos := "l26_sessions.go:13", after := #[{ on := 33, ground := Go.Ground.data }, { on := 27, ground := Go.Ground.chain }, { on := 0, ground := Go.Ground.phase }, { on := 1, ground := Go.Ground.phase }, { on := 2, ground := Go.Ground.phase }, { on := 3, ground := Go.Ground.phase }, { on := 4, ground := Go.Ground.phase }, { on := 5, ground := Go.Ground.phase }, { on := 6, ground := Go.Ground.phase }, { on := 7, ground := Go.Ground.phase }, { on := 8, ground := Go.Ground.phase }, { on := 9, ground := Go.Ground.phase }, { on := 10, ground := Go.Ground.phase }, { on := 11, ground := Go.Ground.phase }, { on := 12, ground := Go.Ground.phase }, { on := 13, ground := Go.Ground.phase }, { on := 14, ground := Go.Ground.phase }, { on := 15, ground := Go.Ground.phase }, { on := 16, ground := Go.Ground.phase }, { on := 17, ground := Go.Ground.phase }, { on := 18, ground := Go.Ground.phase }, { on := 19, ground := Go.Ground.phase }, { on := 20, ground := Go.Ground.phase }, { on := 21, ground := Go.Ground.phase }, { on := 22, ground := Go.Ground.phase }, { on := 23, ground := Go.Ground.phase }, { on := 24, ground := Go.Ground.phase }, { on := 25, ground := Go.Ground.phase }, { on := 26, ground := Go.Ground.phase }, { on := 27, ground := Go.Ground.phase }, { on := 28, ground := Go.Ground.phase }, { on := 29, ground := Go.Ground.phase }, { on := 30, ground := Go.Ground.phase }, { on := 31, ground := Go.Ground.phase }, { on := 32, ground := Go.Ground.phase }, { on := 33, ground := Go.Ground.phase }], guard := none }]
set_option maxRecDepth 100000 in
set_option maxHeartbeats 4000000 in
theorem owsetup_122 {I : Ids} {o : Bool} {p : PSetup} {A0 A1 A2 : Option Addr} {k0 k1 k2 : Nat} {F0 F1 F2 : List Nat} {g : Nat} {w : World} {Q : Exit → Act → World → Prop} {x1 x3 x4 x7 x8 x9 x12 x13 x14 x15 x19 x20 x21 x22 x25 x26 x27 x28 x32 x33 x34 x36 : Value} {ds : _} {B0 : Option Addr} {j0 : Nat} {G0 : List Nat} {B1 : Option Addr} {j1 : Nat} {G1 : List Nat} {n1 : Nat} {B2 : Option Addr} {j2 : Nat} {G2 : List Nat} {n2 : Nat} (W : World) (O : Row W w.heap.size 61 [.int .i64 0, .slice none 0 0, .int .i64 0, .int .i64 0, .int .i64 0, .slice none 0 0, .int .i64 0, .slice none 0 0, .int .i64 0]) (bb : Below w.heap.size w W) (gw : g < w.heap.size) (c0 : w.cell? ⟨g, 0, none⟩ = some (.int .i64 p.band)) (c1 : w.cell? ⟨g, 1, none⟩ = some (.slice A0 p.temps.length k0)) (c2 : w.cell? ⟨g, 2, none⟩ = some (.int .i64 p.points)) (c3 : w.cell? ⟨g, 3, none⟩ = some (.int .i64 p.most)) (c4 : w.cell? ⟨g, 4, none⟩ = some (.int .i64 p.pen)) (c5 : w.cell? ⟨g, 5, none⟩ = some (.slice A1 p.entries.length k1)) (c6 : w.cell? ⟨g, 6, none⟩ = some (.int .i64 p.dflt)) (c7 : w.cell? ⟨g, 7, none⟩ = some (.slice A2 p.bigrams.length k2)) (c8 : w.cell? ⟨g, 8, none⟩ = some (.int .i64 p.pause)) (h0 : (pTemps I.ft I.tm).rep o w p.temps [.slice A0 p.temps.length k0] F0) (h1 : (pEntrys I.en).rep o w p.entries [.slice A1 p.entries.length k1] F1) (h2 : (pBigrams I.bg).rep o w p.bigrams [.slice A2 p.bigrams.length k2] F2) (hp : SeSmall p) (r0 : (pTemps 224 215).rep true W p.temps [.slice B0 p.temps.length j0] G0) (f0 : G0.Nodup) (l0 : ∀ x ∈ G0, w.heap.size + 1 ≤ x) (r1 : (pEntrys 183).rep true W p.entries [.slice B1 p.entries.length j1] G1) (f1 : G1.Nodup) (l1 : ∀ x ∈ G1, w.heap.size + 1 ≤ x) (r2 : (pBigrams 186).rep true W p.bigrams [.slice B2 p.bigrams.length j2] G2) (f2 : G2.Nodup) (l2 : ∀ x ∈ G2, w.heap.size + 1 ≤ x) (d0_1 : ∀ x ∈ G0, x ∉ G1) (d0_2 : ∀ x ∈ G0, x ∉ G2) (d1_2 : ∀ x ∈ G1, x ∉ G2) (fin : ∀ (W' : World) (B0 : Option Addr) (j0 : Nat) (G0 : List Nat) (B1 : Option Addr) (j1 : Nat) (G1 : List Nat) (n1 : Nat) (B2 : Option Addr) (j2 : Nat) (G2 : List Nat) (n2 : Nat) , Row W' w.heap.size 61 [.int .i64 p.band, .slice B0 p.temps.length j0, .int .i64 p.points, .int .i64 p.most, .int .i64 p.pen, .slice B1 p.entries.length j1, .int .i64 p.dflt, .slice B2 p.bigrams.length j2, .int .i64 p.pause] → ((pTemps 224 215).rep true W' p.temps [.slice B0 p.temps.length j0] G0) → (G0.Nodup) → (∀ x ∈ G0, w.heap.size + 1 ≤ x) → ((pEntrys 183).rep true W' p.entries [.slice B1 p.entries.length j1] G1) → (G1.Nodup) → (∀ x ∈ G1, w.heap.size + 1 ≤ x) → ((pBigrams 186).rep true W' p.bigrams [.slice B2 p.bigrams.length j2] G2) → (G2.Nodup) → (∀ x ∈ G2, w.heap.size + 1 ≤ x) → (∀ x ∈ G0, x ∉ G1) → (∀ x ∈ G0, x ∉ G2) → (∀ x ∈ G1, x ∉ G2) → Below w.heap.size w W' → Q .normal { tmps := #[.pointer (some ⟨g, 0, none⟩), x1, .pointer (some ⟨w.heap.size, 0, none⟩), x3, x4, .pointer (some ⟨g, 0, none⟩), .agg #[.int .i64 p.band, .slice B0 p.temps.length j0], x7, x8, x9, .agg #[.int .i64 p.points, .int .i64 p.most, .int .i64 p.pen], .slice (some ⟨n1, 0, none⟩) 0 0, x12, x13, x14, x15, .slice A1 p.entries.length k1, .slice B1 p.entries.length j1, .agg #[.slice B1 p.entries.length j1], x19, x20, x21, x22, .int .i64 p.dflt, .slice (some ⟨n2, 0, none⟩) 0 0, x25, x26, x27, x28, .slice A2 p.bigrams.length k2, .slice B2 p.bigrams.length j2, .agg #[.int .i64 p.dflt, .slice B2 p.bigrams.length j2], x32, x33, x34, .int .i64 p.pause, .agg #[.int .i64 p.band, .slice B0 p.temps.length j0, .int .i64 p.points, .int .i64 p.most, .int .i64 p.pen, .slice B1 p.entries.length j1, .int .i64 p.dflt, .slice B2 p.bigrams.length j2, .int .i64 p.pause]], defers := ds } W') (hQ : ∀ c a d v w, Q (.panic c) (Act.put a d v) w → Q (.panic c) a w) :
    wpAnyH Tryz.prog .any owsetup_ops Q (fun w' : World => w'.cell? ⟨g, 0, none⟩ = some (.int .i64 p.band) ∧ w'.cell? ⟨g, 1, none⟩ = some (.slice A0 p.temps.length k0) ∧ w'.cell? ⟨g, 2, none⟩ = some (.int .i64 p.points) ∧ w'.cell? ⟨g, 3, none⟩ = some (.int .i64 p.most) ∧ w'.cell? ⟨g, 4, none⟩ = some (.int .i64 p.pen) ∧ w'.cell? ⟨g, 5, none⟩ = some (.slice A1 p.entries.length k1) ∧ w'.cell? ⟨g, 6, none⟩ = some (.int .i64 p.dflt) ∧ w'.cell? ⟨g, 7, none⟩ = some (.slice A2 p.bigrams.length k2) ∧ w'.cell? ⟨g, 8, none⟩ = some (.int .i64 p.pause)) 2 #[true, true, true, true, true, true, true, true, true, true, true, true, true, true, true, true, true, true, true, true, true, true, true, true, true, true, true, true, true, true, true, true, true, false, false] { tmps := #[.pointer (some ⟨g, 0, none⟩), x1, .pointer (some ⟨w.heap.size, 0, none⟩), x3, x4, .pointer (some ⟨g, 0, none⟩), .agg #[.int .i64 p.band, .slice B0 p.temps.length j0], x7, x8, x9, .agg #[.int .i64 p.points, .int .i64 p.most, .int .i64 p.pen], .slice (some ⟨n1, 0, none⟩) 0 0, x12, x13, x14, x15, .slice A1 p.entries.length k1, .slice B1 p.entries.length j1, .agg #[.slice B1 p.entries.length j1], x19, x20, x21, x22, .int .i64 p.dflt, .slice (some ⟨n2, 0, none⟩) 0 0, x25, x26, x27, x28, .slice A2 p.bigrams.length k2, .slice B2 p.bigrams.length j2, .agg #[.int .i64 p.dflt, .slice B2 p.bigrams.length j2], x32, x33, x34, .int .i64 p.pause, x36], defers := ds } W := by
  have hS : (fun w' : World => w'.cell? ⟨g, 0, none⟩ = some (.int .i64 p.band) ∧ w'.cell? ⟨g, 1, none⟩ = some (.slice A0 p.temps.length k0) ∧ w'.cell? ⟨g, 2, none⟩ = some (.int .i64 p.points) ∧ w'.cell? ⟨g, 3, none⟩ = some (.int .i64 p.most) ∧ w'.cell? ⟨g, 4, none⟩ = some (.int .i64 p.pen) ∧ w'.cell? ⟨g, 5, none⟩ = some (.slice A1 p.entries.length k1) ∧ w'.cell? ⟨g, 6, none⟩ = some (.int .i64 p.dflt) ∧ w'.cell? ⟨g, 7, none⟩ = some (.slice A2 p.bigrams.length k2) ∧ w'.cell? ⟨g, 8, none⟩ = some (.int .i64 p.pause)) W := ⟨kb bb gw c0, kb bb gw c1, kb bb gw c2, kb bb gw c3, kb bb gw c4, kb bb gw c5, kb bb gw c6, kb bb gw c7, kb bb gw c8⟩
  dsimp only at hS
  refine tk44_1 (i := 33) (oi := zo44_1_33) (v := ?_) rfl (by kernel_rfl) (fun c a w h => hQ c a _ _ w h) (Or.inl ⟨rfl, ?_⟩) hS ?_
  rotate_left
  · (intro w' hS'; (try dsimp only at hS'); dsimp only [zo44_1_33]; go_simp; try with_reducible rfl)
  simp only [Act.put, pa44_1, pb44_1, pc44_1]
  refine wpAnyH_ready (rs := [34]) (by kernel_rfl) (by simp) ?_
  refine AllReadyH.cons (o := zo44_1_34) rfl (fun K hK => ?_) .nil
  have ol := O.lt
  have oc0 := O.cell' (i := 0) rfl
  have oc1 := O.cell' (i := 1) rfl
  have oc2 := O.cell' (i := 2) rfl
  have oc3 := O.cell' (i := 3) rfl
  have oc4 := O.cell' (i := 4) rfl
  have oc5 := O.cell' (i := 5) rfl
  have oc6 := O.cell' (i := 6) rfl
  have oc7 := O.cell' (i := 7) rfl
  have oc8 := O.cell' (i := 8) rfl
  have of := O.frozen
  go_simp
  have onE := ((((((((((Only.refl [w.heap.size] W).set (p := ⟨w.heap.size, 0, none⟩) (by simp) (.int .i64 p.band)).set (p := ⟨w.heap.size, 1, none⟩) (by simp) (.slice B0 p.temps.length j0)).set (p := ⟨w.heap.size, 2, none⟩) (by simp) (.int .i64 p.points)).set (p := ⟨w.heap.size, 3, none⟩) (by simp) (.int .i64 p.most)).set (p := ⟨w.heap.size, 4, none⟩) (by simp) (.int .i64 p.pen)).set (p := ⟨w.heap.size, 5, none⟩) (by simp) (.slice B1 p.entries.length j1)).set (p := ⟨w.heap.size, 6, none⟩) (by simp) (.int .i64 p.dflt)).set (p := ⟨w.heap.size, 7, none⟩) (by simp) (.slice B2 p.bigrams.length j2)).set (p := ⟨w.heap.size, 8, none⟩) (by simp) (.int .i64 p.pause))
  have OE := (((((((((O.set 0 (.int .i64 p.band)).set 1 (.slice B0 p.temps.length j0)).set 2 (.int .i64 p.points)).set 3 (.int .i64 p.most)).set 4 (.int .i64 p.pen)).set 5 (.slice B1 p.entries.length j1)).set 6 (.int .i64 p.dflt)).set 7 (.slice B2 p.bigrams.length j2)).set 8 (.int .i64 p.pause))
  have q0 := r0.only onE (fun x hx hin => by have := l0 x hx; simp at hin; omega)
  have q1 := r1.only onE (fun x hx hin => by have := l1 x hx; simp at hin; omega)
  have q2 := r2.only onE (fun x hx hin => by have := l2 x hx; simp at hin; omega)
  have bE := bb.trans (onE.below bb.size (fun x hx => by simp at hx; omega))
  refine hK.out _ _ ⟨kb bE gw c0, kb bE gw c1, kb bE gw c2, kb bE gw c3, kb bE gw c4, kb bE gw c5, kb bE gw c6, kb bE gw c7, kb bE gw c8⟩ (fun _ => ?_)
  clear hK K
  refine wpAnyH_done (by kernel_rfl) ?_ _
  exact fin _ B0 j0 G0 B1 j1 G1 n1 B2 j2 G2 n2 OE q0 f0 l0 q1 f1 l1 q2 f2 l2 d0_1 d0_2 d1_2 bE
set_option maxRecDepth 100000 in
set_option maxHeartbeats 4000000 in
theorem owsetup_121 {I : Ids} {o : Bool} {p : PSetup} {A0 A1 A2 : Option Addr} {k0 k1 k2 : Nat} {F0 F1 F2 : List Nat} {g : Nat} {w : World} {Q : Exit → Act → World → Prop} {x1 x3 x4 x7 x8 x9 x12 x13 x14 x15 x19 x20 x21 x22 x25 x26 x27 x28 x30 x31 x32 x33 x34 x36 : Value} {ds : _} {B0 : Option Addr} {j0 : Nat} {G0 : List Nat} {B1 : Option Addr} {j1 : Nat} {G1 : List Nat} {n1 : Nat} {n2 : Nat} (W : World) (O : Row W w.heap.size 61 [.int .i64 0, .slice none 0 0, .int .i64 0, .int .i64 0, .int .i64 0, .slice none 0 0, .int .i64 0, .slice none 0 0, .int .i64 0]) (bb : Below w.heap.size w W) (gw : g < w.heap.size) (c0 : w.cell? ⟨g, 0, none⟩ = some (.int .i64 p.band)) (c1 : w.cell? ⟨g, 1, none⟩ = some (.slice A0 p.temps.length k0)) (c2 : w.cell? ⟨g, 2, none⟩ = some (.int .i64 p.points)) (c3 : w.cell? ⟨g, 3, none⟩ = some (.int .i64 p.most)) (c4 : w.cell? ⟨g, 4, none⟩ = some (.int .i64 p.pen)) (c5 : w.cell? ⟨g, 5, none⟩ = some (.slice A1 p.entries.length k1)) (c6 : w.cell? ⟨g, 6, none⟩ = some (.int .i64 p.dflt)) (c7 : w.cell? ⟨g, 7, none⟩ = some (.slice A2 p.bigrams.length k2)) (c8 : w.cell? ⟨g, 8, none⟩ = some (.int .i64 p.pause)) (h0 : (pTemps I.ft I.tm).rep o w p.temps [.slice A0 p.temps.length k0] F0) (h1 : (pEntrys I.en).rep o w p.entries [.slice A1 p.entries.length k1] F1) (h2 : (pBigrams I.bg).rep o w p.bigrams [.slice A2 p.bigrams.length k2] F2) (hp : SeSmall p) (r0 : (pTemps 224 215).rep true W p.temps [.slice B0 p.temps.length j0] G0) (f0 : G0.Nodup) (l0 : ∀ x ∈ G0, w.heap.size + 1 ≤ x) (r1 : (pEntrys 183).rep true W p.entries [.slice B1 p.entries.length j1] G1) (f1 : G1.Nodup) (l1 : ∀ x ∈ G1, w.heap.size + 1 ≤ x) (r2 : (pBigrams 186).rep true W ([] : List PBigram) [.slice (some ⟨n2, 0, none⟩) 0 0] [n2]) (l2 : ∀ x ∈ [n2], w.heap.size + 1 ≤ x) (d0_1 : ∀ x ∈ G0, x ∉ G1) (d0_2 : ∀ x ∈ G0, x ∉ [n2]) (d1_2 : ∀ x ∈ G1, x ∉ [n2]) (fin : ∀ (W' : World) (B0 : Option Addr) (j0 : Nat) (G0 : List Nat) (B1 : Option Addr) (j1 : Nat) (G1 : List Nat) (n1 : Nat) (B2 : Option Addr) (j2 : Nat) (G2 : List Nat) (n2 : Nat) , Row W' w.heap.size 61 [.int .i64 p.band, .slice B0 p.temps.length j0, .int .i64 p.points, .int .i64 p.most, .int .i64 p.pen, .slice B1 p.entries.length j1, .int .i64 p.dflt, .slice B2 p.bigrams.length j2, .int .i64 p.pause] → ((pTemps 224 215).rep true W' p.temps [.slice B0 p.temps.length j0] G0) → (G0.Nodup) → (∀ x ∈ G0, w.heap.size + 1 ≤ x) → ((pEntrys 183).rep true W' p.entries [.slice B1 p.entries.length j1] G1) → (G1.Nodup) → (∀ x ∈ G1, w.heap.size + 1 ≤ x) → ((pBigrams 186).rep true W' p.bigrams [.slice B2 p.bigrams.length j2] G2) → (G2.Nodup) → (∀ x ∈ G2, w.heap.size + 1 ≤ x) → (∀ x ∈ G0, x ∉ G1) → (∀ x ∈ G0, x ∉ G2) → (∀ x ∈ G1, x ∉ G2) → Below w.heap.size w W' → Q .normal { tmps := #[.pointer (some ⟨g, 0, none⟩), x1, .pointer (some ⟨w.heap.size, 0, none⟩), x3, x4, .pointer (some ⟨g, 0, none⟩), .agg #[.int .i64 p.band, .slice B0 p.temps.length j0], x7, x8, x9, .agg #[.int .i64 p.points, .int .i64 p.most, .int .i64 p.pen], .slice (some ⟨n1, 0, none⟩) 0 0, x12, x13, x14, x15, .slice A1 p.entries.length k1, .slice B1 p.entries.length j1, .agg #[.slice B1 p.entries.length j1], x19, x20, x21, x22, .int .i64 p.dflt, .slice (some ⟨n2, 0, none⟩) 0 0, x25, x26, x27, x28, .slice A2 p.bigrams.length k2, .slice B2 p.bigrams.length j2, .agg #[.int .i64 p.dflt, .slice B2 p.bigrams.length j2], x32, x33, x34, .int .i64 p.pause, .agg #[.int .i64 p.band, .slice B0 p.temps.length j0, .int .i64 p.points, .int .i64 p.most, .int .i64 p.pen, .slice B1 p.entries.length j1, .int .i64 p.dflt, .slice B2 p.bigrams.length j2, .int .i64 p.pause]], defers := ds } W') (hQ : ∀ c a d v w, Q (.panic c) (Act.put a d v) w → Q (.panic c) a w) :
    wpAnyH Tryz.prog .any owsetup_ops Q (fun w' : World => w'.cell? ⟨g, 0, none⟩ = some (.int .i64 p.band) ∧ w'.cell? ⟨g, 1, none⟩ = some (.slice A0 p.temps.length k0) ∧ w'.cell? ⟨g, 2, none⟩ = some (.int .i64 p.points) ∧ w'.cell? ⟨g, 3, none⟩ = some (.int .i64 p.most) ∧ w'.cell? ⟨g, 4, none⟩ = some (.int .i64 p.pen) ∧ w'.cell? ⟨g, 5, none⟩ = some (.slice A1 p.entries.length k1) ∧ w'.cell? ⟨g, 6, none⟩ = some (.int .i64 p.dflt) ∧ w'.cell? ⟨g, 7, none⟩ = some (.slice A2 p.bigrams.length k2) ∧ w'.cell? ⟨g, 8, none⟩ = some (.int .i64 p.pause)) 4 #[true, true, true, true, true, true, true, true, true, true, true, true, true, true, true, true, true, true, true, true, true, true, true, true, true, true, true, false, false, true, true, true, true, false, false] { tmps := #[.pointer (some ⟨g, 0, none⟩), x1, .pointer (some ⟨w.heap.size, 0, none⟩), x3, x4, .pointer (some ⟨g, 0, none⟩), .agg #[.int .i64 p.band, .slice B0 p.temps.length j0], x7, x8, x9, .agg #[.int .i64 p.points, .int .i64 p.most, .int .i64 p.pen], .slice (some ⟨n1, 0, none⟩) 0 0, x12, x13, x14, x15, .slice A1 p.entries.length k1, .slice B1 p.entries.length j1, .agg #[.slice B1 p.entries.length j1], x19, x20, x21, x22, .int .i64 p.dflt, .slice (some ⟨n2, 0, none⟩) 0 0, x25, x26, x27, x28, .slice A2 p.bigrams.length k2, x30, x31, x32, x33, x34, .int .i64 p.pause, x36], defers := ds } W := by
  have hS : (fun w' : World => w'.cell? ⟨g, 0, none⟩ = some (.int .i64 p.band) ∧ w'.cell? ⟨g, 1, none⟩ = some (.slice A0 p.temps.length k0) ∧ w'.cell? ⟨g, 2, none⟩ = some (.int .i64 p.points) ∧ w'.cell? ⟨g, 3, none⟩ = some (.int .i64 p.most) ∧ w'.cell? ⟨g, 4, none⟩ = some (.int .i64 p.pen) ∧ w'.cell? ⟨g, 5, none⟩ = some (.slice A1 p.entries.length k1) ∧ w'.cell? ⟨g, 6, none⟩ = some (.int .i64 p.dflt) ∧ w'.cell? ⟨g, 7, none⟩ = some (.slice A2 p.bigrams.length k2) ∧ w'.cell? ⟨g, 8, none⟩ = some (.int .i64 p.pause)) W := ⟨kb bb gw c0, kb bb gw c1, kb bb gw c2, kb bb gw c3, kb bb gw c4, kb bb gw c5, kb bb gw c6, kb bb gw c7, kb bb gw c8⟩
  dsimp only at hS
  refine wpAnyH_ready (rs := [27]) (by kernel_rfl) (by simp) ?_
  refine AllReadyH.cons (o := { dst := some 30, op := Go.Op.call { callee := Go.Callee.builtin Go.Builtin.append, args := #[Go.Operand.tmp 24, Go.Operand.tmp 29], argTypes := #[57, 57] }, type := 57, pos := "l26_sessions.go:13", after := #[{ on := 21, ground := Go.Ground.data }, { on := 26, ground := Go.Ground.data }, { on := 14, ground := Go.Ground.chain }], guard := none }) rfl (fun K hK => ?_) .nil
  · skip
    have u0 : ∀ x ∈ G0, x < W.heap.size := r0.blocks
    have u1 : ∀ x ∈ G1, x < W.heap.size := r1.blocks
    have ol := O.lt
    have bz := bb.size
    obtain ⟨ec, Gs, hs1, hs2, hsb'⟩ := slice_src h2
    refine step_append_repX (T := pBigram) (e := 186) (xs := []) (ys := p.bigrams) (ec := ec) rfl (.tmp 24) (.tmp 29) (by rfl) Tryz.underlying57 Tryz.infoBigram rfl (by decide) (by rfl) r2 (by rfl) (pBigram_flat (o' := true) (repL_below' hs1 (fun x hx => h2.blocks x (hsb' x hx)) bb)) (CellsAt.below hs2 bb) (by simp) (by have := hp.b; simp [maxLen]; omega) (by have := hp.b; simp; omega) ?_
    intro v2 w2 G2 s2 o2 q2 x2
    rw [List.nil_append] at s2
    obtain ⟨B2, j2, rfl⟩ := slice_len s2
    have os := o2.size
    have fr := q2 (w.heap.size + 1) ⟨by simp, fun x hx => l2 x (by simpa using hx)⟩ (by omega)
    have x3 := x2.1
    have t0 : ∀ x ∈ G0, x ∉ [n2] := d0_2
    replace r0 := r0.only o2 t0
    have t1 : ∀ x ∈ G1, x ∉ [n2] := d1_2
    replace r1 := r1.only o2 t1
    have no : w.heap.size ∉ [n2] := fun hx => by have := l2 _ hx; omega
    replace O := O.onl o2 no
    replace bb := bb.trans (o2.below bb.size (fun x hx => by have := l2 x hx; omega))
    have mb : ∀ x ∈ G2, x ∈ [n2] ∨ W.heap.size ≤ x := fun x hx => by have := x3 x hx; rwa [List.append_nil] at this
    replace d0_2 : ∀ x ∈ G0, x ∉ G2 := fun x hx hy => by
      rcases mb x hy with h | h
      · exact t0 x hx h
      · have := u0 x hx; omega
    replace d1_2 : ∀ x ∈ G1, x ∉ G2 := fun x hx hy => by
      rcases mb x hy with h | h
      · exact t1 x hx h
      · have := u1 x hx; omega
    replace r2 := s2
    have f2 := fr.1
    replace l2 := fr.2
    refine hK.out _ _ ⟨kb bb gw c0, kb bb gw c1, kb bb gw c2, kb bb gw c3, kb bb gw c4, kb bb gw c5, kb bb gw c6, kb bb gw c7, kb bb gw c8⟩ (fun _ => ?_)
    clear hK K
    clear hS
    have hS : (fun w' : World => w'.cell? ⟨g, 0, none⟩ = some (.int .i64 p.band) ∧ w'.cell? ⟨g, 1, none⟩ = some (.slice A0 p.temps.length k0) ∧ w'.cell? ⟨g, 2, none⟩ = some (.int .i64 p.points) ∧ w'.cell? ⟨g, 3, none⟩ = some (.int .i64 p.most) ∧ w'.cell? ⟨g, 4, none⟩ = some (.int .i64 p.pen) ∧ w'.cell? ⟨g, 5, none⟩ = some (.slice A1 p.entries.length k1) ∧ w'.cell? ⟨g, 6, none⟩ = some (.int .i64 p.dflt) ∧ w'.cell? ⟨g, 7, none⟩ = some (.slice A2 p.bigrams.length k2) ∧ w'.cell? ⟨g, 8, none⟩ = some (.int .i64 p.pause)) _ := ⟨kb bb gw c0, kb bb gw c1, kb bb gw c2, kb bb gw c3, kb bb gw c4, kb bb gw c5, kb bb gw c6, kb bb gw c7, kb bb gw c8⟩
    dsimp only at hS
    refine tk44_1 (i := 28) (oi := zo44_1_28) (v := ?_) rfl (by kernel_rfl) (fun c a w h => hQ c a _ _ w h) (Or.inl ⟨rfl, ?_⟩) hS ?_
    rotate_left
    · (intro w' hS'; (try dsimp only at hS'); dsimp only [zo44_1_28]; go_simp; try with_reducible rfl)
    simp only [Act.put, pa44_1, pb44_1, pc44_1]
    exact owsetup_122 _ O bb gw c0 c1 c2 c3 c4 c5 c6 c7 c8 h0 h1 h2 hp r0 f0 l0 r1 f1 l1 r2 f2 l2 d0_1 d0_2 d1_2 fin hQ
set_option maxRecDepth 100000 in
set_option maxHeartbeats 4000000 in
theorem owsetup_111 {I : Ids} {o : Bool} {p : PSetup} {A0 A1 A2 : Option Addr} {k0 k1 k2 : Nat} {F0 F1 F2 : List Nat} {g : Nat} {w : World} {Q : Exit → Act → World → Prop} {x1 x3 x4 x7 x8 x9 x12 x13 x14 x15 x17 x18 x19 x20 x21 x22 x25 x26 x27 x28 x30 x31 x32 x33 x34 x36 : Value} {ds : _} {B0 : Option Addr} {j0 : Nat} {G0 : List Nat} {n1 : Nat} {n2 : Nat} (W : World) (O : Row W w.heap.size 61 [.int .i64 0, .slice none 0 0, .int .i64 0, .int .i64 0, .int .i64 0, .slice none 0 0, .int .i64 0, .slice none 0 0, .int .i64 0]) (bb : Below w.heap.size w W) (gw : g < w.heap.size) (c0 : w.cell? ⟨g, 0, none⟩ = some (.int .i64 p.band)) (c1 : w.cell? ⟨g, 1, none⟩ = some (.slice A0 p.temps.length k0)) (c2 : w.cell? ⟨g, 2, none⟩ = some (.int .i64 p.points)) (c3 : w.cell? ⟨g, 3, none⟩ = some (.int .i64 p.most)) (c4 : w.cell? ⟨g, 4, none⟩ = some (.int .i64 p.pen)) (c5 : w.cell? ⟨g, 5, none⟩ = some (.slice A1 p.entries.length k1)) (c6 : w.cell? ⟨g, 6, none⟩ = some (.int .i64 p.dflt)) (c7 : w.cell? ⟨g, 7, none⟩ = some (.slice A2 p.bigrams.length k2)) (c8 : w.cell? ⟨g, 8, none⟩ = some (.int .i64 p.pause)) (h0 : (pTemps I.ft I.tm).rep o w p.temps [.slice A0 p.temps.length k0] F0) (h1 : (pEntrys I.en).rep o w p.entries [.slice A1 p.entries.length k1] F1) (h2 : (pBigrams I.bg).rep o w p.bigrams [.slice A2 p.bigrams.length k2] F2) (hp : SeSmall p) (r0 : (pTemps 224 215).rep true W p.temps [.slice B0 p.temps.length j0] G0) (f0 : G0.Nodup) (l0 : ∀ x ∈ G0, w.heap.size + 1 ≤ x) (r1 : (pEntrys 183).rep true W ([] : List PEntry) [.slice (some ⟨n1, 0, none⟩) 0 0] [n1]) (l1 : ∀ x ∈ [n1], w.heap.size + 1 ≤ x) (r2 : (pBigrams 186).rep true W ([] : List PBigram) [.slice (some ⟨n2, 0, none⟩) 0 0] [n2]) (l2 : ∀ x ∈ [n2], w.heap.size + 1 ≤ x) (d0_1 : ∀ x ∈ G0, x ∉ [n1]) (d0_2 : ∀ x ∈ G0, x ∉ [n2]) (d1_2 : ∀ x ∈ [n1], x ∉ [n2]) (fin : ∀ (W' : World) (B0 : Option Addr) (j0 : Nat) (G0 : List Nat) (B1 : Option Addr) (j1 : Nat) (G1 : List Nat) (n1 : Nat) (B2 : Option Addr) (j2 : Nat) (G2 : List Nat) (n2 : Nat) , Row W' w.heap.size 61 [.int .i64 p.band, .slice B0 p.temps.length j0, .int .i64 p.points, .int .i64 p.most, .int .i64 p.pen, .slice B1 p.entries.length j1, .int .i64 p.dflt, .slice B2 p.bigrams.length j2, .int .i64 p.pause] → ((pTemps 224 215).rep true W' p.temps [.slice B0 p.temps.length j0] G0) → (G0.Nodup) → (∀ x ∈ G0, w.heap.size + 1 ≤ x) → ((pEntrys 183).rep true W' p.entries [.slice B1 p.entries.length j1] G1) → (G1.Nodup) → (∀ x ∈ G1, w.heap.size + 1 ≤ x) → ((pBigrams 186).rep true W' p.bigrams [.slice B2 p.bigrams.length j2] G2) → (G2.Nodup) → (∀ x ∈ G2, w.heap.size + 1 ≤ x) → (∀ x ∈ G0, x ∉ G1) → (∀ x ∈ G0, x ∉ G2) → (∀ x ∈ G1, x ∉ G2) → Below w.heap.size w W' → Q .normal { tmps := #[.pointer (some ⟨g, 0, none⟩), x1, .pointer (some ⟨w.heap.size, 0, none⟩), x3, x4, .pointer (some ⟨g, 0, none⟩), .agg #[.int .i64 p.band, .slice B0 p.temps.length j0], x7, x8, x9, .agg #[.int .i64 p.points, .int .i64 p.most, .int .i64 p.pen], .slice (some ⟨n1, 0, none⟩) 0 0, x12, x13, x14, x15, .slice A1 p.entries.length k1, .slice B1 p.entries.length j1, .agg #[.slice B1 p.entries.length j1], x19, x20, x21, x22, .int .i64 p.dflt, .slice (some ⟨n2, 0, none⟩) 0 0, x25, x26, x27, x28, .slice A2 p.bigrams.length k2, .slice B2 p.bigrams.length j2, .agg #[.int .i64 p.dflt, .slice B2 p.bigrams.length j2], x32, x33, x34, .int .i64 p.pause, .agg #[.int .i64 p.band, .slice B0 p.temps.length j0, .int .i64 p.points, .int .i64 p.most, .int .i64 p.pen, .slice B1 p.entries.length j1, .int .i64 p.dflt, .slice B2 p.bigrams.length j2, .int .i64 p.pause]], defers := ds } W') (hQ : ∀ c a d v w, Q (.panic c) (Act.put a d v) w → Q (.panic c) a w) :
    wpAnyH Tryz.prog .any owsetup_ops Q (fun w' : World => w'.cell? ⟨g, 0, none⟩ = some (.int .i64 p.band) ∧ w'.cell? ⟨g, 1, none⟩ = some (.slice A0 p.temps.length k0) ∧ w'.cell? ⟨g, 2, none⟩ = some (.int .i64 p.points) ∧ w'.cell? ⟨g, 3, none⟩ = some (.int .i64 p.most) ∧ w'.cell? ⟨g, 4, none⟩ = some (.int .i64 p.pen) ∧ w'.cell? ⟨g, 5, none⟩ = some (.slice A1 p.entries.length k1) ∧ w'.cell? ⟨g, 6, none⟩ = some (.int .i64 p.dflt) ∧ w'.cell? ⟨g, 7, none⟩ = some (.slice A2 p.bigrams.length k2) ∧ w'.cell? ⟨g, 8, none⟩ = some (.int .i64 p.pause)) 6 #[true, true, true, true, true, true, true, true, true, true, true, true, true, true, false, false, true, true, true, true, true, true, true, true, true, true, true, false, false, true, true, true, true, false, false] { tmps := #[.pointer (some ⟨g, 0, none⟩), x1, .pointer (some ⟨w.heap.size, 0, none⟩), x3, x4, .pointer (some ⟨g, 0, none⟩), .agg #[.int .i64 p.band, .slice B0 p.temps.length j0], x7, x8, x9, .agg #[.int .i64 p.points, .int .i64 p.most, .int .i64 p.pen], .slice (some ⟨n1, 0, none⟩) 0 0, x12, x13, x14, x15, .slice A1 p.entries.length k1, x17, x18, x19, x20, x21, x22, .int .i64 p.dflt, .slice (some ⟨n2, 0, none⟩) 0 0, x25, x26, x27, x28, .slice A2 p.bigrams.length k2, x30, x31, x32, x33, x34, .int .i64 p.pause, x36], defers := ds } W := by
  have hS : (fun w' : World => w'.cell? ⟨g, 0, none⟩ = some (.int .i64 p.band) ∧ w'.cell? ⟨g, 1, none⟩ = some (.slice A0 p.temps.length k0) ∧ w'.cell? ⟨g, 2, none⟩ = some (.int .i64 p.points) ∧ w'.cell? ⟨g, 3, none⟩ = some (.int .i64 p.most) ∧ w'.cell? ⟨g, 4, none⟩ = some (.int .i64 p.pen) ∧ w'.cell? ⟨g, 5, none⟩ = some (.slice A1 p.entries.length k1) ∧ w'.cell? ⟨g, 6, none⟩ = some (.int .i64 p.dflt) ∧ w'.cell? ⟨g, 7, none⟩ = some (.slice A2 p.bigrams.length k2) ∧ w'.cell? ⟨g, 8, none⟩ = some (.int .i64 p.pause)) W := ⟨kb bb gw c0, kb bb gw c1, kb bb gw c2, kb bb gw c3, kb bb gw c4, kb bb gw c5, kb bb gw c6, kb bb gw c7, kb bb gw c8⟩
  dsimp only at hS
  refine wpAnyH_ready (rs := [14]) (by kernel_rfl) (by simp) ?_
  refine AllReadyH.cons (o := { dst := some 17, op := Go.Op.call { callee := Go.Callee.builtin Go.Builtin.append, args := #[Go.Operand.tmp 11, Go.Operand.tmp 16], argTypes := #[54, 54] }, type := 54, pos := "l26_sessions.go:13", after := #[{ on := 8, ground := Go.Ground.data }, { on := 13, ground := Go.Ground.data }, { on := 3, ground := Go.Ground.chain }], guard := none }) rfl (fun K hK => ?_) .nil
  · skip
    have u0 : ∀ x ∈ G0, x < W.heap.size := r0.blocks
    have u2 : ∀ x ∈ [n2], x < W.heap.size := r2.blocks
    have ol := O.lt
    have bz := bb.size
    obtain ⟨ec, Gs, hs1, hs2, hsb'⟩ := slice_src h1
    refine step_append_repX (T := pEntry) (e := 183) (xs := []) (ys := p.entries) (ec := ec) rfl (.tmp 11) (.tmp 16) (by rfl) Tryz.underlying54 Tryz.infoEntry rfl (by decide) (by rfl) r1 (by rfl) (pEntry_flat (o' := true) (repL_below' hs1 (fun x hx => h1.blocks x (hsb' x hx)) bb)) (CellsAt.below hs2 bb) (by simp) (by have := hp.e; simp [maxLen]; omega) (by have := hp.e; simp; omega) ?_
    intro v2 w2 G1 s2 o2 q2 x2
    rw [List.nil_append] at s2
    obtain ⟨B1, j1, rfl⟩ := slice_len s2
    have os := o2.size
    have fr := q2 (w.heap.size + 1) ⟨by simp, fun x hx => l1 x (by simpa using hx)⟩ (by omega)
    have x3 := x2.1
    have t0 : ∀ x ∈ G0, x ∉ [n1] := d0_1
    replace r0 := r0.only o2 t0
    have t2 : ∀ x ∈ [n2], x ∉ [n1] := fun x hx hy => d1_2 x hy hx
    replace r2 := r2.only o2 t2
    have no : w.heap.size ∉ [n1] := fun hx => by have := l1 _ hx; omega
    replace O := O.onl o2 no
    replace bb := bb.trans (o2.below bb.size (fun x hx => by have := l1 x hx; omega))
    have mb : ∀ x ∈ G1, x ∈ [n1] ∨ W.heap.size ≤ x := fun x hx => by have := x3 x hx; rwa [List.append_nil] at this
    replace d0_1 : ∀ x ∈ G0, x ∉ G1 := fun x hx hy => by
      rcases mb x hy with h | h
      · exact t0 x hx h
      · have := u0 x hx; omega
    replace d1_2 : ∀ x ∈ G1, x ∉ [n2] := fun x hx hy => by
      rcases mb x hx with h | h
      · exact t2 x hy h
      · have := u2 x hy; omega
    replace r1 := s2
    have f1 := fr.1
    replace l1 := fr.2
    refine hK.out _ _ ⟨kb bb gw c0, kb bb gw c1, kb bb gw c2, kb bb gw c3, kb bb gw c4, kb bb gw c5, kb bb gw c6, kb bb gw c7, kb bb gw c8⟩ (fun _ => ?_)
    clear hK K
    clear hS
    have hS : (fun w' : World => w'.cell? ⟨g, 0, none⟩ = some (.int .i64 p.band) ∧ w'.cell? ⟨g, 1, none⟩ = some (.slice A0 p.temps.length k0) ∧ w'.cell? ⟨g, 2, none⟩ = some (.int .i64 p.points) ∧ w'.cell? ⟨g, 3, none⟩ = some (.int .i64 p.most) ∧ w'.cell? ⟨g, 4, none⟩ = some (.int .i64 p.pen) ∧ w'.cell? ⟨g, 5, none⟩ = some (.slice A1 p.entries.length k1) ∧ w'.cell? ⟨g, 6, none⟩ = some (.int .i64 p.dflt) ∧ w'.cell? ⟨g, 7, none⟩ = some (.slice A2 p.bigrams.length k2) ∧ w'.cell? ⟨g, 8, none⟩ = some (.int .i64 p.pause)) _ := ⟨kb bb gw c0, kb bb gw c1, kb bb gw c2, kb bb gw c3, kb bb gw c4, kb bb gw c5, kb bb gw c6, kb bb gw c7, kb bb gw c8⟩
    dsimp only at hS
    refine tk44_1 (i := 15) (oi := zo44_1_15) (v := ?_) rfl (by kernel_rfl) (fun c a w h => hQ c a _ _ w h) (Or.inl ⟨rfl, ?_⟩) hS ?_
    rotate_left
    · (intro w' hS'; (try dsimp only at hS'); dsimp only [zo44_1_15]; go_simp; try with_reducible rfl)
    simp only [Act.put, pa44_1, pb44_1, pc44_1]
    exact owsetup_121 _ O bb gw c0 c1 c2 c3 c4 c5 c6 c7 c8 h0 h1 h2 hp r0 f0 l0 r1 f1 l1 r2 l2 d0_1 d0_2 d1_2 fin hQ
set_option maxRecDepth 100000 in
set_option maxHeartbeats 4000000 in
theorem owsetup_120 {I : Ids} {o : Bool} {p : PSetup} {A0 A1 A2 : Option Addr} {k0 k1 k2 : Nat} {F0 F1 F2 : List Nat} {g : Nat} {w : World} {Q : Exit → Act → World → Prop} {x1 x3 x4 x7 x8 x9 x12 x13 x14 x15 x19 x20 x21 x22 x24 x25 x26 x27 x28 x30 x31 x32 x33 x34 x36 : Value} {ds : _} {B0 : Option Addr} {j0 : Nat} {G0 : List Nat} {B1 : Option Addr} {j1 : Nat} {G1 : List Nat} {n1 : Nat} (W : World) (O : Row W w.heap.size 61 [.int .i64 0, .slice none 0 0, .int .i64 0, .int .i64 0, .int .i64 0, .slice none 0 0, .int .i64 0, .slice none 0 0, .int .i64 0]) (bb : Below w.heap.size w W) (gw : g < w.heap.size) (c0 : w.cell? ⟨g, 0, none⟩ = some (.int .i64 p.band)) (c1 : w.cell? ⟨g, 1, none⟩ = some (.slice A0 p.temps.length k0)) (c2 : w.cell? ⟨g, 2, none⟩ = some (.int .i64 p.points)) (c3 : w.cell? ⟨g, 3, none⟩ = some (.int .i64 p.most)) (c4 : w.cell? ⟨g, 4, none⟩ = some (.int .i64 p.pen)) (c5 : w.cell? ⟨g, 5, none⟩ = some (.slice A1 p.entries.length k1)) (c6 : w.cell? ⟨g, 6, none⟩ = some (.int .i64 p.dflt)) (c7 : w.cell? ⟨g, 7, none⟩ = some (.slice A2 p.bigrams.length k2)) (c8 : w.cell? ⟨g, 8, none⟩ = some (.int .i64 p.pause)) (h0 : (pTemps I.ft I.tm).rep o w p.temps [.slice A0 p.temps.length k0] F0) (h1 : (pEntrys I.en).rep o w p.entries [.slice A1 p.entries.length k1] F1) (h2 : (pBigrams I.bg).rep o w p.bigrams [.slice A2 p.bigrams.length k2] F2) (hp : SeSmall p) (r0 : (pTemps 224 215).rep true W p.temps [.slice B0 p.temps.length j0] G0) (f0 : G0.Nodup) (l0 : ∀ x ∈ G0, w.heap.size + 1 ≤ x) (r1 : (pEntrys 183).rep true W p.entries [.slice B1 p.entries.length j1] G1) (f1 : G1.Nodup) (l1 : ∀ x ∈ G1, w.heap.size + 1 ≤ x) (d0_1 : ∀ x ∈ G0, x ∉ G1) (fin : ∀ (W' : World) (B0 : Option Addr) (j0 : Nat) (G0 : List Nat) (B1 : Option Addr) (j1 : Nat) (G1 : List Nat) (n1 : Nat) (B2 : Option Addr) (j2 : Nat) (G2 : List Nat) (n2 : Nat) , Row W' w.heap.size 61 [.int .i64 p.band, .slice B0 p.temps.length j0, .int .i64 p.points, .int .i64 p.most, .int .i64 p.pen, .slice B1 p.entries.length j1, .int .i64 p.dflt, .slice B2 p.bigrams.length j2, .int .i64 p.pause] → ((pTemps 224 215).rep true W' p.temps [.slice B0 p.temps.length j0] G0) → (G0.Nodup) → (∀ x ∈ G0, w.heap.size + 1 ≤ x) → ((pEntrys 183).rep true W' p.entries [.slice B1 p.entries.length j1] G1) → (G1.Nodup) → (∀ x ∈ G1, w.heap.size + 1 ≤ x) → ((pBigrams 186).rep true W' p.bigrams [.slice B2 p.bigrams.length j2] G2) → (G2.Nodup) → (∀ x ∈ G2, w.heap.size + 1 ≤ x) → (∀ x ∈ G0, x ∉ G1) → (∀ x ∈ G0, x ∉ G2) → (∀ x ∈ G1, x ∉ G2) → Below w.heap.size w W' → Q .normal { tmps := #[.pointer (some ⟨g, 0, none⟩), x1, .pointer (some ⟨w.heap.size, 0, none⟩), x3, x4, .pointer (some ⟨g, 0, none⟩), .agg #[.int .i64 p.band, .slice B0 p.temps.length j0], x7, x8, x9, .agg #[.int .i64 p.points, .int .i64 p.most, .int .i64 p.pen], .slice (some ⟨n1, 0, none⟩) 0 0, x12, x13, x14, x15, .slice A1 p.entries.length k1, .slice B1 p.entries.length j1, .agg #[.slice B1 p.entries.length j1], x19, x20, x21, x22, .int .i64 p.dflt, .slice (some ⟨n2, 0, none⟩) 0 0, x25, x26, x27, x28, .slice A2 p.bigrams.length k2, .slice B2 p.bigrams.length j2, .agg #[.int .i64 p.dflt, .slice B2 p.bigrams.length j2], x32, x33, x34, .int .i64 p.pause, .agg #[.int .i64 p.band, .slice B0 p.temps.length j0, .int .i64 p.points, .int .i64 p.most, .int .i64 p.pen, .slice B1 p.entries.length j1, .int .i64 p.dflt, .slice B2 p.bigrams.length j2, .int .i64 p.pause]], defers := ds } W') (hQ : ∀ c a d v w, Q (.panic c) (Act.put a d v) w → Q (.panic c) a w) :
    wpAnyH Tryz.prog .any owsetup_ops Q (fun w' : World => w'.cell? ⟨g, 0, none⟩ = some (.int .i64 p.band) ∧ w'.cell? ⟨g, 1, none⟩ = some (.slice A0 p.temps.length k0) ∧ w'.cell? ⟨g, 2, none⟩ = some (.int .i64 p.points) ∧ w'.cell? ⟨g, 3, none⟩ = some (.int .i64 p.most) ∧ w'.cell? ⟨g, 4, none⟩ = some (.int .i64 p.pen) ∧ w'.cell? ⟨g, 5, none⟩ = some (.slice A1 p.entries.length k1) ∧ w'.cell? ⟨g, 6, none⟩ = some (.int .i64 p.dflt) ∧ w'.cell? ⟨g, 7, none⟩ = some (.slice A2 p.bigrams.length k2) ∧ w'.cell? ⟨g, 8, none⟩ = some (.int .i64 p.pause)) 5 #[true, true, true, true, true, true, true, true, true, true, true, true, true, true, true, true, true, true, true, true, true, false, true, true, true, true, true, false, false, true, true, true, true, false, false] { tmps := #[.pointer (some ⟨g, 0, none⟩), x1, .pointer (some ⟨w.heap.size, 0, none⟩), x3, x4, .pointer (some ⟨g, 0, none⟩), .agg #[.int .i64 p.band, .slice B0 p.temps.length j0], x7, x8, x9, .agg #[.int .i64 p.points, .int .i64 p.most, .int .i64 p.pen], .slice (some ⟨n1, 0, none⟩) 0 0, x12, x13, x14, x15, .slice A1 p.entries.length k1, .slice B1 p.entries.length j1, .agg #[.slice B1 p.entries.length j1], x19, x20, x21, x22, .int .i64 p.dflt, x24, x25, x26, x27, x28, .slice A2 p.bigrams.length k2, x30, x31, x32, x33, x34, .int .i64 p.pause, x36], defers := ds } W := by
  have hS : (fun w' : World => w'.cell? ⟨g, 0, none⟩ = some (.int .i64 p.band) ∧ w'.cell? ⟨g, 1, none⟩ = some (.slice A0 p.temps.length k0) ∧ w'.cell? ⟨g, 2, none⟩ = some (.int .i64 p.points) ∧ w'.cell? ⟨g, 3, none⟩ = some (.int .i64 p.most) ∧ w'.cell? ⟨g, 4, none⟩ = some (.int .i64 p.pen) ∧ w'.cell? ⟨g, 5, none⟩ = some (.slice A1 p.entries.length k1) ∧ w'.cell? ⟨g, 6, none⟩ = some (.int .i64 p.dflt) ∧ w'.cell? ⟨g, 7, none⟩ = some (.slice A2 p.bigrams.length k2) ∧ w'.cell? ⟨g, 8, none⟩ = some (.int .i64 p.pause)) W := ⟨kb bb gw c0, kb bb gw c1, kb bb gw c2, kb bb gw c3, kb bb gw c4, kb bb gw c5, kb bb gw c6, kb bb gw c7, kb bb gw c8⟩
  dsimp only at hS
  refine wpAnyH_ready (rs := [21]) (by kernel_rfl) (by simp) ?_
  refine AllReadyH.cons (o := { dst := some 24, op := Go.Op.buildSlice 57 0 #[], type := 57, pos := "l26_sessions.go:13", after := #[], guard := none }) rfl (fun K hK => ?_) .nil
  · skip
    have u0 : ∀ x ∈ G0, x < W.heap.size := r0.blocks
    have u1 : ∀ x ∈ G1, x < W.heap.size := r1.blocks
    have ol := O.lt
    have bz := bb.size
    go_simp
    have r2 := empty_is pBigram 186 W
    replace r0 := r0.alloc (.cells #[] 186)
    replace r1 := r1.alloc (.cells #[] 186)
    replace O := O.alloc (.cells #[] 186)
    replace bb := bb.alloc bb.size (.cells #[] 186)
    have l2 : ∀ x ∈ [W.heap.size], w.heap.size + 1 ≤ x := fun x hx => by simp at hx; omega
    have d0_2 : ∀ x ∈ G0, x ∉ [W.heap.size] := fun x hx hy => by have := u0 x hx; simp at hy; omega
    have d1_2 : ∀ x ∈ G1, x ∉ [W.heap.size] := fun x hx hy => by have := u1 x hx; simp at hy; omega
    refine hK.out _ _ ⟨kb bb gw c0, kb bb gw c1, kb bb gw c2, kb bb gw c3, kb bb gw c4, kb bb gw c5, kb bb gw c6, kb bb gw c7, kb bb gw c8⟩ (fun _ => ?_)
    clear hK K
    exact owsetup_121 _ O bb gw c0 c1 c2 c3 c4 c5 c6 c7 c8 h0 h1 h2 hp r0 f0 l0 r1 f1 l1 r2 l2 d0_1 d0_2 d1_2 fin hQ
set_option maxRecDepth 100000 in
set_option maxHeartbeats 4000000 in
theorem owsetup_011 {I : Ids} {o : Bool} {p : PSetup} {A0 A1 A2 : Option Addr} {k0 k1 k2 : Nat} {F0 F1 F2 : List Nat} {g : Nat} {w : World} {Q : Exit → Act → World → Prop} {x1 x3 x4 x6 x7 x8 x9 x12 x13 x14 x15 x17 x18 x19 x20 x21 x22 x25 x26 x27 x28 x30 x31 x32 x33 x34 x36 : Value} {ds : _} {n1 : Nat} {n2 : Nat} (W : World) (O : Row W w.heap.size 61 [.int .i64 0, .slice none 0 0, .int .i64 0, .int .i64 0, .int .i64 0, .slice none 0 0, .int .i64 0, .slice none 0 0, .int .i64 0]) (bb : Below w.heap.size w W) (gw : g < w.heap.size) (c0 : w.cell? ⟨g, 0, none⟩ = some (.int .i64 p.band)) (c1 : w.cell? ⟨g, 1, none⟩ = some (.slice A0 p.temps.length k0)) (c2 : w.cell? ⟨g, 2, none⟩ = some (.int .i64 p.points)) (c3 : w.cell? ⟨g, 3, none⟩ = some (.int .i64 p.most)) (c4 : w.cell? ⟨g, 4, none⟩ = some (.int .i64 p.pen)) (c5 : w.cell? ⟨g, 5, none⟩ = some (.slice A1 p.entries.length k1)) (c6 : w.cell? ⟨g, 6, none⟩ = some (.int .i64 p.dflt)) (c7 : w.cell? ⟨g, 7, none⟩ = some (.slice A2 p.bigrams.length k2)) (c8 : w.cell? ⟨g, 8, none⟩ = some (.int .i64 p.pause)) (h0 : (pTemps I.ft I.tm).rep o w p.temps [.slice A0 p.temps.length k0] F0) (h1 : (pEntrys I.en).rep o w p.entries [.slice A1 p.entries.length k1] F1) (h2 : (pBigrams I.bg).rep o w p.bigrams [.slice A2 p.bigrams.length k2] F2) (hp : SeSmall p) (r1 : (pEntrys 183).rep true W ([] : List PEntry) [.slice (some ⟨n1, 0, none⟩) 0 0] [n1]) (l1 : ∀ x ∈ [n1], w.heap.size + 1 ≤ x) (r2 : (pBigrams 186).rep true W ([] : List PBigram) [.slice (some ⟨n2, 0, none⟩) 0 0] [n2]) (l2 : ∀ x ∈ [n2], w.heap.size + 1 ≤ x) (d1_2 : ∀ x ∈ [n1], x ∉ [n2]) (fin : ∀ (W' : World) (B0 : Option Addr) (j0 : Nat) (G0 : List Nat) (B1 : Option Addr) (j1 : Nat) (G1 : List Nat) (n1 : Nat) (B2 : Option Addr) (j2 : Nat) (G2 : List Nat) (n2 : Nat) , Row W' w.heap.size 61 [.int .i64 p.band, .slice B0 p.temps.length j0, .int .i64 p.points, .int .i64 p.most, .int .i64 p.pen, .slice B1 p.entries.length j1, .int .i64 p.dflt, .slice B2 p.bigrams.length j2, .int .i64 p.pause] → ((pTemps 224 215).rep true W' p.temps [.slice B0 p.temps.length j0] G0) → (G0.Nodup) → (∀ x ∈ G0, w.heap.size + 1 ≤ x) → ((pEntrys 183).rep true W' p.entries [.slice B1 p.entries.length j1] G1) → (G1.Nodup) → (∀ x ∈ G1, w.heap.size + 1 ≤ x) → ((pBigrams 186).rep true W' p.bigrams [.slice B2 p.bigrams.length j2] G2) → (G2.Nodup) → (∀ x ∈ G2, w.heap.size + 1 ≤ x) → (∀ x ∈ G0, x ∉ G1) → (∀ x ∈ G0, x ∉ G2) → (∀ x ∈ G1, x ∉ G2) → Below w.heap.size w W' → Q .normal { tmps := #[.pointer (some ⟨g, 0, none⟩), x1, .pointer (some ⟨w.heap.size, 0, none⟩), x3, x4, .pointer (some ⟨g, 0, none⟩), .agg #[.int .i64 p.band, .slice B0 p.temps.length j0], x7, x8, x9, .agg #[.int .i64 p.points, .int .i64 p.most, .int .i64 p.pen], .slice (some ⟨n1, 0, none⟩) 0 0, x12, x13, x14, x15, .slice A1 p.entries.length k1, .slice B1 p.entries.length j1, .agg #[.slice B1 p.entries.length j1], x19, x20, x21, x22, .int .i64 p.dflt, .slice (some ⟨n2, 0, none⟩) 0 0, x25, x26, x27, x28, .slice A2 p.bigrams.length k2, .slice B2 p.bigrams.length j2, .agg #[.int .i64 p.dflt, .slice B2 p.bigrams.length j2], x32, x33, x34, .int .i64 p.pause, .agg #[.int .i64 p.band, .slice B0 p.temps.length j0, .int .i64 p.points, .int .i64 p.most, .int .i64 p.pen, .slice B1 p.entries.length j1, .int .i64 p.dflt, .slice B2 p.bigrams.length j2, .int .i64 p.pause]], defers := ds } W') (hQ : ∀ c a d v w, Q (.panic c) (Act.put a d v) w → Q (.panic c) a w) :
    wpAnyH Tryz.prog .any owsetup_ops Q (fun w' : World => w'.cell? ⟨g, 0, none⟩ = some (.int .i64 p.band) ∧ w'.cell? ⟨g, 1, none⟩ = some (.slice A0 p.temps.length k0) ∧ w'.cell? ⟨g, 2, none⟩ = some (.int .i64 p.points) ∧ w'.cell? ⟨g, 3, none⟩ = some (.int .i64 p.most) ∧ w'.cell? ⟨g, 4, none⟩ = some (.int .i64 p.pen) ∧ w'.cell? ⟨g, 5, none⟩ = some (.slice A1 p.entries.length k1) ∧ w'.cell? ⟨g, 6, none⟩ = some (.int .i64 p.dflt) ∧ w'.cell? ⟨g, 7, none⟩ = some (.slice A2 p.bigrams.length k2) ∧ w'.cell? ⟨g, 8, none⟩ = some (.int .i64 p.pause)) 7 #[true, true, true, false, true, true, true, true, true, true, true, true, true, true, false, false, true, true, true, true, true, true, true, true, true, true, true, false, false, true, true, true, true, false, false] { tmps := #[.pointer (some ⟨g, 0, none⟩), x1, .pointer (some ⟨w.heap.size, 0, none⟩), x3, x4, .pointer (some ⟨g, 0, none⟩), x6, x7, x8, x9, .agg #[.int .i64 p.points, .int .i64 p.most, .int .i64 p.pen], .slice (some ⟨n1, 0, none⟩) 0 0, x12, x13, x14, x15, .slice A1 p.entries.length k1, x17, x18, x19, x20, x21, x22, .int .i64 p.dflt, .slice (some ⟨n2, 0, none⟩) 0 0, x25, x26, x27, x28, .slice A2 p.bigrams.length k2, x30, x31, x32, x33, x34, .int .i64 p.pause, x36], defers := ds } W := by
  have hS : (fun w' : World => w'.cell? ⟨g, 0, none⟩ = some (.int .i64 p.band) ∧ w'.cell? ⟨g, 1, none⟩ = some (.slice A0 p.temps.length k0) ∧ w'.cell? ⟨g, 2, none⟩ = some (.int .i64 p.points) ∧ w'.cell? ⟨g, 3, none⟩ = some (.int .i64 p.most) ∧ w'.cell? ⟨g, 4, none⟩ = some (.int .i64 p.pen) ∧ w'.cell? ⟨g, 5, none⟩ = some (.slice A1 p.entries.length k1) ∧ w'.cell? ⟨g, 6, none⟩ = some (.int .i64 p.dflt) ∧ w'.cell? ⟨g, 7, none⟩ = some (.slice A2 p.bigrams.length k2) ∧ w'.cell? ⟨g, 8, none⟩ = some (.int .i64 p.pause)) W := ⟨kb bb gw c0, kb bb gw c1, kb bb gw c2, kb bb gw c3, kb bb gw c4, kb bb gw c5, kb bb gw c6, kb bb gw c7, kb bb gw c8⟩
  dsimp only at hS
  refine wpAnyH_ready (rs := [3]) (by kernel_rfl) (by simp) ?_
  refine AllReadyH.cons (o := { dst := some 6, op := Go.Op.call { callee := Go.Callee.value (Go.Operand.func 112), args := #[Go.Operand.tmp 5, Go.Operand.const (Go.Value.int Go.IntKind.i64 (-1))], argTypes := #[135, 2] }, type := 52, pos := "l26_sessions.go:13", after := #[{ on := 2, ground := Go.Ground.data }], guard := none }) rfl (fun K hK => ?_) .nil
  · skip
    have u1 : ∀ x ∈ [n1], x < W.heap.size := r1.blocks
    have u2 : ∀ x ∈ [n2], x < W.heap.size := r2.blocks
    have ol := O.lt
    have bz := bb.size
    refine step_call 112 #[Go.Operand.tmp 5, Go.Operand.const (Go.Value.int Go.IntKind.i64 (-1))] _ rfl rfl #[.pointer (some ⟨g, 0, none⟩), .int .i64 (-1)] Tryz.call112 (by go_simp) (spec_l11Own_c (n := p.band) (g := g) (f := 0) _ (kb bb gw c0) (kb bb gw c1) (h0.below bb) hp.t hp.f) ?_
    rintro e w1 ⟨u, G0, rfl, r0, g0, b⟩
    obtain ⟨B0, j0, rfl⟩ := slice_len r0
    refine ⟨_, rfl, ?_⟩
    have bs := b.size
    replace r1 := r1.below b
    replace r2 := r2.below b
    replace O := O.later b
    replace bb := bt bb b
    have f0 := g0.1
    have l0 : ∀ x ∈ G0, w.heap.size + 1 ≤ x := fun x hx => by have := g0.2 x hx; omega
    have d0_1 : ∀ x ∈ G0, x ∉ [n1] := fun x hx hy => by have := u1 x hy; have := g0.2 x hx; omega
    have d0_2 : ∀ x ∈ G0, x ∉ [n2] := fun x hx hy => by have := u2 x hy; have := g0.2 x hx; omega
    refine hK.out _ _ ⟨kb bb gw c0, kb bb gw c1, kb bb gw c2, kb bb gw c3, kb bb gw c4, kb bb gw c5, kb bb gw c6, kb bb gw c7, kb bb gw c8⟩ (fun _ => ?_)
    clear hK K
    exact owsetup_111 _ O bb gw c0 c1 c2 c3 c4 c5 c6 c7 c8 h0 h1 h2 hp r0 f0 l0 r1 l1 r2 l2 d0_1 d0_2 d1_2 fin hQ
set_option maxRecDepth 100000 in
set_option maxHeartbeats 4000000 in
theorem owsetup_101 {I : Ids} {o : Bool} {p : PSetup} {A0 A1 A2 : Option Addr} {k0 k1 k2 : Nat} {F0 F1 F2 : List Nat} {g : Nat} {w : World} {Q : Exit → Act → World → Prop} {x1 x3 x4 x7 x8 x9 x11 x12 x13 x14 x15 x17 x18 x19 x20 x21 x22 x25 x26 x27 x28 x30 x31 x32 x33 x34 x36 : Value} {ds : _} {B0 : Option Addr} {j0 : Nat} {G0 : List Nat} {n2 : Nat} (W : World) (O : Row W w.heap.size 61 [.int .i64 0, .slice none 0 0, .int .i64 0, .int .i64 0, .int .i64 0, .slice none 0 0, .int .i64 0, .slice none 0 0, .int .i64 0]) (bb : Below w.heap.size w W) (gw : g < w.heap.size) (c0 : w.cell? ⟨g, 0, none⟩ = some (.int .i64 p.band)) (c1 : w.cell? ⟨g, 1, none⟩ = some (.slice A0 p.temps.length k0)) (c2 : w.cell? ⟨g, 2, none⟩ = some (.int .i64 p.points)) (c3 : w.cell? ⟨g, 3, none⟩ = some (.int .i64 p.most)) (c4 : w.cell? ⟨g, 4, none⟩ = some (.int .i64 p.pen)) (c5 : w.cell? ⟨g, 5, none⟩ = some (.slice A1 p.entries.length k1)) (c6 : w.cell? ⟨g, 6, none⟩ = some (.int .i64 p.dflt)) (c7 : w.cell? ⟨g, 7, none⟩ = some (.slice A2 p.bigrams.length k2)) (c8 : w.cell? ⟨g, 8, none⟩ = some (.int .i64 p.pause)) (h0 : (pTemps I.ft I.tm).rep o w p.temps [.slice A0 p.temps.length k0] F0) (h1 : (pEntrys I.en).rep o w p.entries [.slice A1 p.entries.length k1] F1) (h2 : (pBigrams I.bg).rep o w p.bigrams [.slice A2 p.bigrams.length k2] F2) (hp : SeSmall p) (r0 : (pTemps 224 215).rep true W p.temps [.slice B0 p.temps.length j0] G0) (f0 : G0.Nodup) (l0 : ∀ x ∈ G0, w.heap.size + 1 ≤ x) (r2 : (pBigrams 186).rep true W ([] : List PBigram) [.slice (some ⟨n2, 0, none⟩) 0 0] [n2]) (l2 : ∀ x ∈ [n2], w.heap.size + 1 ≤ x) (d0_2 : ∀ x ∈ G0, x ∉ [n2]) (fin : ∀ (W' : World) (B0 : Option Addr) (j0 : Nat) (G0 : List Nat) (B1 : Option Addr) (j1 : Nat) (G1 : List Nat) (n1 : Nat) (B2 : Option Addr) (j2 : Nat) (G2 : List Nat) (n2 : Nat) , Row W' w.heap.size 61 [.int .i64 p.band, .slice B0 p.temps.length j0, .int .i64 p.points, .int .i64 p.most, .int .i64 p.pen, .slice B1 p.entries.length j1, .int .i64 p.dflt, .slice B2 p.bigrams.length j2, .int .i64 p.pause] → ((pTemps 224 215).rep true W' p.temps [.slice B0 p.temps.length j0] G0) → (G0.Nodup) → (∀ x ∈ G0, w.heap.size + 1 ≤ x) → ((pEntrys 183).rep true W' p.entries [.slice B1 p.entries.length j1] G1) → (G1.Nodup) → (∀ x ∈ G1, w.heap.size + 1 ≤ x) → ((pBigrams 186).rep true W' p.bigrams [.slice B2 p.bigrams.length j2] G2) → (G2.Nodup) → (∀ x ∈ G2, w.heap.size + 1 ≤ x) → (∀ x ∈ G0, x ∉ G1) → (∀ x ∈ G0, x ∉ G2) → (∀ x ∈ G1, x ∉ G2) → Below w.heap.size w W' → Q .normal { tmps := #[.pointer (some ⟨g, 0, none⟩), x1, .pointer (some ⟨w.heap.size, 0, none⟩), x3, x4, .pointer (some ⟨g, 0, none⟩), .agg #[.int .i64 p.band, .slice B0 p.temps.length j0], x7, x8, x9, .agg #[.int .i64 p.points, .int .i64 p.most, .int .i64 p.pen], .slice (some ⟨n1, 0, none⟩) 0 0, x12, x13, x14, x15, .slice A1 p.entries.length k1, .slice B1 p.entries.length j1, .agg #[.slice B1 p.entries.length j1], x19, x20, x21, x22, .int .i64 p.dflt, .slice (some ⟨n2, 0, none⟩) 0 0, x25, x26, x27, x28, .slice A2 p.bigrams.length k2, .slice B2 p.bigrams.length j2, .agg #[.int .i64 p.dflt, .slice B2 p.bigrams.length j2], x32, x33, x34, .int .i64 p.pause, .agg #[.int .i64 p.band, .slice B0 p.temps.length j0, .int .i64 p.points, .int .i64 p.most, .int .i64 p.pen, .slice B1 p.entries.length j1, .int .i64 p.dflt, .slice B2 p.bigrams.length j2, .int .i64 p.pause]], defers := ds } W') (hQ : ∀ c a d v w, Q (.panic c) (Act.put a d v) w → Q (.panic c) a w) :
    wpAnyH Tryz.prog .any owsetup_ops Q (fun w' : World => w'.cell? ⟨g, 0, none⟩ = some (.int .i64 p.band) ∧ w'.cell? ⟨g, 1, none⟩ = some (.slice A0 p.temps.length k0) ∧ w'.cell? ⟨g, 2, none⟩ = some (.int .i64 p.points) ∧ w'.cell? ⟨g, 3, none⟩ = some (.int .i64 p.most) ∧ w'.cell? ⟨g, 4, none⟩ = some (.int .i64 p.pen) ∧ w'.cell? ⟨g, 5, none⟩ = some (.slice A1 p.entries.length k1) ∧ w'.cell? ⟨g, 6, none⟩ = some (.int .i64 p.dflt) ∧ w'.cell? ⟨g, 7, none⟩ = some (.slice A2 p.bigrams.length k2) ∧ w'.cell? ⟨g, 8, none⟩ = some (.int .i64 p.pause)) 7 #[true, true, true, true, true, true, true, true, false, true, true, true, true, true, false, false, true, true, true, true, true, true, true, true, true, true, true, false, false, true, true, true, true, false, false] { tmps := #[.pointer (some ⟨g, 0, none⟩), x1, .pointer (some ⟨w.heap.size, 0, none⟩), x3, x4, .pointer (some ⟨g, 0, none⟩), .agg #[.int .i64 p.band, .slice B0 p.temps.length j0], x7, x8, x9, .agg #[.int .i64 p.points, .int .i64 p.most, .int .i64 p.pen], x11, x12, x13, x14, x15, .slice A1 p.entries.length k1, x17, x18, x19, x20, x21, x22, .int .i64 p.dflt, .slice (some ⟨n2, 0, none⟩) 0 0, x25, x26, x27, x28, .slice A2 p.bigrams.length k2, x30, x31, x32, x33, x34, .int .i64 p.pause, x36], defers := ds } W := by
  have hS : (fun w' : World => w'.cell? ⟨g, 0, none⟩ = some (.int .i64 p.band) ∧ w'.cell? ⟨g, 1, none⟩ = some (.slice A0 p.temps.length k0) ∧ w'.cell? ⟨g, 2, none⟩ = some (.int .i64 p.points) ∧ w'.cell? ⟨g, 3, none⟩ = some (.int .i64 p.most) ∧ w'.cell? ⟨g, 4, none⟩ = some (.int .i64 p.pen) ∧ w'.cell? ⟨g, 5, none⟩ = some (.slice A1 p.entries.length k1) ∧ w'.cell? ⟨g, 6, none⟩ = some (.int .i64 p.dflt) ∧ w'.cell? ⟨g, 7, none⟩ = some (.slice A2 p.bigrams.length k2) ∧ w'.cell? ⟨g, 8, none⟩ = some (.int .i64 p.pause)) W := ⟨kb bb gw c0, kb bb gw c1, kb bb gw c2, kb bb gw c3, kb bb gw c4, kb bb gw c5, kb bb gw c6, kb bb gw c7, kb bb gw c8⟩
  dsimp only at hS
  refine wpAnyH_ready (rs := [8]) (by kernel_rfl) (by simp) ?_
  refine AllReadyH.cons (o := { dst := some 11, op := Go.Op.buildSlice 54 0 #[], type := 54, pos := "l26_sessions.go:13", after := #[], guard := none }) rfl (fun K hK => ?_) .nil
  · skip
    have u0 : ∀ x ∈ G0, x < W.heap.size := r0.blocks
    have u2 : ∀ x ∈ [n2], x < W.heap.size := r2.blocks
    have ol := O.lt
    have bz := bb.size
    go_simp
    have r1 := empty_is pEntry 183 W
    replace r0 := r0.alloc (.cells #[] 183)
    replace r2 := r2.alloc (.cells #[] 183)
    replace O := O.alloc (.cells #[] 183)
    replace bb := bb.alloc bb.size (.cells #[] 183)
    have l1 : ∀ x ∈ [W.heap.size], w.heap.size + 1 ≤ x := fun x hx => by simp at hx; omega
    have d0_1 : ∀ x ∈ G0, x ∉ [W.heap.size] := fun x hx hy => by have := u0 x hx; simp at hy; omega
    have d1_2 : ∀ x ∈ [W.heap.size], x ∉ [n2] := fun x hx hy => by have := u2 x hy; simp at hx; omega
    refine hK.out _ _ ⟨kb bb gw c0, kb bb gw c1, kb bb gw c2, kb bb gw c3, kb bb gw c4, kb bb gw c5, kb bb gw c6, kb bb gw c7, kb bb gw c8⟩ (fun _ => ?_)
    clear hK K
    exact owsetup_111 _ O bb gw c0 c1 c2 c3 c4 c5 c6 c7 c8 h0 h1 h2 hp r0 f0 l0 r1 l1 r2 l2 d0_1 d0_2 d1_2 fin hQ
set_option maxRecDepth 100000 in
set_option maxHeartbeats 4000000 in
theorem owsetup_110 {I : Ids} {o : Bool} {p : PSetup} {A0 A1 A2 : Option Addr} {k0 k1 k2 : Nat} {F0 F1 F2 : List Nat} {g : Nat} {w : World} {Q : Exit → Act → World → Prop} {x1 x3 x4 x7 x8 x9 x12 x13 x14 x15 x17 x18 x19 x20 x21 x22 x24 x25 x26 x27 x28 x30 x31 x32 x33 x34 x36 : Value} {ds : _} {B0 : Option Addr} {j0 : Nat} {G0 : List Nat} {n1 : Nat} (W : World) (O : Row W w.heap.size 61 [.int .i64 0, .slice none 0 0, .int .i64 0, .int .i64 0, .int .i64 0, .slice none 0 0, .int .i64 0, .slice none 0 0, .int .i64 0]) (bb : Below w.heap.size w W) (gw : g < w.heap.size) (c0 : w.cell? ⟨g, 0, none⟩ = some (.int .i64 p.band)) (c1 : w.cell? ⟨g, 1, none⟩ = some (.slice A0 p.temps.length k0)) (c2 : w.cell? ⟨g, 2, none⟩ = some (.int .i64 p.points)) (c3 : w.cell? ⟨g, 3, none⟩ = some (.int .i64 p.most)) (c4 : w.cell? ⟨g, 4, none⟩ = some (.int .i64 p.pen)) (c5 : w.cell? ⟨g, 5, none⟩ = some (.slice A1 p.entries.length k1)) (c6 : w.cell? ⟨g, 6, none⟩ = some (.int .i64 p.dflt)) (c7 : w.cell? ⟨g, 7, none⟩ = some (.slice A2 p.bigrams.length k2)) (c8 : w.cell? ⟨g, 8, none⟩ = some (.int .i64 p.pause)) (h0 : (pTemps I.ft I.tm).rep o w p.temps [.slice A0 p.temps.length k0] F0) (h1 : (pEntrys I.en).rep o w p.entries [.slice A1 p.entries.length k1] F1) (h2 : (pBigrams I.bg).rep o w p.bigrams [.slice A2 p.bigrams.length k2] F2) (hp : SeSmall p) (r0 : (pTemps 224 215).rep true W p.temps [.slice B0 p.temps.length j0] G0) (f0 : G0.Nodup) (l0 : ∀ x ∈ G0, w.heap.size + 1 ≤ x) (r1 : (pEntrys 183).rep true W ([] : List PEntry) [.slice (some ⟨n1, 0, none⟩) 0 0] [n1]) (l1 : ∀ x ∈ [n1], w.heap.size + 1 ≤ x) (d0_1 : ∀ x ∈ G0, x ∉ [n1]) (fin : ∀ (W' : World) (B0 : Option Addr) (j0 : Nat) (G0 : List Nat) (B1 : Option Addr) (j1 : Nat) (G1 : List Nat) (n1 : Nat) (B2 : Option Addr) (j2 : Nat) (G2 : List Nat) (n2 : Nat) , Row W' w.heap.size 61 [.int .i64 p.band, .slice B0 p.temps.length j0, .int .i64 p.points, .int .i64 p.most, .int .i64 p.pen, .slice B1 p.entries.length j1, .int .i64 p.dflt, .slice B2 p.bigrams.length j2, .int .i64 p.pause] → ((pTemps 224 215).rep true W' p.temps [.slice B0 p.temps.length j0] G0) → (G0.Nodup) → (∀ x ∈ G0, w.heap.size + 1 ≤ x) → ((pEntrys 183).rep true W' p.entries [.slice B1 p.entries.length j1] G1) → (G1.Nodup) → (∀ x ∈ G1, w.heap.size + 1 ≤ x) → ((pBigrams 186).rep true W' p.bigrams [.slice B2 p.bigrams.length j2] G2) → (G2.Nodup) → (∀ x ∈ G2, w.heap.size + 1 ≤ x) → (∀ x ∈ G0, x ∉ G1) → (∀ x ∈ G0, x ∉ G2) → (∀ x ∈ G1, x ∉ G2) → Below w.heap.size w W' → Q .normal { tmps := #[.pointer (some ⟨g, 0, none⟩), x1, .pointer (some ⟨w.heap.size, 0, none⟩), x3, x4, .pointer (some ⟨g, 0, none⟩), .agg #[.int .i64 p.band, .slice B0 p.temps.length j0], x7, x8, x9, .agg #[.int .i64 p.points, .int .i64 p.most, .int .i64 p.pen], .slice (some ⟨n1, 0, none⟩) 0 0, x12, x13, x14, x15, .slice A1 p.entries.length k1, .slice B1 p.entries.length j1, .agg #[.slice B1 p.entries.length j1], x19, x20, x21, x22, .int .i64 p.dflt, .slice (some ⟨n2, 0, none⟩) 0 0, x25, x26, x27, x28, .slice A2 p.bigrams.length k2, .slice B2 p.bigrams.length j2, .agg #[.int .i64 p.dflt, .slice B2 p.bigrams.length j2], x32, x33, x34, .int .i64 p.pause, .agg #[.int .i64 p.band, .slice B0 p.temps.length j0, .int .i64 p.points, .int .i64 p.most, .int .i64 p.pen, .slice B1 p.entries.length j1, .int .i64 p.dflt, .slice B2 p.bigrams.length j2, .int .i64 p.pause]], defers := ds } W') (hQ : ∀ c a d v w, Q (.panic c) (Act.put a d v) w → Q (.panic c) a w) :
    wpAnyH Tryz.prog .any owsetup_ops Q (fun w' : World => w'.cell? ⟨g, 0, none⟩ = some (.int .i64 p.band) ∧ w'.cell? ⟨g, 1, none⟩ = some (.slice A0 p.temps.length k0) ∧ w'.cell? ⟨g, 2, none⟩ = some (.int .i64 p.points) ∧ w'.cell? ⟨g, 3, none⟩ = some (.int .i64 p.most) ∧ w'.cell? ⟨g, 4, none⟩ = some (.int .i64 p.pen) ∧ w'.cell? ⟨g, 5, none⟩ = some (.slice A1 p.entries.length k1) ∧ w'.cell? ⟨g, 6, none⟩ = some (.int .i64 p.dflt) ∧ w'.cell? ⟨g, 7, none⟩ = some (.slice A2 p.bigrams.length k2) ∧ w'.cell? ⟨g, 8, none⟩ = some (.int .i64 p.pause)) 7 #[true, true, true, true, true, true, true, true, true, true, true, true, true, true, false, false, true, true, true, true, true, false, true, true, true, true, true, false, false, true, true, true, true, false, false] { tmps := #[.pointer (some ⟨g, 0, none⟩), x1, .pointer (some ⟨w.heap.size, 0, none⟩), x3, x4, .pointer (some ⟨g, 0, none⟩), .agg #[.int .i64 p.band, .slice B0 p.temps.length j0], x7, x8, x9, .agg #[.int .i64 p.points, .int .i64 p.most, .int .i64 p.pen], .slice (some ⟨n1, 0, none⟩) 0 0, x12, x13, x14, x15, .slice A1 p.entries.length k1, x17, x18, x19, x20, x21, x22, .int .i64 p.dflt, x24, x25, x26, x27, x28, .slice A2 p.bigrams.length k2, x30, x31, x32, x33, x34, .int .i64 p.pause, x36], defers := ds } W := by
  have hS : (fun w' : World => w'.cell? ⟨g, 0, none⟩ = some (.int .i64 p.band) ∧ w'.cell? ⟨g, 1, none⟩ = some (.slice A0 p.temps.length k0) ∧ w'.cell? ⟨g, 2, none⟩ = some (.int .i64 p.points) ∧ w'.cell? ⟨g, 3, none⟩ = some (.int .i64 p.most) ∧ w'.cell? ⟨g, 4, none⟩ = some (.int .i64 p.pen) ∧ w'.cell? ⟨g, 5, none⟩ = some (.slice A1 p.entries.length k1) ∧ w'.cell? ⟨g, 6, none⟩ = some (.int .i64 p.dflt) ∧ w'.cell? ⟨g, 7, none⟩ = some (.slice A2 p.bigrams.length k2) ∧ w'.cell? ⟨g, 8, none⟩ = some (.int .i64 p.pause)) W := ⟨kb bb gw c0, kb bb gw c1, kb bb gw c2, kb bb gw c3, kb bb gw c4, kb bb gw c5, kb bb gw c6, kb bb gw c7, kb bb gw c8⟩
  dsimp only at hS
  refine wpAnyH_ready (rs := [14, 21]) (by kernel_rfl) (by simp) ?_
  refine AllReadyH.cons (o := { dst := some 17, op := Go.Op.call { callee := Go.Callee.builtin Go.Builtin.append, args := #[Go.Operand.tmp 11, Go.Operand.tmp 16], argTypes := #[54, 54] }, type := 54, pos := "l26_sessions.go:13", after := #[{ on := 8, ground := Go.Ground.data }, { on := 13, ground := Go.Ground.data }, { on := 3, ground := Go.Ground.chain }], guard := none }) rfl (fun K hK => ?_) (AllReadyH.cons (o := { dst := some 24, op := Go.Op.buildSlice 57 0 #[], type := 57, pos := "l26_sessions.go:13", after := #[], guard := none }) rfl (fun K hK => ?_) .nil)
  · skip
    have u0 : ∀ x ∈ G0, x < W.heap.size := r0.blocks
    have ol := O.lt
    have bz := bb.size
    obtain ⟨ec, Gs, hs1, hs2, hsb'⟩ := slice_src h1
    refine step_append_repX (T := pEntry) (e := 183) (xs := []) (ys := p.entries) (ec := ec) rfl (.tmp 11) (.tmp 16) (by rfl) Tryz.underlying54 Tryz.infoEntry rfl (by decide) (by rfl) r1 (by rfl) (pEntry_flat (o' := true) (repL_below' hs1 (fun x hx => h1.blocks x (hsb' x hx)) bb)) (CellsAt.below hs2 bb) (by simp) (by have := hp.e; simp [maxLen]; omega) (by have := hp.e; simp; omega) ?_
    intro v2 w2 G1 s2 o2 q2 x2
    rw [List.nil_append] at s2
    obtain ⟨B1, j1, rfl⟩ := slice_len s2
    have os := o2.size
    have fr := q2 (w.heap.size + 1) ⟨by simp, fun x hx => l1 x (by simpa using hx)⟩ (by omega)
    have x3 := x2.1
    have t0 : ∀ x ∈ G0, x ∉ [n1] := d0_1
    replace r0 := r0.only o2 t0
    have no : w.heap.size ∉ [n1] := fun hx => by have := l1 _ hx; omega
    replace O := O.onl o2 no
    replace bb := bb.trans (o2.below bb.size (fun x hx => by have := l1 x hx; omega))
    have mb : ∀ x ∈ G1, x ∈ [n1] ∨ W.heap.size ≤ x := fun x hx => by have := x3 x hx; rwa [List.append_nil] at this
    replace d0_1 : ∀ x ∈ G0, x ∉ G1 := fun x hx hy => by
      rcases mb x hy with h | h
      · exact t0 x hx h
      · have := u0 x hx; omega
    replace r1 := s2
    have f1 := fr.1
    replace l1 := fr.2
    refine hK.out _ _ ⟨kb bb gw c0, kb bb gw c1, kb bb gw c2, kb bb gw c3, kb bb gw c4, kb bb gw c5, kb bb gw c6, kb bb gw c7, kb bb gw c8⟩ (fun _ => ?_)
    clear hK K
    clear hS
    have hS : (fun w' : World => w'.cell? ⟨g, 0, none⟩ = some (.int .i64 p.band) ∧ w'.cell? ⟨g, 1, none⟩ = some (.slice A0 p.temps.length k0) ∧ w'.cell? ⟨g, 2, none⟩ = some (.int .i64 p.points) ∧ w'.cell? ⟨g, 3, none⟩ = some (.int .i64 p.most) ∧ w'.cell? ⟨g, 4, none⟩ = some (.int .i64 p.pen) ∧ w'.cell? ⟨g, 5, none⟩ = some (.slice A1 p.entries.length k1) ∧ w'.cell? ⟨g, 6, none⟩ = some (.int .i64 p.dflt) ∧ w'.cell? ⟨g, 7, none⟩ = some (.slice A2 p.bigrams.length k2) ∧ w'.cell? ⟨g, 8, none⟩ = some (.int .i64 p.pause)) _ := ⟨kb bb gw c0, kb bb gw c1, kb bb gw c2, kb bb gw c3, kb bb gw c4, kb bb gw c5, kb bb gw c6, kb bb gw c7, kb bb gw c8⟩
    dsimp only at hS
    refine tk44_1 (i := 15) (oi := zo44_1_15) (v := ?_) rfl (by kernel_rfl) (fun c a w h => hQ c a _ _ w h) (Or.inl ⟨rfl, ?_⟩) hS ?_
    rotate_left
    · (intro w' hS'; (try dsimp only at hS'); dsimp only [zo44_1_15]; go_simp; try with_reducible rfl)
    simp only [Act.put, pa44_1, pb44_1, pc44_1]
    exact owsetup_120 _ O bb gw c0 c1 c2 c3 c4 c5 c6 c7 c8 h0 h1 h2 hp r0 f0 l0 r1 f1 l1 d0_1 fin hQ
  · skip
    have u0 : ∀ x ∈ G0, x < W.heap.size := r0.blocks
    have u1 : ∀ x ∈ [n1], x < W.heap.size := r1.blocks
    have ol := O.lt
    have bz := bb.size
    go_simp
    have r2 := empty_is pBigram 186 W
    replace r0 := r0.alloc (.cells #[] 186)
    replace r1 := r1.alloc (.cells #[] 186)
    replace O := O.alloc (.cells #[] 186)
    replace bb := bb.alloc bb.size (.cells #[] 186)
    have l2 : ∀ x ∈ [W.heap.size], w.heap.size + 1 ≤ x := fun x hx => by simp at hx; omega
    have d0_2 : ∀ x ∈ G0, x ∉ [W.heap.size] := fun x hx hy => by have := u0 x hx; simp at hy; omega
    have d1_2 : ∀ x ∈ [n1], x ∉ [W.heap.size] := fun x hx hy => by have := u1 x hx; simp at hy; omega
    refine hK.out _ _ ⟨kb bb gw c0, kb bb gw c1, kb bb gw c2, kb bb gw c3, kb bb gw c4, kb bb gw c5, kb bb gw c6, kb bb gw c7, kb bb gw c8⟩ (fun _ => ?_)
    clear hK K
    exact owsetup_111 _ O bb gw c0 c1 c2 c3 c4 c5 c6 c7 c8 h0 h1 h2 hp r0 f0 l0 r1 l1 r2 l2 d0_1 d0_2 d1_2 fin hQ
set_option maxRecDepth 100000 in
set_option maxHeartbeats 4000000 in
theorem owsetup_001 {I : Ids} {o : Bool} {p : PSetup} {A0 A1 A2 : Option Addr} {k0 k1 k2 : Nat} {F0 F1 F2 : List Nat} {g : Nat} {w : World} {Q : Exit → Act → World → Prop} {x1 x3 x4 x6 x7 x8 x9 x11 x12 x13 x14 x15 x17 x18 x19 x20 x21 x22 x25 x26 x27 x28 x30 x31 x32 x33 x34 x36 : Value} {ds : _} {n2 : Nat} (W : World) (O : Row W w.heap.size 61 [.int .i64 0, .slice none 0 0, .int .i64 0, .int .i64 0, .int .i64 0, .slice none 0 0, .int .i64 0, .slice none 0 0, .int .i64 0]) (bb : Below w.heap.size w W) (gw : g < w.heap.size) (c0 : w.cell? ⟨g, 0, none⟩ = some (.int .i64 p.band)) (c1 : w.cell? ⟨g, 1, none⟩ = some (.slice A0 p.temps.length k0)) (c2 : w.cell? ⟨g, 2, none⟩ = some (.int .i64 p.points)) (c3 : w.cell? ⟨g, 3, none⟩ = some (.int .i64 p.most)) (c4 : w.cell? ⟨g, 4, none⟩ = some (.int .i64 p.pen)) (c5 : w.cell? ⟨g, 5, none⟩ = some (.slice A1 p.entries.length k1)) (c6 : w.cell? ⟨g, 6, none⟩ = some (.int .i64 p.dflt)) (c7 : w.cell? ⟨g, 7, none⟩ = some (.slice A2 p.bigrams.length k2)) (c8 : w.cell? ⟨g, 8, none⟩ = some (.int .i64 p.pause)) (h0 : (pTemps I.ft I.tm).rep o w p.temps [.slice A0 p.temps.length k0] F0) (h1 : (pEntrys I.en).rep o w p.entries [.slice A1 p.entries.length k1] F1) (h2 : (pBigrams I.bg).rep o w p.bigrams [.slice A2 p.bigrams.length k2] F2) (hp : SeSmall p) (r2 : (pBigrams 186).rep true W ([] : List PBigram) [.slice (some ⟨n2, 0, none⟩) 0 0] [n2]) (l2 : ∀ x ∈ [n2], w.heap.size + 1 ≤ x) (fin : ∀ (W' : World) (B0 : Option Addr) (j0 : Nat) (G0 : List Nat) (B1 : Option Addr) (j1 : Nat) (G1 : List Nat) (n1 : Nat) (B2 : Option Addr) (j2 : Nat) (G2 : List Nat) (n2 : Nat) , Row W' w.heap.size 61 [.int .i64 p.band, .slice B0 p.temps.length j0, .int .i64 p.points, .int .i64 p.most, .int .i64 p.pen, .slice B1 p.entries.length j1, .int .i64 p.dflt, .slice B2 p.bigrams.length j2, .int .i64 p.pause] → ((pTemps 224 215).rep true W' p.temps [.slice B0 p.temps.length j0] G0) → (G0.Nodup) → (∀ x ∈ G0, w.heap.size + 1 ≤ x) → ((pEntrys 183).rep true W' p.entries [.slice B1 p.entries.length j1] G1) → (G1.Nodup) → (∀ x ∈ G1, w.heap.size + 1 ≤ x) → ((pBigrams 186).rep true W' p.bigrams [.slice B2 p.bigrams.length j2] G2) → (G2.Nodup) → (∀ x ∈ G2, w.heap.size + 1 ≤ x) → (∀ x ∈ G0, x ∉ G1) → (∀ x ∈ G0, x ∉ G2) → (∀ x ∈ G1, x ∉ G2) → Below w.heap.size w W' → Q .normal { tmps := #[.pointer (some ⟨g, 0, none⟩), x1, .pointer (some ⟨w.heap.size, 0, none⟩), x3, x4, .pointer (some ⟨g, 0, none⟩), .agg #[.int .i64 p.band, .slice B0 p.temps.length j0], x7, x8, x9, .agg #[.int .i64 p.points, .int .i64 p.most, .int .i64 p.pen], .slice (some ⟨n1, 0, none⟩) 0 0, x12, x13, x14, x15, .slice A1 p.entries.length k1, .slice B1 p.entries.length j1, .agg #[.slice B1 p.entries.length j1], x19, x20, x21, x22, .int .i64 p.dflt, .slice (some ⟨n2, 0, none⟩) 0 0, x25, x26, x27, x28, .slice A2 p.bigrams.length k2, .slice B2 p.bigrams.length j2, .agg #[.int .i64 p.dflt, .slice B2 p.bigrams.length j2], x32, x33, x34, .int .i64 p.pause, .agg #[.int .i64 p.band, .slice B0 p.temps.length j0, .int .i64 p.points, .int .i64 p.most, .int .i64 p.pen, .slice B1 p.entries.length j1, .int .i64 p.dflt, .slice B2 p.bigrams.length j2, .int .i64 p.pause]], defers := ds } W') (hQ : ∀ c a d v w, Q (.panic c) (Act.put a d v) w → Q (.panic c) a w) :
    wpAnyH Tryz.prog .any owsetup_ops Q (fun w' : World => w'.cell? ⟨g, 0, none⟩ = some (.int .i64 p.band) ∧ w'.cell? ⟨g, 1, none⟩ = some (.slice A0 p.temps.length k0) ∧ w'.cell? ⟨g, 2, none⟩ = some (.int .i64 p.points) ∧ w'.cell? ⟨g, 3, none⟩ = some (.int .i64 p.most) ∧ w'.cell? ⟨g, 4, none⟩ = some (.int .i64 p.pen) ∧ w'.cell? ⟨g, 5, none⟩ = some (.slice A1 p.entries.length k1) ∧ w'.cell? ⟨g, 6, none⟩ = some (.int .i64 p.dflt) ∧ w'.cell? ⟨g, 7, none⟩ = some (.slice A2 p.bigrams.length k2) ∧ w'.cell? ⟨g, 8, none⟩ = some (.int .i64 p.pause)) 8 #[true, true, true, false, true, true, true, true, false, true, true, true, true, true, false, false, true, true, true, true, true, true, true, true, true, true, true, false, false, true, true, true, true, false, false] { tmps := #[.pointer (some ⟨g, 0, none⟩), x1, .pointer (some ⟨w.heap.size, 0, none⟩), x3, x4, .pointer (some ⟨g, 0, none⟩), x6, x7, x8, x9, .agg #[.int .i64 p.points, .int .i64 p.most, .int .i64 p.pen], x11, x12, x13, x14, x15, .slice A1 p.entries.length k1, x17, x18, x19, x20, x21, x22, .int .i64 p.dflt, .slice (some ⟨n2, 0, none⟩) 0 0, x25, x26, x27, x28, .slice A2 p.bigrams.length k2, x30, x31, x32, x33, x34, .int .i64 p.pause, x36], defers := ds } W := by
  have hS : (fun w' : World => w'.cell? ⟨g, 0, none⟩ = some (.int .i64 p.band) ∧ w'.cell? ⟨g, 1, none⟩ = some (.slice A0 p.temps.length k0) ∧ w'.cell? ⟨g, 2, none⟩ = some (.int .i64 p.points) ∧ w'.cell? ⟨g, 3, none⟩ = some (.int .i64 p.most) ∧ w'.cell? ⟨g, 4, none⟩ = some (.int .i64 p.pen) ∧ w'.cell? ⟨g, 5, none⟩ = some (.slice A1 p.entries.length k1) ∧ w'.cell? ⟨g, 6, none⟩ = some (.int .i64 p.dflt) ∧ w'.cell? ⟨g, 7, none⟩ = some (.slice A2 p.bigrams.length k2) ∧ w'.cell? ⟨g, 8, none⟩ = some (.int .i64 p.pause)) W := ⟨kb bb gw c0, kb bb gw c1, kb bb gw c2, kb bb gw c3, kb bb gw c4, kb bb gw c5, kb bb gw c6, kb bb gw c7, kb bb gw c8⟩
  dsimp only at hS
  refine wpAnyH_ready (rs := [3, 8]) (by kernel_rfl) (by simp) ?_
  refine AllReadyH.cons (o := { dst := some 6, op := Go.Op.call { callee := Go.Callee.value (Go.Operand.func 112), args := #[Go.Operand.tmp 5, Go.Operand.const (Go.Value.int Go.IntKind.i64 (-1))], argTypes := #[135, 2] }, type := 52, pos := "l26_sessions.go:13", after := #[{ on := 2, ground := Go.Ground.data }], guard := none }) rfl (fun K hK => ?_) (AllReadyH.cons (o := { dst := some 11, op := Go.Op.buildSlice 54 0 #[], type := 54, pos := "l26_sessions.go:13", after := #[], guard := none }) rfl (fun K hK => ?_) .nil)
  · skip
    have u2 : ∀ x ∈ [n2], x < W.heap.size := r2.blocks
    have ol := O.lt
    have bz := bb.size
    refine step_call 112 #[Go.Operand.tmp 5, Go.Operand.const (Go.Value.int Go.IntKind.i64 (-1))] _ rfl rfl #[.pointer (some ⟨g, 0, none⟩), .int .i64 (-1)] Tryz.call112 (by go_simp) (spec_l11Own_c (n := p.band) (g := g) (f := 0) _ (kb bb gw c0) (kb bb gw c1) (h0.below bb) hp.t hp.f) ?_
    rintro e w1 ⟨u, G0, rfl, r0, g0, b⟩
    obtain ⟨B0, j0, rfl⟩ := slice_len r0
    refine ⟨_, rfl, ?_⟩
    have bs := b.size
    replace r2 := r2.below b
    replace O := O.later b
    replace bb := bt bb b
    have f0 := g0.1
    have l0 : ∀ x ∈ G0, w.heap.size + 1 ≤ x := fun x hx => by have := g0.2 x hx; omega
    have d0_2 : ∀ x ∈ G0, x ∉ [n2] := fun x hx hy => by have := u2 x hy; have := g0.2 x hx; omega
    refine hK.out _ _ ⟨kb bb gw c0, kb bb gw c1, kb bb gw c2, kb bb gw c3, kb bb gw c4, kb bb gw c5, kb bb gw c6, kb bb gw c7, kb bb gw c8⟩ (fun _ => ?_)
    clear hK K
    exact owsetup_101 _ O bb gw c0 c1 c2 c3 c4 c5 c6 c7 c8 h0 h1 h2 hp r0 f0 l0 r2 l2 d0_2 fin hQ
  · skip
    have u2 : ∀ x ∈ [n2], x < W.heap.size := r2.blocks
    have ol := O.lt
    have bz := bb.size
    go_simp
    have r1 := empty_is pEntry 183 W
    replace r2 := r2.alloc (.cells #[] 183)
    replace O := O.alloc (.cells #[] 183)
    replace bb := bb.alloc bb.size (.cells #[] 183)
    have l1 : ∀ x ∈ [W.heap.size], w.heap.size + 1 ≤ x := fun x hx => by simp at hx; omega
    have d1_2 : ∀ x ∈ [W.heap.size], x ∉ [n2] := fun x hx hy => by have := u2 x hy; simp at hx; omega
    refine hK.out _ _ ⟨kb bb gw c0, kb bb gw c1, kb bb gw c2, kb bb gw c3, kb bb gw c4, kb bb gw c5, kb bb gw c6, kb bb gw c7, kb bb gw c8⟩ (fun _ => ?_)
    clear hK K
    exact owsetup_011 _ O bb gw c0 c1 c2 c3 c4 c5 c6 c7 c8 h0 h1 h2 hp r1 l1 r2 l2 d1_2 fin hQ
set_option maxRecDepth 100000 in
set_option maxHeartbeats 4000000 in
theorem owsetup_010 {I : Ids} {o : Bool} {p : PSetup} {A0 A1 A2 : Option Addr} {k0 k1 k2 : Nat} {F0 F1 F2 : List Nat} {g : Nat} {w : World} {Q : Exit → Act → World → Prop} {x1 x3 x4 x6 x7 x8 x9 x12 x13 x14 x15 x17 x18 x19 x20 x21 x22 x24 x25 x26 x27 x28 x30 x31 x32 x33 x34 x36 : Value} {ds : _} {n1 : Nat} (W : World) (O : Row W w.heap.size 61 [.int .i64 0, .slice none 0 0, .int .i64 0, .int .i64 0, .int .i64 0, .slice none 0 0, .int .i64 0, .slice none 0 0, .int .i64 0]) (bb : Below w.heap.size w W) (gw : g < w.heap.size) (c0 : w.cell? ⟨g, 0, none⟩ = some (.int .i64 p.band)) (c1 : w.cell? ⟨g, 1, none⟩ = some (.slice A0 p.temps.length k0)) (c2 : w.cell? ⟨g, 2, none⟩ = some (.int .i64 p.points)) (c3 : w.cell? ⟨g, 3, none⟩ = some (.int .i64 p.most)) (c4 : w.cell? ⟨g, 4, none⟩ = some (.int .i64 p.pen)) (c5 : w.cell? ⟨g, 5, none⟩ = some (.slice A1 p.entries.length k1)) (c6 : w.cell? ⟨g, 6, none⟩ = some (.int .i64 p.dflt)) (c7 : w.cell? ⟨g, 7, none⟩ = some (.slice A2 p.bigrams.length k2)) (c8 : w.cell? ⟨g, 8, none⟩ = some (.int .i64 p.pause)) (h0 : (pTemps I.ft I.tm).rep o w p.temps [.slice A0 p.temps.length k0] F0) (h1 : (pEntrys I.en).rep o w p.entries [.slice A1 p.entries.length k1] F1) (h2 : (pBigrams I.bg).rep o w p.bigrams [.slice A2 p.bigrams.length k2] F2) (hp : SeSmall p) (r1 : (pEntrys 183).rep true W ([] : List PEntry) [.slice (some ⟨n1, 0, none⟩) 0 0] [n1]) (l1 : ∀ x ∈ [n1], w.heap.size + 1 ≤ x) (fin : ∀ (W' : World) (B0 : Option Addr) (j0 : Nat) (G0 : List Nat) (B1 : Option Addr) (j1 : Nat) (G1 : List Nat) (n1 : Nat) (B2 : Option Addr) (j2 : Nat) (G2 : List Nat) (n2 : Nat) , Row W' w.heap.size 61 [.int .i64 p.band, .slice B0 p.temps.length j0, .int .i64 p.points, .int .i64 p.most, .int .i64 p.pen, .slice B1 p.entries.length j1, .int .i64 p.dflt, .slice B2 p.bigrams.length j2, .int .i64 p.pause] → ((pTemps 224 215).rep true W' p.temps [.slice B0 p.temps.length j0] G0) → (G0.Nodup) → (∀ x ∈ G0, w.heap.size + 1 ≤ x) → ((pEntrys 183).rep true W' p.entries [.slice B1 p.entries.length j1] G1) → (G1.Nodup) → (∀ x ∈ G1, w.heap.size + 1 ≤ x) → ((pBigrams 186).rep true W' p.bigrams [.slice B2 p.bigrams.length j2] G2) → (G2.Nodup) → (∀ x ∈ G2, w.heap.size + 1 ≤ x) → (∀ x ∈ G0, x ∉ G1) → (∀ x ∈ G0, x ∉ G2) → (∀ x ∈ G1, x ∉ G2) → Below w.heap.size w W' → Q .normal { tmps := #[.pointer (some ⟨g, 0, none⟩), x1, .pointer (some ⟨w.heap.size, 0, none⟩), x3, x4, .pointer (some ⟨g, 0, none⟩), .agg #[.int .i64 p.band, .slice B0 p.temps.length j0], x7, x8, x9, .agg #[.int .i64 p.points, .int .i64 p.most, .int .i64 p.pen], .slice (some ⟨n1, 0, none⟩) 0 0, x12, x13, x14, x15, .slice A1 p.entries.length k1, .slice B1 p.entries.length j1, .agg #[.slice B1 p.entries.length j1], x19, x20, x21, x22, .int .i64 p.dflt, .slice (some ⟨n2, 0, none⟩) 0 0, x25, x26, x27, x28, .slice A2 p.bigrams.length k2, .slice B2 p.bigrams.length j2, .agg #[.int .i64 p.dflt, .slice B2 p.bigrams.length j2], x32, x33, x34, .int .i64 p.pause, .agg #[.int .i64 p.band, .slice B0 p.temps.length j0, .int .i64 p.points, .int .i64 p.most, .int .i64 p.pen, .slice B1 p.entries.length j1, .int .i64 p.dflt, .slice B2 p.bigrams.length j2, .int .i64 p.pause]], defers := ds } W') (hQ : ∀ c a d v w, Q (.panic c) (Act.put a d v) w → Q (.panic c) a w) :
    wpAnyH Tryz.prog .any owsetup_ops Q (fun w' : World => w'.cell? ⟨g, 0, none⟩ = some (.int .i64 p.band) ∧ w'.cell? ⟨g, 1, none⟩ = some (.slice A0 p.temps.length k0) ∧ w'.cell? ⟨g, 2, none⟩ = some (.int .i64 p.points) ∧ w'.cell? ⟨g, 3, none⟩ = some (.int .i64 p.most) ∧ w'.cell? ⟨g, 4, none⟩ = some (.int .i64 p.pen) ∧ w'.cell? ⟨g, 5, none⟩ = some (.slice A1 p.entries.length k1) ∧ w'.cell? ⟨g, 6, none⟩ = some (.int .i64 p.dflt) ∧ w'.cell? ⟨g, 7, none⟩ = some (.slice A2 p.bigrams.length k2) ∧ w'.cell? ⟨g, 8, none⟩ = some (.int .i64 p.pause)) 8 #[true, true, true, false, true, true, true, true, true, true, true, true, true, true, false, false, true, true, true, true, true, false, true, true, true, true, true, false, false, true, true, true, true, false, false] { tmps := #[.pointer (some ⟨g, 0, none⟩), x1, .pointer (some ⟨w.heap.size, 0, none⟩), x3, x4, .pointer (some ⟨g, 0, none⟩), x6, x7, x8, x9, .agg #[.int .i64 p.points, .int .i64 p.most, .int .i64 p.pen], .slice (some ⟨n1, 0, none⟩) 0 0, x12, x13, x14, x15, .slice A1 p.entries.length k1, x17, x18, x19, x20, x21, x22, .int .i64 p.dflt, x24, x25, x26, x27, x28, .slice A2 p.bigrams.length k2, x30, x31, x32, x33, x34, .int .i64 p.pause, x36], defers := ds } W := by
  have hS : (fun w' : World => w'.cell? ⟨g, 0, none⟩ = some (.int .i64 p.band) ∧ w'.cell? ⟨g, 1, none⟩ = some (.slice A0 p.temps.length k0) ∧ w'.cell? ⟨g, 2, none⟩ = some (.int .i64 p.points) ∧ w'.cell? ⟨g, 3, none⟩ = some (.int .i64 p.most) ∧ w'.cell? ⟨g, 4, none⟩ = some (.int .i64 p.pen) ∧ w'.cell? ⟨g, 5, none⟩ = some (.slice A1 p.entries.length k1) ∧ w'.cell? ⟨g, 6, none⟩ = some (.int .i64 p.dflt) ∧ w'.cell? ⟨g, 7, none⟩ = some (.slice A2 p.bigrams.length k2) ∧ w'.cell? ⟨g, 8, none⟩ = some (.int .i64 p.pause)) W := ⟨kb bb gw c0, kb bb gw c1, kb bb gw c2, kb bb gw c3, kb bb gw c4, kb bb gw c5, kb bb gw c6, kb bb gw c7, kb bb gw c8⟩
  dsimp only at hS
  refine wpAnyH_ready (rs := [3, 21]) (by kernel_rfl) (by simp) ?_
  refine AllReadyH.cons (o := { dst := some 6, op := Go.Op.call { callee := Go.Callee.value (Go.Operand.func 112), args := #[Go.Operand.tmp 5, Go.Operand.const (Go.Value.int Go.IntKind.i64 (-1))], argTypes := #[135, 2] }, type := 52, pos := "l26_sessions.go:13", after := #[{ on := 2, ground := Go.Ground.data }], guard := none }) rfl (fun K hK => ?_) (AllReadyH.cons (o := { dst := some 24, op := Go.Op.buildSlice 57 0 #[], type := 57, pos := "l26_sessions.go:13", after := #[], guard := none }) rfl (fun K hK => ?_) .nil)
  · skip
    have u1 : ∀ x ∈ [n1], x < W.heap.size := r1.blocks
    have ol := O.lt
    have bz := bb.size
    refine step_call 112 #[Go.Operand.tmp 5, Go.Operand.const (Go.Value.int Go.IntKind.i64 (-1))] _ rfl rfl #[.pointer (some ⟨g, 0, none⟩), .int .i64 (-1)] Tryz.call112 (by go_simp) (spec_l11Own_c (n := p.band) (g := g) (f := 0) _ (kb bb gw c0) (kb bb gw c1) (h0.below bb) hp.t hp.f) ?_
    rintro e w1 ⟨u, G0, rfl, r0, g0, b⟩
    obtain ⟨B0, j0, rfl⟩ := slice_len r0
    refine ⟨_, rfl, ?_⟩
    have bs := b.size
    replace r1 := r1.below b
    replace O := O.later b
    replace bb := bt bb b
    have f0 := g0.1
    have l0 : ∀ x ∈ G0, w.heap.size + 1 ≤ x := fun x hx => by have := g0.2 x hx; omega
    have d0_1 : ∀ x ∈ G0, x ∉ [n1] := fun x hx hy => by have := u1 x hy; have := g0.2 x hx; omega
    refine hK.out _ _ ⟨kb bb gw c0, kb bb gw c1, kb bb gw c2, kb bb gw c3, kb bb gw c4, kb bb gw c5, kb bb gw c6, kb bb gw c7, kb bb gw c8⟩ (fun _ => ?_)
    clear hK K
    exact owsetup_110 _ O bb gw c0 c1 c2 c3 c4 c5 c6 c7 c8 h0 h1 h2 hp r0 f0 l0 r1 l1 d0_1 fin hQ
  · skip
    have u1 : ∀ x ∈ [n1], x < W.heap.size := r1.blocks
    have ol := O.lt
    have bz := bb.size
    go_simp
    have r2 := empty_is pBigram 186 W
    replace r1 := r1.alloc (.cells #[] 186)
    replace O := O.alloc (.cells #[] 186)
    replace bb := bb.alloc bb.size (.cells #[] 186)
    have l2 : ∀ x ∈ [W.heap.size], w.heap.size + 1 ≤ x := fun x hx => by simp at hx; omega
    have d1_2 : ∀ x ∈ [n1], x ∉ [W.heap.size] := fun x hx hy => by have := u1 x hx; simp at hy; omega
    refine hK.out _ _ ⟨kb bb gw c0, kb bb gw c1, kb bb gw c2, kb bb gw c3, kb bb gw c4, kb bb gw c5, kb bb gw c6, kb bb gw c7, kb bb gw c8⟩ (fun _ => ?_)
    clear hK K
    exact owsetup_011 _ O bb gw c0 c1 c2 c3 c4 c5 c6 c7 c8 h0 h1 h2 hp r1 l1 r2 l2 d1_2 fin hQ
set_option maxRecDepth 100000 in
set_option maxHeartbeats 4000000 in
theorem owsetup_100 {I : Ids} {o : Bool} {p : PSetup} {A0 A1 A2 : Option Addr} {k0 k1 k2 : Nat} {F0 F1 F2 : List Nat} {g : Nat} {w : World} {Q : Exit → Act → World → Prop} {x1 x3 x4 x7 x8 x9 x11 x12 x13 x14 x15 x17 x18 x19 x20 x21 x22 x24 x25 x26 x27 x28 x30 x31 x32 x33 x34 x36 : Value} {ds : _} {B0 : Option Addr} {j0 : Nat} {G0 : List Nat} (W : World) (O : Row W w.heap.size 61 [.int .i64 0, .slice none 0 0, .int .i64 0, .int .i64 0, .int .i64 0, .slice none 0 0, .int .i64 0, .slice none 0 0, .int .i64 0]) (bb : Below w.heap.size w W) (gw : g < w.heap.size) (c0 : w.cell? ⟨g, 0, none⟩ = some (.int .i64 p.band)) (c1 : w.cell? ⟨g, 1, none⟩ = some (.slice A0 p.temps.length k0)) (c2 : w.cell? ⟨g, 2, none⟩ = some (.int .i64 p.points)) (c3 : w.cell? ⟨g, 3, none⟩ = some (.int .i64 p.most)) (c4 : w.cell? ⟨g, 4, none⟩ = some (.int .i64 p.pen)) (c5 : w.cell? ⟨g, 5, none⟩ = some (.slice A1 p.entries.length k1)) (c6 : w.cell? ⟨g, 6, none⟩ = some (.int .i64 p.dflt)) (c7 : w.cell? ⟨g, 7, none⟩ = some (.slice A2 p.bigrams.length k2)) (c8 : w.cell? ⟨g, 8, none⟩ = some (.int .i64 p.pause)) (h0 : (pTemps I.ft I.tm).rep o w p.temps [.slice A0 p.temps.length k0] F0) (h1 : (pEntrys I.en).rep o w p.entries [.slice A1 p.entries.length k1] F1) (h2 : (pBigrams I.bg).rep o w p.bigrams [.slice A2 p.bigrams.length k2] F2) (hp : SeSmall p) (r0 : (pTemps 224 215).rep true W p.temps [.slice B0 p.temps.length j0] G0) (f0 : G0.Nodup) (l0 : ∀ x ∈ G0, w.heap.size + 1 ≤ x) (fin : ∀ (W' : World) (B0 : Option Addr) (j0 : Nat) (G0 : List Nat) (B1 : Option Addr) (j1 : Nat) (G1 : List Nat) (n1 : Nat) (B2 : Option Addr) (j2 : Nat) (G2 : List Nat) (n2 : Nat) , Row W' w.heap.size 61 [.int .i64 p.band, .slice B0 p.temps.length j0, .int .i64 p.points, .int .i64 p.most, .int .i64 p.pen, .slice B1 p.entries.length j1, .int .i64 p.dflt, .slice B2 p.bigrams.length j2, .int .i64 p.pause] → ((pTemps 224 215).rep true W' p.temps [.slice B0 p.temps.length j0] G0) → (G0.Nodup) → (∀ x ∈ G0, w.heap.size + 1 ≤ x) → ((pEntrys 183).rep true W' p.entries [.slice B1 p.entries.length j1] G1) → (G1.Nodup) → (∀ x ∈ G1, w.heap.size + 1 ≤ x) → ((pBigrams 186).rep true W' p.bigrams [.slice B2 p.bigrams.length j2] G2) → (G2.Nodup) → (∀ x ∈ G2, w.heap.size + 1 ≤ x) → (∀ x ∈ G0, x ∉ G1) → (∀ x ∈ G0, x ∉ G2) → (∀ x ∈ G1, x ∉ G2) → Below w.heap.size w W' → Q .normal { tmps := #[.pointer (some ⟨g, 0, none⟩), x1, .pointer (some ⟨w.heap.size, 0, none⟩), x3, x4, .pointer (some ⟨g, 0, none⟩), .agg #[.int .i64 p.band, .slice B0 p.temps.length j0], x7, x8, x9, .agg #[.int .i64 p.points, .int .i64 p.most, .int .i64 p.pen], .slice (some ⟨n1, 0, none⟩) 0 0, x12, x13, x14, x15, .slice A1 p.entries.length k1, .slice B1 p.entries.length j1, .agg #[.slice B1 p.entries.length j1], x19, x20, x21, x22, .int .i64 p.dflt, .slice (some ⟨n2, 0, none⟩) 0 0, x25, x26, x27, x28, .slice A2 p.bigrams.length k2, .slice B2 p.bigrams.length j2, .agg #[.int .i64 p.dflt, .slice B2 p.bigrams.length j2], x32, x33, x34, .int .i64 p.pause, .agg #[.int .i64 p.band, .slice B0 p.temps.length j0, .int .i64 p.points, .int .i64 p.most, .int .i64 p.pen, .slice B1 p.entries.length j1, .int .i64 p.dflt, .slice B2 p.bigrams.length j2, .int .i64 p.pause]], defers := ds } W') (hQ : ∀ c a d v w, Q (.panic c) (Act.put a d v) w → Q (.panic c) a w) :
    wpAnyH Tryz.prog .any owsetup_ops Q (fun w' : World => w'.cell? ⟨g, 0, none⟩ = some (.int .i64 p.band) ∧ w'.cell? ⟨g, 1, none⟩ = some (.slice A0 p.temps.length k0) ∧ w'.cell? ⟨g, 2, none⟩ = some (.int .i64 p.points) ∧ w'.cell? ⟨g, 3, none⟩ = some (.int .i64 p.most) ∧ w'.cell? ⟨g, 4, none⟩ = some (.int .i64 p.pen) ∧ w'.cell? ⟨g, 5, none⟩ = some (.slice A1 p.entries.length k1) ∧ w'.cell? ⟨g, 6, none⟩ = some (.int .i64 p.dflt) ∧ w'.cell? ⟨g, 7, none⟩ = some (.slice A2 p.bigrams.length k2) ∧ w'.cell? ⟨g, 8, none⟩ = some (.int .i64 p.pause)) 8 #[true, true, true, true, true, true, true, true, false, true, true, true, true, true, false, false, true, true, true, true, true, false, true, true, true, true, true, false, false, true, true, true, true, false, false] { tmps := #[.pointer (some ⟨g, 0, none⟩), x1, .pointer (some ⟨w.heap.size, 0, none⟩), x3, x4, .pointer (some ⟨g, 0, none⟩), .agg #[.int .i64 p.band, .slice B0 p.temps.length j0], x7, x8, x9, .agg #[.int .i64 p.points, .int .i64 p.most, .int .i64 p.pen], x11, x12, x13, x14, x15, .slice A1 p.entries.length k1, x17, x18, x19, x20, x21, x22, .int .i64 p.dflt, x24, x25, x26, x27, x28, .slice A2 p.bigrams.length k2, x30, x31, x32, x33, x34, .int .i64 p.pause, x36], defers := ds } W := by
  have hS : (fun w' : World => w'.cell? ⟨g, 0, none⟩ = some (.int .i64 p.band) ∧ w'.cell? ⟨g, 1, none⟩ = some (.slice A0 p.temps.length k0) ∧ w'.cell? ⟨g, 2, none⟩ = some (.int .i64 p.points) ∧ w'.cell? ⟨g, 3, none⟩ = some (.int .i64 p.most) ∧ w'.cell? ⟨g, 4, none⟩ = some (.int .i64 p.pen) ∧ w'.cell? ⟨g, 5, none⟩ = some (.slice A1 p.entries.length k1) ∧ w'.cell? ⟨g, 6, none⟩ = some (.int .i64 p.dflt) ∧ w'.cell? ⟨g, 7, none⟩ = some (.slice A2 p.bigrams.length k2) ∧ w'.cell? ⟨g, 8, none⟩ = some (.int .i64 p.pause)) W := ⟨kb bb gw c0, kb bb gw c1, kb bb gw c2, kb bb gw c3, kb bb gw c4, kb bb gw c5, kb bb gw c6, kb bb gw c7, kb bb gw c8⟩
  dsimp only at hS
  refine wpAnyH_ready (rs := [8, 21]) (by kernel_rfl) (by simp) ?_
  refine AllReadyH.cons (o := { dst := some 11, op := Go.Op.buildSlice 54 0 #[], type := 54, pos := "l26_sessions.go:13", after := #[], guard := none }) rfl (fun K hK => ?_) (AllReadyH.cons (o := { dst := some 24, op := Go.Op.buildSlice 57 0 #[], type := 57, pos := "l26_sessions.go:13", after := #[], guard := none }) rfl (fun K hK => ?_) .nil)
  · skip
    have u0 : ∀ x ∈ G0, x < W.heap.size := r0.blocks
    have ol := O.lt
    have bz := bb.size
    go_simp
    have r1 := empty_is pEntry 183 W
    replace r0 := r0.alloc (.cells #[] 183)
    replace O := O.alloc (.cells #[] 183)
    replace bb := bb.alloc bb.size (.cells #[] 183)
    have l1 : ∀ x ∈ [W.heap.size], w.heap.size + 1 ≤ x := fun x hx => by simp at hx; omega
    have d0_1 : ∀ x ∈ G0, x ∉ [W.heap.size] := fun x hx hy => by have := u0 x hx; simp at hy; omega
    refine hK.out _ _ ⟨kb bb gw c0, kb bb gw c1, kb bb gw c2, kb bb gw c3, kb bb gw c4, kb bb gw c5, kb bb gw c6, kb bb gw c7, kb bb gw c8⟩ (fun _ => ?_)
    clear hK K
    exact owsetup_110 _ O bb gw c0 c1 c2 c3 c4 c5 c6 c7 c8 h0 h1 h2 hp r0 f0 l0 r1 l1 d0_1 fin hQ
  · skip
    have u0 : ∀ x ∈ G0, x < W.heap.size := r0.blocks
    have ol := O.lt
    have bz := bb.size
    go_simp
    have r2 := empty_is pBigram 186 W
    replace r0 := r0.alloc (.cells #[] 186)
    replace O := O.alloc (.cells #[] 186)
    replace bb := bb.alloc bb.size (.cells #[] 186)
    have l2 : ∀ x ∈ [W.heap.size], w.heap.size + 1 ≤ x := fun x hx => by simp at hx; omega
    have d0_2 : ∀ x ∈ G0, x ∉ [W.heap.size] := fun x hx hy => by have := u0 x hx; simp at hy; omega
    refine hK.out _ _ ⟨kb bb gw c0, kb bb gw c1, kb bb gw c2, kb bb gw c3, kb bb gw c4, kb bb gw c5, kb bb gw c6, kb bb gw c7, kb bb gw c8⟩ (fun _ => ?_)
    clear hK K
    exact owsetup_101 _ O bb gw c0 c1 c2 c3 c4 c5 c6 c7 c8 h0 h1 h2 hp r0 f0 l0 r2 l2 d0_2 fin hQ
set_option maxRecDepth 100000 in
set_option maxHeartbeats 4000000 in
theorem owsetup_000 {I : Ids} {o : Bool} {p : PSetup} {A0 A1 A2 : Option Addr} {k0 k1 k2 : Nat} {F0 F1 F2 : List Nat} {g : Nat} {w : World} {Q : Exit → Act → World → Prop} {x1 x3 x4 x6 x7 x8 x9 x11 x12 x13 x14 x15 x17 x18 x19 x20 x21 x22 x24 x25 x26 x27 x28 x30 x31 x32 x33 x34 x36 : Value} {ds : _}  (W : World) (O : Row W w.heap.size 61 [.int .i64 0, .slice none 0 0, .int .i64 0, .int .i64 0, .int .i64 0, .slice none 0 0, .int .i64 0, .slice none 0 0, .int .i64 0]) (bb : Below w.heap.size w W) (gw : g < w.heap.size) (c0 : w.cell? ⟨g, 0, none⟩ = some (.int .i64 p.band)) (c1 : w.cell? ⟨g, 1, none⟩ = some (.slice A0 p.temps.length k0)) (c2 : w.cell? ⟨g, 2, none⟩ = some (.int .i64 p.points)) (c3 : w.cell? ⟨g, 3, none⟩ = some (.int .i64 p.most)) (c4 : w.cell? ⟨g, 4, none⟩ = some (.int .i64 p.pen)) (c5 : w.cell? ⟨g, 5, none⟩ = some (.slice A1 p.entries.length k1)) (c6 : w.cell? ⟨g, 6, none⟩ = some (.int .i64 p.dflt)) (c7 : w.cell? ⟨g, 7, none⟩ = some (.slice A2 p.bigrams.length k2)) (c8 : w.cell? ⟨g, 8, none⟩ = some (.int .i64 p.pause)) (h0 : (pTemps I.ft I.tm).rep o w p.temps [.slice A0 p.temps.length k0] F0) (h1 : (pEntrys I.en).rep o w p.entries [.slice A1 p.entries.length k1] F1) (h2 : (pBigrams I.bg).rep o w p.bigrams [.slice A2 p.bigrams.length k2] F2) (hp : SeSmall p)  (fin : ∀ (W' : World) (B0 : Option Addr) (j0 : Nat) (G0 : List Nat) (B1 : Option Addr) (j1 : Nat) (G1 : List Nat) (n1 : Nat) (B2 : Option Addr) (j2 : Nat) (G2 : List Nat) (n2 : Nat) , Row W' w.heap.size 61 [.int .i64 p.band, .slice B0 p.temps.length j0, .int .i64 p.points, .int .i64 p.most, .int .i64 p.pen, .slice B1 p.entries.length j1, .int .i64 p.dflt, .slice B2 p.bigrams.length j2, .int .i64 p.pause] → ((pTemps 224 215).rep true W' p.temps [.slice B0 p.temps.length j0] G0) → (G0.Nodup) → (∀ x ∈ G0, w.heap.size + 1 ≤ x) → ((pEntrys 183).rep true W' p.entries [.slice B1 p.entries.length j1] G1) → (G1.Nodup) → (∀ x ∈ G1, w.heap.size + 1 ≤ x) → ((pBigrams 186).rep true W' p.bigrams [.slice B2 p.bigrams.length j2] G2) → (G2.Nodup) → (∀ x ∈ G2, w.heap.size + 1 ≤ x) → (∀ x ∈ G0, x ∉ G1) → (∀ x ∈ G0, x ∉ G2) → (∀ x ∈ G1, x ∉ G2) → Below w.heap.size w W' → Q .normal { tmps := #[.pointer (some ⟨g, 0, none⟩), x1, .pointer (some ⟨w.heap.size, 0, none⟩), x3, x4, .pointer (some ⟨g, 0, none⟩), .agg #[.int .i64 p.band, .slice B0 p.temps.length j0], x7, x8, x9, .agg #[.int .i64 p.points, .int .i64 p.most, .int .i64 p.pen], .slice (some ⟨n1, 0, none⟩) 0 0, x12, x13, x14, x15, .slice A1 p.entries.length k1, .slice B1 p.entries.length j1, .agg #[.slice B1 p.entries.length j1], x19, x20, x21, x22, .int .i64 p.dflt, .slice (some ⟨n2, 0, none⟩) 0 0, x25, x26, x27, x28, .slice A2 p.bigrams.length k2, .slice B2 p.bigrams.length j2, .agg #[.int .i64 p.dflt, .slice B2 p.bigrams.length j2], x32, x33, x34, .int .i64 p.pause, .agg #[.int .i64 p.band, .slice B0 p.temps.length j0, .int .i64 p.points, .int .i64 p.most, .int .i64 p.pen, .slice B1 p.entries.length j1, .int .i64 p.dflt, .slice B2 p.bigrams.length j2, .int .i64 p.pause]], defers := ds } W') (hQ : ∀ c a d v w, Q (.panic c) (Act.put a d v) w → Q (.panic c) a w) :
    wpAnyH Tryz.prog .any owsetup_ops Q (fun w' : World => w'.cell? ⟨g, 0, none⟩ = some (.int .i64 p.band) ∧ w'.cell? ⟨g, 1, none⟩ = some (.slice A0 p.temps.length k0) ∧ w'.cell? ⟨g, 2, none⟩ = some (.int .i64 p.points) ∧ w'.cell? ⟨g, 3, none⟩ = some (.int .i64 p.most) ∧ w'.cell? ⟨g, 4, none⟩ = some (.int .i64 p.pen) ∧ w'.cell? ⟨g, 5, none⟩ = some (.slice A1 p.entries.length k1) ∧ w'.cell? ⟨g, 6, none⟩ = some (.int .i64 p.dflt) ∧ w'.cell? ⟨g, 7, none⟩ = some (.slice A2 p.bigrams.length k2) ∧ w'.cell? ⟨g, 8, none⟩ = some (.int .i64 p.pause)) 9 #[true, true, true, false, true, true, true, true, false, true, true, true, true, true, false, false, true, true, true, true, true, false, true, true, true, true, true, false, false, true, true, true, true, false, false] { tmps := #[.pointer (some ⟨g, 0, none⟩), x1, .pointer (some ⟨w.heap.size, 0, none⟩), x3, x4, .pointer (some ⟨g, 0, none⟩), x6, x7, x8, x9, .agg #[.int .i64 p.points, .int .i64 p.most, .int .i64 p.pen], x11, x12, x13, x14, x15, .slice A1 p.entries.length k1, x17, x18, x19, x20, x21, x22, .int .i64 p.dflt, x24, x25, x26, x27, x28, .slice A2 p.bigrams.length k2, x30, x31, x32, x33, x34, .int .i64 p.pause, x36], defers := ds } W := by
  have hS : (fun w' : World => w'.cell? ⟨g, 0, none⟩ = some (.int .i64 p.band) ∧ w'.cell? ⟨g, 1, none⟩ = some (.slice A0 p.temps.length k0) ∧ w'.cell? ⟨g, 2, none⟩ = some (.int .i64 p.points) ∧ w'.cell? ⟨g, 3, none⟩ = some (.int .i64 p.most) ∧ w'.cell? ⟨g, 4, none⟩ = some (.int .i64 p.pen) ∧ w'.cell? ⟨g, 5, none⟩ = some (.slice A1 p.entries.length k1) ∧ w'.cell? ⟨g, 6, none⟩ = some (.int .i64 p.dflt) ∧ w'.cell? ⟨g, 7, none⟩ = some (.slice A2 p.bigrams.length k2) ∧ w'.cell? ⟨g, 8, none⟩ = some (.int .i64 p.pause)) W := ⟨kb bb gw c0, kb bb gw c1, kb bb gw c2, kb bb gw c3, kb bb gw c4, kb bb gw c5, kb bb gw c6, kb bb gw c7, kb bb gw c8⟩
  dsimp only at hS
  refine wpAnyH_ready (rs := [3, 8, 21]) (by kernel_rfl) (by simp) ?_
  refine AllReadyH.cons (o := { dst := some 6, op := Go.Op.call { callee := Go.Callee.value (Go.Operand.func 112), args := #[Go.Operand.tmp 5, Go.Operand.const (Go.Value.int Go.IntKind.i64 (-1))], argTypes := #[135, 2] }, type := 52, pos := "l26_sessions.go:13", after := #[{ on := 2, ground := Go.Ground.data }], guard := none }) rfl (fun K hK => ?_) (AllReadyH.cons (o := { dst := some 11, op := Go.Op.buildSlice 54 0 #[], type := 54, pos := "l26_sessions.go:13", after := #[], guard := none }) rfl (fun K hK => ?_) (AllReadyH.cons (o := { dst := some 24, op := Go.Op.buildSlice 57 0 #[], type := 57, pos := "l26_sessions.go:13", after := #[], guard := none }) rfl (fun K hK => ?_) .nil))
  · skip
    have ol := O.lt
    have bz := bb.size
    refine step_call 112 #[Go.Operand.tmp 5, Go.Operand.const (Go.Value.int Go.IntKind.i64 (-1))] _ rfl rfl #[.pointer (some ⟨g, 0, none⟩), .int .i64 (-1)] Tryz.call112 (by go_simp) (spec_l11Own_c (n := p.band) (g := g) (f := 0) _ (kb bb gw c0) (kb bb gw c1) (h0.below bb) hp.t hp.f) ?_
    rintro e w1 ⟨u, G0, rfl, r0, g0, b⟩
    obtain ⟨B0, j0, rfl⟩ := slice_len r0
    refine ⟨_, rfl, ?_⟩
    have bs := b.size
    replace O := O.later b
    replace bb := bt bb b
    have f0 := g0.1
    have l0 : ∀ x ∈ G0, w.heap.size + 1 ≤ x := fun x hx => by have := g0.2 x hx; omega
    refine hK.out _ _ ⟨kb bb gw c0, kb bb gw c1, kb bb gw c2, kb bb gw c3, kb bb gw c4, kb bb gw c5, kb bb gw c6, kb bb gw c7, kb bb gw c8⟩ (fun _ => ?_)
    clear hK K
    exact owsetup_100 _ O bb gw c0 c1 c2 c3 c4 c5 c6 c7 c8 h0 h1 h2 hp r0 f0 l0 fin hQ
  · skip
    have ol := O.lt
    have bz := bb.size
    go_simp
    have r1 := empty_is pEntry 183 W
    replace O := O.alloc (.cells #[] 183)
    replace bb := bb.alloc bb.size (.cells #[] 183)
    have l1 : ∀ x ∈ [W.heap.size], w.heap.size + 1 ≤ x := fun x hx => by simp at hx; omega
    refine hK.out _ _ ⟨kb bb gw c0, kb bb gw c1, kb bb gw c2, kb bb gw c3, kb bb gw c4, kb bb gw c5, kb bb gw c6, kb bb gw c7, kb bb gw c8⟩ (fun _ => ?_)
    clear hK K
    exact owsetup_010 _ O bb gw c0 c1 c2 c3 c4 c5 c6 c7 c8 h0 h1 h2 hp r1 l1 fin hQ
  · skip
    have ol := O.lt
    have bz := bb.size
    go_simp
    have r2 := empty_is pBigram 186 W
    replace O := O.alloc (.cells #[] 186)
    replace bb := bb.alloc bb.size (.cells #[] 186)
    have l2 : ∀ x ∈ [W.heap.size], w.heap.size + 1 ≤ x := fun x hx => by simp at hx; omega
    refine hK.out _ _ ⟨kb bb gw c0, kb bb gw c1, kb bb gw c2, kb bb gw c3, kb bb gw c4, kb bb gw c5, kb bb gw c6, kb bb gw c7, kb bb gw c8⟩ (fun _ => ?_)
    clear hK K
    exact owsetup_001 _ O bb gw c0 c1 c2 c3 c4 c5 c6 c7 c8 h0 h1 h2 hp r2 l2 fin hQ
set_option maxRecDepth 100000 in
set_option maxHeartbeats 4000000 in
theorem spec_l26OwnSetup_c {I : Ids} {o : Bool} {p : PSetup} {A0 A1 A2 : Option Addr} {k0 k1 k2 : Nat} {F0 F1 F2 : List Nat} {g : Nat} (w : World) (c0 : w.cell? ⟨g, 0, none⟩ = some (.int .i64 p.band)) (c1 : w.cell? ⟨g, 1, none⟩ = some (.slice A0 p.temps.length k0)) (c2 : w.cell? ⟨g, 2, none⟩ = some (.int .i64 p.points)) (c3 : w.cell? ⟨g, 3, none⟩ = some (.int .i64 p.most)) (c4 : w.cell? ⟨g, 4, none⟩ = some (.int .i64 p.pen)) (c5 : w.cell? ⟨g, 5, none⟩ = some (.slice A1 p.entries.length k1)) (c6 : w.cell? ⟨g, 6, none⟩ = some (.int .i64 p.dflt)) (c7 : w.cell? ⟨g, 7, none⟩ = some (.slice A2 p.bigrams.length k2)) (c8 : w.cell? ⟨g, 8, none⟩ = some (.int .i64 p.pause)) (h0 : (pTemps I.ft I.tm).rep o w p.temps [.slice A0 p.temps.length k0] F0) (h1 : (pEntrys I.en).rep o w p.entries [.slice A1 p.entries.length k1] F1) (h2 : (pBigrams I.bg).rep o w p.bigrams [.slice A2 p.bigrams.length k2] F2) (hp : SeSmall p) : Calls Tryz.prog 44 #[.pointer (some ⟨g, 0, none⟩)] w (GivesSetup p w) := by
  have gw : g < w.heap.size := World.block_lt_of_cell? w ⟨g, 0, none⟩ c0
  go_enter Tryz.func44, Tryz.ntmps44
  go_wp2_with fail
  have O := (Row.new w 61 #[.int .i64 0, .slice none 0 0, .int .i64 0, .int .i64 0, .int .i64 0, .slice none 0 0, .int .i64 0, .slice none 0 0, .int .i64 0]).drew
  have bb : Below w.heap.size w (w.alloc (.cells #[.int .i64 0, .slice none 0 0, .int .i64 0, .int .i64 0, .int .i64 0, .slice none 0 0, .int .i64 0, .slice none 0 0, .int .i64 0] 61)).drew := ((Below.refl _ _).alloc (Nat.le_refl _) _).drew
  have hS : (fun w' : World => w'.cell? ⟨g, 0, none⟩ = some (.int .i64 p.band) ∧ w'.cell? ⟨g, 1, none⟩ = some (.slice A0 p.temps.length k0) ∧ w'.cell? ⟨g, 2, none⟩ = some (.int .i64 p.points) ∧ w'.cell? ⟨g, 3, none⟩ = some (.int .i64 p.most) ∧ w'.cell? ⟨g, 4, none⟩ = some (.int .i64 p.pen) ∧ w'.cell? ⟨g, 5, none⟩ = some (.slice A1 p.entries.length k1) ∧ w'.cell? ⟨g, 6, none⟩ = some (.int .i64 p.dflt) ∧ w'.cell? ⟨g, 7, none⟩ = some (.slice A2 p.bigrams.length k2) ∧ w'.cell? ⟨g, 8, none⟩ = some (.int .i64 p.pause)) (w.alloc (.cells #[.int .i64 0, .slice none 0 0, .int .i64 0, .int .i64 0, .int .i64 0, .slice none 0 0, .int .i64 0, .slice none 0 0, .int .i64 0] 61)).drew := ⟨kb bb gw c0, kb bb gw c1, kb bb gw c2, kb bb gw c3, kb bb gw c4, kb bb gw c5, kb bb gw c6, kb bb gw c7, kb bb gw c8⟩
  dsimp only at hS
  refine wp_region_held_drew (S := (fun w' : World => w'.cell? ⟨g, 0, none⟩ = some (.int .i64 p.band) ∧ w'.cell? ⟨g, 1, none⟩ = some (.slice A0 p.temps.length k0) ∧ w'.cell? ⟨g, 2, none⟩ = some (.int .i64 p.points) ∧ w'.cell? ⟨g, 3, none⟩ = some (.int .i64 p.most) ∧ w'.cell? ⟨g, 4, none⟩ = some (.int .i64 p.pen) ∧ w'.cell? ⟨g, 5, none⟩ = some (.slice A1 p.entries.length k1) ∧ w'.cell? ⟨g, 6, none⟩ = some (.int .i64 p.dflt) ∧ w'.cell? ⟨g, 7, none⟩ = some (.slice A2 p.bigrams.length k2) ∧ w'.cell? ⟨g, 8, none⟩ = some (.int .i64 p.pause))) (by kernel_rfl) hS (fun _ => ?_)
  refine tk44_1 (i := 0) (oi := zo44_1_0) (v := ?_) rfl (by kernel_rfl) (fun _ _ _ h => h) (Or.inl ⟨rfl, ?_⟩) hS ?_
  rotate_left
  · (intro w' hS'; (try dsimp only at hS'); dsimp only [zo44_1_0]; go_simp; try with_reducible rfl)
  simp only [Act.put, pa44_1, pb44_1, pc44_1]
  refine tk44_1 (i := 1) (oi := zo44_1_1) (v := ?_) rfl (by kernel_rfl) (fun _ _ _ h => h) (Or.inl ⟨rfl, ?_⟩) hS ?_
  rotate_left
  · (intro w' hS'; (try dsimp only at hS'); dsimp only [zo44_1_1]; go_simp; try with_reducible rfl)
  simp only [Act.put, pa44_1, pb44_1, pc44_1]
  refine tk44_1 (i := 2) (oi := zo44_1_2) (v := ?_) rfl (by kernel_rfl) (fun _ _ _ h => h) (Or.inl ⟨rfl, ?_⟩) hS ?_
  rotate_left
  · (intro w' hS'; (try dsimp only at hS'); dsimp only [zo44_1_2]; go_simp; try with_reducible rfl)
  simp only [Act.put, pa44_1, pb44_1, pc44_1]
  refine tk44_1 (i := 4) (oi := zo44_1_4) (v := ?_) rfl (by kernel_rfl) (fun _ _ _ h => h) (Or.inl ⟨rfl, ?_⟩) hS ?_
  rotate_left
  · (intro w' hS'; (try dsimp only at hS'); dsimp only [zo44_1_4]; go_simp; try with_reducible rfl)
  simp only [Act.put, pa44_1, pb44_1, pc44_1]
  refine tk44_1 (i := 5) (oi := zo44_1_5) (v := ?_) rfl (by kernel_rfl) (fun _ _ _ h => h) (Or.inl ⟨rfl, ?_⟩) hS ?_
  rotate_left
  · (intro w' hS'; (try dsimp only at hS'); dsimp only [zo44_1_5]; go_simp; try with_reducible rfl)
  simp only [Act.put, pa44_1, pb44_1, pc44_1]
  refine tk44_1 (i := 6) (oi := zo44_1_6) (v := ?_) rfl (by kernel_rfl) (fun _ _ _ h => h) (Or.inl ⟨rfl, ?_⟩) hS ?_
  rotate_left
  · (intro w' hS'; (try dsimp only at hS'); dsimp only [zo44_1_6]; go_simp; try with_reducible rfl)
  simp only [Act.put, pa44_1, pb44_1, pc44_1]
  refine tk44_1 (i := 7) (oi := zo44_1_7) (v := ?_) rfl (by kernel_rfl) (fun _ _ _ h => h) (Or.inl ⟨rfl, ?_⟩) hS ?_
  rotate_left
  · (intro w' hS'; (try dsimp only at hS'); dsimp only [zo44_1_7]; go_simp; try with_reducible rfl)
  simp only [Act.put, pa44_1, pb44_1, pc44_1]
  refine tk44_1 (i := 9) (oi := zo44_1_9) (v := ?_) rfl (by kernel_rfl) (fun _ _ _ h => h) (Or.inl ⟨rfl, ?_⟩) hS ?_
  rotate_left
  · (intro w' hS'; (try dsimp only at hS'); dsimp only [zo44_1_9]; go_simp; try with_reducible rfl)
  simp only [Act.put, pa44_1, pb44_1, pc44_1]
  refine tk44_1 (i := 10) (oi := zo44_1_10) (v := ?_) rfl (by kernel_rfl) (fun _ _ _ h => h) (Or.inl ⟨rfl, ?_⟩) hS ?_
  rotate_left
  · (intro w' hS'; (try dsimp only at hS'); dsimp only [zo44_1_10]; go_simp; try with_reducible rfl)
  simp only [Act.put, pa44_1, pb44_1, pc44_1]
  refine tk44_1 (i := 11) (oi := zo44_1_11) (v := ?_) rfl (by kernel_rfl) (fun _ _ _ h => h) (Or.inl ⟨rfl, ?_⟩) hS ?_
  rotate_left
  · (intro w' hS'; (try dsimp only at hS'); dsimp only [zo44_1_11]; go_simp; try with_reducible rfl)
  simp only [Act.put, pa44_1, pb44_1, pc44_1]
  refine tk44_1 (i := 12) (oi := zo44_1_12) (v := ?_) rfl (by kernel_rfl) (fun _ _ _ h => h) (Or.inl ⟨rfl, ?_⟩) hS ?_
  rotate_left
  · (intro w' hS'; (try dsimp only at hS'); dsimp only [zo44_1_12]; go_simp; try with_reducible rfl)
  simp only [Act.put, pa44_1, pb44_1, pc44_1]
  refine tk44_1 (i := 13) (oi := zo44_1_13) (v := ?_) rfl (by kernel_rfl) (fun _ _ _ h => h) (Or.inl ⟨rfl, ?_⟩) hS ?_
  rotate_left
  · (intro w' hS'; (try dsimp only at hS'); dsimp only [zo44_1_13]; go_simp; try with_reducible rfl)
  simp only [Act.put, pa44_1, pb44_1, pc44_1]
  refine tk44_1 (i := 16) (oi := zo44_1_16) (v := ?_) rfl (by kernel_rfl) (fun _ _ _ h => h) (Or.inl ⟨rfl, ?_⟩) hS ?_
  rotate_left
  · (intro w' hS'; (try dsimp only at hS'); dsimp only [zo44_1_16]; go_simp; try with_reducible rfl)
  simp only [Act.put, pa44_1, pb44_1, pc44_1]
  refine tk44_1 (i := 17) (oi := zo44_1_17) (v := ?_) rfl (by kernel_rfl) (fun _ _ _ h => h) (Or.inl ⟨rfl, ?_⟩) hS ?_
  rotate_left
  · (intro w' hS'; (try dsimp only at hS'); dsimp only [zo44_1_17]; go_simp; try with_reducible rfl)
  simp only [Act.put, pa44_1, pb44_1, pc44_1]
  refine tk44_1 (i := 18) (oi := zo44_1_18) (v := ?_) rfl (by kernel_rfl) (fun _ _ _ h => h) (Or.inl ⟨rfl, ?_⟩) hS ?_
  rotate_left
  · (intro w' hS'; (try dsimp only at hS'); dsimp only [zo44_1_18]; go_simp; try with_reducible rfl)
  simp only [Act.put, pa44_1, pb44_1, pc44_1]
  refine tk44_1 (i := 19) (oi := zo44_1_19) (v := ?_) rfl (by kernel_rfl) (fun _ _ _ h => h) (Or.inl ⟨rfl, ?_⟩) hS ?_
  rotate_left
  · (intro w' hS'; (try dsimp only at hS'); dsimp only [zo44_1_19]; go_simp; try with_reducible rfl)
  simp only [Act.put, pa44_1, pb44_1, pc44_1]
  refine tk44_1 (i := 20) (oi := zo44_1_20) (v := ?_) rfl (by kernel_rfl) (fun _ _ _ h => h) (Or.inl ⟨rfl, ?_⟩) hS ?_
  rotate_left
  · (intro w' hS'; (try dsimp only at hS'); dsimp only [zo44_1_20]; go_simp; try with_reducible rfl)
  simp only [Act.put, pa44_1, pb44_1, pc44_1]
  refine tk44_1 (i := 22) (oi := zo44_1_22) (v := ?_) rfl (by kernel_rfl) (fun _ _ _ h => h) (Or.inl ⟨rfl, ?_⟩) hS ?_
  rotate_left
  · (intro w' hS'; (try dsimp only at hS'); dsimp only [zo44_1_22]; go_simp; try with_reducible rfl)
  simp only [Act.put, pa44_1, pb44_1, pc44_1]
  refine tk44_1 (i := 23) (oi := zo44_1_23) (v := ?_) rfl (by kernel_rfl) (fun _ _ _ h => h) (Or.inl ⟨rfl, ?_⟩) hS ?_
  rotate_left
  · (intro w' hS'; (try dsimp only at hS'); dsimp only [zo44_1_23]; go_simp; try with_reducible rfl)
  simp only [Act.put, pa44_1, pb44_1, pc44_1]
  refine tk44_1 (i := 24) (oi := zo44_1_24) (v := ?_) rfl (by kernel_rfl) (fun _ _ _ h => h) (Or.inl ⟨rfl, ?_⟩) hS ?_
  rotate_left
  · (intro w' hS'; (try dsimp only at hS'); dsimp only [zo44_1_24]; go_simp; try with_reducible rfl)
  simp only [Act.put, pa44_1, pb44_1, pc44_1]
  refine tk44_1 (i := 25) (oi := zo44_1_25) (v := ?_) rfl (by kernel_rfl) (fun _ _ _ h => h) (Or.inl ⟨rfl, ?_⟩) hS ?_
  rotate_left
  · (intro w' hS'; (try dsimp only at hS'); dsimp only [zo44_1_25]; go_simp; try with_reducible rfl)
  simp only [Act.put, pa44_1, pb44_1, pc44_1]
  refine tk44_1 (i := 26) (oi := zo44_1_26) (v := ?_) rfl (by kernel_rfl) (fun _ _ _ h => h) (Or.inl ⟨rfl, ?_⟩) hS ?_
  rotate_left
  · (intro w' hS'; (try dsimp only at hS'); dsimp only [zo44_1_26]; go_simp; try with_reducible rfl)
  simp only [Act.put, pa44_1, pb44_1, pc44_1]
  refine tk44_1 (i := 29) (oi := zo44_1_29) (v := ?_) rfl (by kernel_rfl) (fun _ _ _ h => h) (Or.inl ⟨rfl, ?_⟩) hS ?_
  rotate_left
  · (intro w' hS'; (try dsimp only at hS'); dsimp only [zo44_1_29]; go_simp; try with_reducible rfl)
  simp only [Act.put, pa44_1, pb44_1, pc44_1]
  refine tk44_1 (i := 30) (oi := zo44_1_30) (v := ?_) rfl (by kernel_rfl) (fun _ _ _ h => h) (Or.inl ⟨rfl, ?_⟩) hS ?_
  rotate_left
  · (intro w' hS'; (try dsimp only at hS'); dsimp only [zo44_1_30]; go_simp; try with_reducible rfl)
  simp only [Act.put, pa44_1, pb44_1, pc44_1]
  refine tk44_1 (i := 31) (oi := zo44_1_31) (v := ?_) rfl (by kernel_rfl) (fun _ _ _ h => h) (Or.inl ⟨rfl, ?_⟩) hS ?_
  rotate_left
  · (intro w' hS'; (try dsimp only at hS'); dsimp only [zo44_1_31]; go_simp; try with_reducible rfl)
  simp only [Act.put, pa44_1, pb44_1, pc44_1]
  refine tk44_1 (i := 32) (oi := zo44_1_32) (v := ?_) rfl (by kernel_rfl) (fun _ _ _ h => h) (Or.inl ⟨rfl, ?_⟩) hS ?_
  rotate_left
  · (intro w' hS'; (try dsimp only at hS'); dsimp only [zo44_1_32]; go_simp; try with_reducible rfl)
  simp only [Act.put, pa44_1, pb44_1, pc44_1]
  refine owsetup_000 _ O bb gw c0 c1 c2 c3 c4 c5 c6 c7 c8 h0 h1 h2 hp ?_ (fun _ _ d _ _ h => by cases d <;> exact h)
  clear O bb hS
  intro W' B0 j0 G0 B1 j1 G1 n1 B2 j2 G2 n2 O q0 f0 l0 q1 f1 l1 q2 f2 l2 d01 d02 d12 bb
  have e0 := O.cell' (i := 0) rfl
  have e1 := O.cell' (i := 1) rfl
  have e2 := O.cell' (i := 2) rfl
  have e3 := O.cell' (i := 3) rfl
  have e4 := O.cell' (i := 4) rfl
  have e5 := O.cell' (i := 5) rfl
  have e6 := O.cell' (i := 6) rfl
  have e7 := O.cell' (i := 7) rfl
  have e8 := O.cell' (i := 8) rfl
  have of := O.frozen
  go_wp2_with fail
  refine bodyPost_ret (v := .agg #[.int .i64 p.band, .slice B0 p.temps.length j0, .int .i64 p.points, .int .i64 p.most, .int .i64 p.pen, .slice B1 p.entries.length j1, .int .i64 p.dflt, .slice B2 p.bigrams.length j2, .int .i64 p.pause]) (by simp only [results, Tryz.results44]; go_simp) rfl ⟨_, _, rfl, ⟨_, _, _, G0, G1, G2, rfl, rfl, q0, q1, q2⟩, ⟨?_, ?_⟩, bb⟩
  · exact List.nodup_append.2 ⟨f0, List.nodup_append.2 ⟨f1, f2, fun x hx y hy e => d12 x hx (e ▸ hy)⟩, fun x hx y hy e => by
      subst e
      rcases List.mem_append.1 hy with h | h
      · exact d01 x hx h
      · exact d02 x hx h⟩
  · intro x hx
    rcases List.mem_append.1 hx with h | h
    · have := l0 x h; omega
    · rcases List.mem_append.1 h with h | h
      · have := l1 x h; omega
      · have := l2 x h; omega
end Go.Proofs.YtkfadfddhbpngaaGreat
