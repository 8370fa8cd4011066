/- The program's parser of sets of symbols, in memory. Conditions: none. -/
import Derived.Test.YtmopioaojdlnkaaPsFp
import Derived.Test.YtmopioaojdlnkaaPsIp
namespace Go.Proofs.Ytmopioaojdlnkaa
open Go Go.RowKit

def icBox (c : RC) : List Value := [.int .i64 c.box.x1, .int .i64 c.box.y1, .int .i64 c.box.x2, .int .i64 c.box.y2]
def icBest (c : RC) : List Value := [.int .i64 c.kind, .int .i64 c.sign, .int .i64 c.first, .int .i64 c.rest, .int .i64 c.cost]
def icN (c : RC) : List Value := [.int .i64 c.ways]
theorem icBox_len (c : RC) : (icBox c).length = 4 := rfl
theorem icBest_len (c : RC) : (icBest c).length = 5 := rfl
theorem icN_len (c : RC) : (icN c).length = 1 := rfl
theorem rowF_same {α : Type} {enc : α → List Value} (K : Nat → α) (s : Nat) {a : α} (h : enc a = enc (K s)) (n : Nat) : rowF enc (updF K s a) n = rowF enc K n := by
 induction n with
 | zero => rfl
 | succ n ih =>
   rw [rowF, rowF, ih]
   by_cases e : n = s
   · subst e; rw [updF_same, h]
   · rw [updF_other K a e]
/-- The program's parser in memory. -/
structure Prs (e : TypeId) (o : Bool) (xs : List PSymbol) (vl : Value) (Fl : List Nat) (gp gb gt gn N : Nat) (K : Nat → RC) (w : World) : Prop where
 row : Row w gp 61 [vl, .slice (some ⟨gb, 0, none⟩) N N, .slice (some ⟨gt, 0, none⟩) N N, .slice (some ⟨gn, 0, none⟩) N N]
 syms : (pSymbols e).rep o w xs [vl] Fl
 boxes : Row w gb 48 (rowF icBox K N)
 best : Row w gt 65 (rowF icBest K N)
 count : Row w gn 2 (rowF icN K N)
 nd : [gp, gb, gt, gn].Nodup
 dis : ∀ b ∈ Fl, b ∉ [gp, gb, gt, gn]
section
variable {e : TypeId} {o : Bool} {xs : List PSymbol} {vl : Value} {Fl : List Nat} {gp gb gt gn N : Nat} {K : Nat → RC} {w w' : World}
theorem Prs.ne (h : Prs e o xs vl Fl gp gb gt gn N K w) : gp ≠ gb ∧ gp ≠ gt ∧ gp ≠ gn ∧ gb ≠ gt ∧ gb ≠ gn ∧ gt ≠ gn := by
 have := h.nd
 simp only [List.nodup_cons, List.mem_cons, List.not_mem_nil, or_false, not_or] at this
 exact ⟨this.1.1, this.1.2.1, this.1.2.2, this.2.1.1, this.2.1.2, this.2.2.1⟩
theorem Prs.alloc (h : Prs e o xs vl Fl gp gb gt gn N K w) (x : Obj) : Prs e o xs vl Fl gp gb gt gn N K (w.alloc x) := ⟨h.row.alloc x, h.syms.alloc x, h.boxes.alloc x, h.best.alloc x, h.count.alloc x, h.nd, h.dis⟩
theorem Prs.drew (h : Prs e o xs vl Fl gp gb gt gn N K w) : Prs e o xs vl Fl gp gb gt gn N K w.drew := ⟨h.row.drew, h.syms.drew, h.boxes.drew, h.best.drew, h.count.drew, h.nd, h.dis⟩
theorem Prs.drewN (h : Prs e o xs vl Fl gp gb gt gn N K w) (n : Nat) : Prs e o xs vl Fl gp gb gt gn N K (w.drewN n) := ⟨h.row.drewN n, h.syms.drewN n, h.boxes.drewN n, h.best.drewN n, h.count.drewN n, h.nd, h.dis⟩
theorem Prs.below (h : Prs e o xs vl Fl gp gb gt gn N K w) (b : Below w.heap.size w w') : Prs e o xs vl Fl gp gb gt gn N K w' := ⟨h.row.later b, h.syms.below b, h.boxes.later b, h.best.later b, h.count.later b, h.nd, h.dis⟩
theorem Prs.far (h : Prs e o xs vl Fl gp gb gt gn N K w) {p : Addr} (hp : p.block ∉ [gp, gb, gt, gn]) (hl : p.block ∉ Fl) (u : Value) : Prs e o xs vl Fl gp gb gt gn N K (w.setCell p u) := by
 simp only [List.mem_cons, List.not_mem_nil, or_false, not_or] at hp
 exact ⟨h.row.far (Ne.symm hp.1) u, h.syms.setCell hl u, h.boxes.far (Ne.symm hp.2.1) u, h.best.far (Ne.symm hp.2.2.1) u, h.count.far (Ne.symm hp.2.2.2) u, h.nd, h.dis⟩
theorem Prs.boxCell (h : Prs e o xs vl Fl gp gb gt gn N K w) {s : Nat} (hs : s < N) :
 w.cell? ⟨gb, s * 4, none⟩ = some (.int .i64 (K s).box.x1) ∧ w.cell? ⟨gb, s * 4 + 1, none⟩ = some (.int .i64 (K s).box.y1) ∧ w.cell? ⟨gb, s * 4 + 2, none⟩ = some (.int .i64 (K s).box.x2) ∧ w.cell? ⟨gb, s * 4 + 3, none⟩ = some (.int .i64 (K s).box.y2) :=
 ⟨RowF.cell icBox_len h.boxes hs (j := 0) (by decide) rfl, RowF.cell icBox_len h.boxes hs (j := 1) (by decide) rfl, RowF.cell icBox_len h.boxes hs (j := 2) (by decide) rfl, RowF.cell icBox_len h.boxes hs (j := 3) (by decide) rfl⟩
theorem Prs.bestCell (h : Prs e o xs vl Fl gp gb gt gn N K w) {s : Nat} (hs : s < N) :
 w.cell? ⟨gt, s * 5, none⟩ = some (.int .i64 (K s).kind) ∧ w.cell? ⟨gt, s * 5 + 1, none⟩ = some (.int .i64 (K s).sign) ∧ w.cell? ⟨gt, s * 5 + 2, none⟩ = some (.int .i64 (K s).first) ∧ w.cell? ⟨gt, s * 5 + 3, none⟩ = some (.int .i64 (K s).rest) ∧ w.cell? ⟨gt, s * 5 + 4, none⟩ = some (.int .i64 (K s).cost) :=
 ⟨RowF.cell icBest_len h.best hs (j := 0) (by decide) rfl, RowF.cell icBest_len h.best hs (j := 1) (by decide) rfl, RowF.cell icBest_len h.best hs (j := 2) (by decide) rfl, RowF.cell icBest_len h.best hs (j := 3) (by decide) rfl, RowF.cell icBest_len h.best hs (j := 4) (by decide) rfl⟩
theorem Prs.nCell (h : Prs e o xs vl Fl gp gb gt gn N K w) {s : Nat} (hs : s < N) : w.cell? ⟨gn, s, none⟩ = some (.int .i64 (K s).ways) := by
 have := RowF.cell icN_len h.count hs (j := 0) (by decide) (u := .int .i64 (K s).ways) rfl
 rwa [Nat.mul_one, Nat.add_zero] at this
/-- A number is stored. -/
theorem Prs.putN (h : Prs e o xs vl Fl gp gb gt gn N K w) {s : Nat} (hs : s < N) (n : Int) : Prs e o xs vl Fl gp gb gt gn N (updF K s { K s with ways := n }) (w.setCell ⟨gn, s, none⟩ (.int .i64 n)) := by
 obtain ⟨_, _, n1, _, n2, n3⟩ := h.ne
 have hc := RowF.set icN_len h.count hs (j := 0) (by decide) (.int .i64 n) (a := { K s with ways := n }) rfl
 rw [Nat.mul_one, Nat.add_zero] at hc
 refine ⟨h.row.far (p := ⟨gn, s, none⟩) n1 _, h.syms.setCell (p := ⟨gn, s, none⟩) (fun hb => h.dis _ hb (by simp)) _, ?_, ?_, hc, h.nd, h.dis⟩
 · rw [rowF_same K s (by rfl)]; exact h.boxes.far (p := ⟨gn, s, none⟩) n2 _
 · rw [rowF_same K s (by rfl)]; exact h.best.far (p := ⟨gn, s, none⟩) n3 _
/-- A choice is stored. -/
theorem Prs.putBest (h : Prs e o xs vl Fl gp gb gt gn N K w) {s : Nat} (hs : s < N) (k g a b c : Int) : Prs e o xs vl Fl gp gb gt gn N (updF K s { K s with kind := k, sign := g, first := a, rest := b, cost := c })
 (((((w.setCell ⟨gt, s * 5, none⟩ (.int .i64 k)).setCell ⟨gt, s * 5 + 1, none⟩ (.int .i64 g)).setCell ⟨gt, s * 5 + 2, none⟩ (.int .i64 a)).setCell ⟨gt, s * 5 + 3, none⟩ (.int .i64 b)).setCell ⟨gt, s * 5 + 4, none⟩ (.int .i64 c)) := by
 obtain ⟨_, n1, _, n2, _, n3⟩ := h.ne
 have q0 := RowF.set icBest_len h.best hs (j := 0) (by decide) (.int .i64 k) (a := { K s with kind := k }) rfl
 have q1 := RowF.set icBest_len q0 hs (j := 1) (by decide) (.int .i64 g) (a := { K s with kind := k, sign := g }) (by rw [updF_same]; rfl)
 have q2 := RowF.set icBest_len q1 hs (j := 2) (by decide) (.int .i64 a) (a := { K s with kind := k, sign := g, first := a }) (by rw [updF_same]; rfl)
 have q3 := RowF.set icBest_len q2 hs (j := 3) (by decide) (.int .i64 b) (a := { K s with kind := k, sign := g, first := a, rest := b }) (by rw [updF_same]; rfl)
 have q4 := RowF.set icBest_len q3 hs (j := 4) (by decide) (.int .i64 c) (a := { K s with kind := k, sign := g, first := a, rest := b, cost := c }) (by rw [updF_same]; rfl)
 rw [updF_upd, updF_upd, updF_upd, updF_upd] at q4
 have fd : gt ∉ Fl := fun hb => h.dis _ hb (by simp)
 refine ⟨((((h.row.far (p := ⟨gt, _, none⟩) n1 _).far (p := ⟨gt, _, none⟩) n1 _).far (p := ⟨gt, _, none⟩) n1 _).far (p := ⟨gt, _, none⟩) n1 _).far (p := ⟨gt, _, none⟩) n1 _, ((((h.syms.setCell (p := ⟨gt, _, none⟩) fd _).setCell (p := ⟨gt, _, none⟩) fd _).setCell (p := ⟨gt, _, none⟩) fd _).setCell (p := ⟨gt, _, none⟩) fd _).setCell (p := ⟨gt, _, none⟩) fd _, ?_, q4, ?_, h.nd, h.dis⟩
 · rw [rowF_same K s (by rfl)]
   exact ((((h.boxes.far (p := ⟨gt, _, none⟩) n2 _).far (p := ⟨gt, _, none⟩) n2 _).far (p := ⟨gt, _, none⟩) n2 _).far (p := ⟨gt, _, none⟩) n2 _).far (p := ⟨gt, _, none⟩) n2 _
 · rw [rowF_same K s (by rfl)]
   exact ((((h.count.far (p := ⟨gt, _, none⟩) (Ne.symm n3) _).far (p := ⟨gt, _, none⟩) (Ne.symm n3) _).far (p := ⟨gt, _, none⟩) (Ne.symm n3) _).far (p := ⟨gt, _, none⟩) (Ne.symm n3) _).far (p := ⟨gt, _, none⟩) (Ne.symm n3) _
/-- A box is stored. -/
theorem Prs.putBox (h : Prs e o xs vl Fl gp gb gt gn N K w) {s : Nat} (hs : s < N) (X : PBox) : Prs e o xs vl Fl gp gb gt gn N (updF K s { K s with box := X })
 ((((w.setCell ⟨gb, s * 4, none⟩ (.int .i64 X.x1)).setCell ⟨gb, s * 4 + 1, none⟩ (.int .i64 X.y1)).setCell ⟨gb, s * 4 + 2, none⟩ (.int .i64 X.x2)).setCell ⟨gb, s * 4 + 3, none⟩ (.int .i64 X.y2)) := by
 obtain ⟨n1, _, _, n2, n3, _⟩ := h.ne
 have q0 := RowF.set icBox_len h.boxes hs (j := 0) (by decide) (.int .i64 X.x1) (a := { K s with box := { (K s).box with x1 := X.x1 } }) rfl
 have q1 := RowF.set icBox_len q0 hs (j := 1) (by decide) (.int .i64 X.y1) (a := { K s with box := { (K s).box with x1 := X.x1, y1 := X.y1 } }) (by rw [updF_same]; rfl)
 have q2 := RowF.set icBox_len q1 hs (j := 2) (by decide) (.int .i64 X.x2) (a := { K s with box := { (K s).box with x1 := X.x1, y1 := X.y1, x2 := X.x2 } }) (by rw [updF_same]; rfl)
 have q3 := RowF.set icBox_len q2 hs (j := 3) (by decide) (.int .i64 X.y2) (a := { K s with box := X }) (by rw [updF_same]; rfl)
 rw [updF_upd, updF_upd, updF_upd] at q3
 have fd : gb ∉ Fl := fun hb => h.dis _ hb (by simp)
 refine ⟨(((h.row.far (p := ⟨gb, _, none⟩) n1 _).far (p := ⟨gb, _, none⟩) n1 _).far (p := ⟨gb, _, none⟩) n1 _).far (p := ⟨gb, _, none⟩) n1 _, (((h.syms.setCell (p := ⟨gb, _, none⟩) fd _).setCell (p := ⟨gb, _, none⟩) fd _).setCell (p := ⟨gb, _, none⟩) fd _).setCell (p := ⟨gb, _, none⟩) fd _, q3, ?_, ?_, h.nd, h.dis⟩
 · rw [rowF_same K s (by rfl)]
   exact (((h.best.far (p := ⟨gb, _, none⟩) (Ne.symm n2) _).far (p := ⟨gb, _, none⟩) (Ne.symm n2) _).far (p := ⟨gb, _, none⟩) (Ne.symm n2) _).far (p := ⟨gb, _, none⟩) (Ne.symm n2) _
 · rw [rowF_same K s (by rfl)]
   exact (((h.count.far (p := ⟨gb, _, none⟩) (Ne.symm n3) _).far (p := ⟨gb, _, none⟩) (Ne.symm n3) _).far (p := ⟨gb, _, none⟩) (Ne.symm n3) _).far (p := ⟨gb, _, none⟩) (Ne.symm n3) _
end
/-- What the program's try makes of a cell. -/
def tryI (A B M : RC) (kind sign first rest : Int) (SB : PBox) : RC :=
 if waysR A B rest = 0 ∨ fitsF kind A.box (if rest = 0 then A.box else B.box) SB = false then M
 else if M.ways = 0 ∨ ordC kind sign first (A.cost + (if rest = 0 then 0 else B.cost) + ownF kind A.box (if rest = 0 then A.box else B.box) SB) M.kind M.sign M.first M.cost < 0 then ⟨M.box, M.ways + waysR A B rest, A.cost + (if rest = 0 then 0 else B.cost) + ownF kind A.box (if rest = 0 then A.box else B.box) SB, kind, sign, first, rest⟩
 else { M with ways := M.ways + waysR A B rest }
end Go.Proofs.Ytmopioaojdlnkaa
