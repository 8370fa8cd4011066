/- Events as text: names, and numbers joined. Conditions: none. -/
import Derived.Test.YtleamhkfniidjaaDoorPoss2
import Derived.Test.YtleamhkfniidjaaDoorDec
import Derived.Test.YtleamhkfniidjaaDoorIntS
namespace Go.Proofs.YtleamhkfniidjaaDoor
open Go Go.RowKit

def nameB (k : Int) : ByteArray := if k = 1 then ⟨#[100, 111, 119, 110]⟩ else if k = 2 then ⟨#[109, 111, 118, 101]⟩ else if k = 3 then ⟨#[117, 112]⟩ else ⟨#[112, 97, 117, 115, 101]⟩
set_option maxHeartbeats 400000 in
theorem impl_eventName_c (k : Int) (w : World) (hk : (k = 1 ∨ k = 2) ∨ (k = 3 ∨ k = 4)) :
    Calls Tryd.prog 14 #[.int .i64 k] w fun en w' => en = .returned (.string (nameB k)) ∧ Below w.heap.size w w' := by
  rcases hk with (rfl | rfl) | (rfl | rfl)
  all_goals
    go_enter Tryd.func14, Tryd.ntmps14
    go_wp2_with fail
    go_ret
    exact ⟨rfl, (Below.refl _ _).alloc (Nat.le_refl _) _⟩
/-- The first k numbers, joined by blanks. -/
def joinK (xs : List Nat) : Nat → ByteArray
  | 0 => .empty
  | k + 1 => (if k = 0 then joinK xs k else joinK xs k ++ ⟨#[32]⟩) ++ decB (xs.getD k 0)
theorem joinK_size {xs : List Nat} (h : ∀ x ∈ xs, x ≤ 9223372036854775807) : ∀ k, (joinK xs k).size ≤ k * 20
  | 0 => by simp [joinK]
  | k + 1 => by
    have h1 := joinK_size h k
    have h2 : (decB (xs.getD k 0)).size ≤ 19 := decB_size (by
      rw [List.getD_eq_getElem?_getD]
      by_cases hk : k < xs.length
      · rw [List.getElem?_eq_getElem hk]; exact h _ (List.getElem_mem hk)
      · rw [List.getElem?_eq_none (by omega)]; simp)
    rw [joinK]
    generalize decB (xs.getD k 0) = d at h2
    have e1 : (ByteArray.mk #[32]).size = 1 := rfl
    split <;> simp only [ByteArray.size_append] <;> omega
set_option maxRecDepth 100000 in
set_option maxHeartbeats 1000000 in
theorem spec_l03Join_c {o : Bool} {e : TypeId} {xs : List Nat} {v : Value} {F : List Nat} (w : World) (h : (nums e).rep o w (xs.map fun x : Nat => (x : Int)) [v] F) (hx : xs.length ≤ 1000) (hs : ∀ x ∈ xs, x ≤ 9223372036854775807) :
    Calls Tryd.prog 22 #[v, .string ⟨#[32]⟩] w fun en w' => en = .returned (.string (joinK xs xs.length)) ∧ Below w.heap.size w w' := by
  obtain ⟨A, c, hv, hc1, hc2, hr⟩ := nums_open h
  rw [List.length_map] at hv hc1
  subst hv
  clear h
  go_enter Tryd.func22, Tryd.ntmps22
  go_wp2_with fail
  go_loopw [5, 6] (fun ov i wr => ∃ k : Nat, k ≤ xs.length ∧ i = .int .i64 k ∧ ov = .string (joinK xs k) ∧ Below w.heap.size w wr) (fun _ i _ => xs.length - (intOf i).toNat)
  case atStart => exact ⟨0, Nat.zero_le _, rfl, rfl, Below.refl _ _⟩
  case round =>
    obtain ⟨k, hk, rfl, rfl, hb⟩ := hrel
    have hbs := hb.size
    by_cases hlt : k < xs.length
    · obtain ⟨b, off, rfl, hbb, _, h0, _⟩ := hr k (by simpa using hlt)
      rw [← hb.cell (p := ⟨b, _, none⟩) hbb] at h0
      rw [List.getElem_map] at h0
      have C := Lib.hid (spec_l01Dec_c xs[k] wr (hs _ (List.getElem_mem hlt)))
      have hg : xs.getD k 0 = xs[k] := by simp [List.getD_eq_getElem?_getD, List.getElem?_eq_getElem hlt]
      have hsz := joinK_size hs k
      have hdz : (decB xs[k]).size ≤ 19 := decB_size (hs _ (List.getElem_mem hlt))
      by_cases hz : k = 0
      · have hstep : joinK xs (k + 1) = joinK xs k ++ decB xs[k] := by rw [joinK, if_pos hz, hg]
        have g0 : (0 < k) = False := eq_false (by omega)
        have HS := Lib.hid hstep
        clear hr hz hstep hg hs
        go_wp2_with fail
        refine C.out.mono ?_
        rintro en w1 ⟨rfl, b1⟩
        go_wp2_with fail
        go_roundw
        case rel => exact ⟨k + 1, by omega, by go_num, by rw [HS.out], hb.trans (b1.mono hbs)⟩
        case measure => simp [intOf]; omega
      · have hstep : joinK xs (k + 1) = (joinK xs k ++ ⟨#[32]⟩) ++ decB xs[k] := by rw [joinK, if_neg hz, hg]
        have g0 : (0 < k) = True := eq_true (by omega)
        have HS := Lib.hid hstep
        clear hr hz hstep hg hs
        go_wp2_with fail
        refine C.out.mono ?_
        rintro en w1 ⟨rfl, b1⟩
        go_wp2_with fail
        go_roundw
        case rel => exact ⟨k + 1, by omega, by go_num, by rw [HS.out], hb.trans (b1.mono hbs)⟩
        case measure => simp [intOf]; omega
    · obtain rfl : k = xs.length := by omega
      go_wp2_with fail
      go_ret
      exact ⟨rfl, hb⟩
/-- An event's text. -/
def evText (e : PEvent) : ByteArray :=
  if possB e then
    if e.kind = 1 ∨ e.kind = 2 then nameB e.kind ++ ⟨#[32]⟩ ++ decB e.x.toNat ++ ⟨#[32]⟩ ++ decB e.y.toNat ++ ⟨#[32]⟩ ++ decB e.t.toNat
    else nameB e.kind ++ ⟨#[32]⟩ ++ decB e.t.toNat
  else .empty
theorem joinK_three (a b c : Nat) : joinK [a, b, c] 3 = decB a ++ ⟨#[32]⟩ ++ decB b ++ ⟨#[32]⟩ ++ decB c := by
  simp [joinK, ByteArray.append_assoc]
set_option maxRecDepth 100000 in
set_option maxHeartbeats 2000000 in
theorem spec_l26Text_c (e : PEvent) {g : Nat} (w : World) (R : Row w g 25 [.int .i64 e.kind, .int .i64 e.x, .int .i64 e.y, .int .i64 e.t]) (hp : possB e = true) :
    Calls Tryd.prog 12 #[.pointer (some ⟨g, 0, none⟩)] w fun en w' => en = .returned (.string (evText e)) ∧ Below w.heap.size w w' := by
  have ht := possB_t hp
  have hxy := possB_xy hp
  have hk := possB_kind hp
  obtain ⟨kind, x, y, t⟩ := e
  dsimp only at ht hxy hk R
  obtain ⟨nx, rfl⟩ : ∃ n : Nat, x = (n : Int) := ⟨x.toNat, by omega⟩
  obtain ⟨ny, rfl⟩ : ∃ n : Nat, y = (n : Int) := ⟨y.toNat, by omega⟩
  obtain ⟨nt, rfl⟩ : ∃ n : Nat, t = (n : Int) := ⟨t.toNat, by omega⟩
  have c0 := R.cell' (i := 0) rfl
  have c1 := R.cell' (i := 1) rfl
  have c2 := R.cell' (i := 2) rfl
  have c3 := R.cell' (i := 3) rfl
  have CD := Lib.hid (fun w' => spec_l01Dec_c nt w' (by omega))
  have al : Below w.heap.size w (w.alloc (.cells #[.int .i64 (nx : Int), .int .i64 (ny : Int), .int .i64 (nt : Int)] 2)).drew := ((Below.refl _ _).alloc (Nat.le_refl _) _).drew
  have HR : (nums 2).rep true (w.alloc (.cells #[.int .i64 (nx : Int), .int .i64 (ny : Int), .int .i64 (nt : Int)] 2)).drew ([nx, ny, nt].map fun n : Nat => (n : Int)) [.slice (some ⟨w.heap.size, 0, none⟩) 3 3] [w.heap.size] :=
    slice_of_row (xs := [nx, ny, nt].map fun n : Nat => (n : Int)) (Row.new w _ _).drew (repL_nums _ (by intro s hs; simp at hs; rcases hs with rfl | rfl | rfl <;> constructor <;> omega)) (by simp [maxLen])
  have CJ := spec_l03Join_c _ HR (by simp) (by intro s hs; simp at hs; rcases hs with rfl | rfl | rfl <;> omega)
  rw [show [nx, ny, nt].length = 3 from rfl, joinK_three] at CJ
  have HJ := Lib.hid CJ
  have hv : evText ⟨kind, nx, ny, nt⟩ = if kind = 1 ∨ kind = 2 then nameB kind ++ ⟨#[32]⟩ ++ decB nx ++ ⟨#[32]⟩ ++ decB ny ++ ⟨#[32]⟩ ++ decB nt else nameB kind ++ ⟨#[32]⟩ ++ decB nt := by
    rw [evText, if_pos hp]; simp
  rw [hv]
  have zt := decB_size (n := nt) (by omega)
  have zx := decB_size (n := nx) (by omega)
  have zy := decB_size (n := ny) (by omega)
  have zs : (9223372036854775807 < 5 + ((decB nx).size + 1 + (decB ny).size + 1 + (decB nt).size)) = False := eq_false (by omega)
  clear hv CJ HR hp ht hxy
  rcases hk with (rfl | rfl) | (rfl | rfl)
  · go_enter Tryd.func12, Tryd.ntmps12
    go_wp2_with fail
    have hS : (fun w' : World => w'.cell? ⟨g, 1, none⟩ = some (.int .i64 (nx : Int)) ∧ w'.cell? ⟨g, 2, none⟩ = some (.int .i64 (ny : Int)) ∧ w'.cell? ⟨g, 3, none⟩ = some (.int .i64 (nt : Int))) w.drew := ⟨c1, c2, c3⟩
    dsimp only at hS
    refine wp_region_held_drew (S := (fun w' : World => w'.cell? ⟨g, 1, none⟩ = some (.int .i64 (nx : Int)) ∧ w'.cell? ⟨g, 2, none⟩ = some (.int .i64 (ny : Int)) ∧ w'.cell? ⟨g, 3, none⟩ = some (.int .i64 (nt : Int)))) (by kernel_rfl) hS (fun _ => ?_)
    refine wpAnyH_take (i := 0) (oi := { dst := some 9, op := Go.Op.move (Go.Operand.tmp 0), type := 33, pos := "l26_sessions.go:240", after := #[], guard := none }) (v := ?_) rfl (by kernel_rfl) (by kernel_rfl) (by kernel_rfl) (fun _ _ _ h => h) (Or.inl ⟨rfl, ?_⟩) hS ?_
    rotate_left
    · (intro w' hS'; (try dsimp only at hS'); go_simp; try with_reducible rfl)
    simp only [Act.put, List.setIfInBounds_toArray, List.set_cons_zero, List.set_cons_succ]
    refine wpAnyH_take (i := 1) (oi := { dst := some 10, op := Go.Op.nilCheck (Go.Operand.tmp 9), type := 0, pos := "l26_sessions.go:240", after := #[{ on := 0, ground := Go.Ground.data }], guard := none }) (v := ?_) rfl (by kernel_rfl) (by kernel_rfl) (by kernel_rfl) (fun _ _ _ h => h) (Or.inl ⟨rfl, ?_⟩) hS ?_
    rotate_left
    · (intro w' hS'; (try dsimp only at hS'); go_simp; try with_reducible rfl)
    simp only [Act.put, List.setIfInBounds_toArray, List.set_cons_zero, List.set_cons_succ]
    refine wpAnyH_take (i := 2) (oi := { dst := some 11, op := Go.Op.fieldAddr 25 (Go.Operand.tmp 10) 1, type := 0, pos := "l26_sessions.go:240", after := #[{ on := 1, ground := Go.Ground.data }], guard := none }) (v := ?_) rfl (by kernel_rfl) (by kernel_rfl) (by kernel_rfl) (fun _ _ _ h => h) (Or.inl ⟨rfl, ?_⟩) hS ?_
    rotate_left
    · (intro w' hS'; (try dsimp only at hS'); go_simp; try with_reducible rfl)
    simp only [Act.put, List.setIfInBounds_toArray, List.set_cons_zero, List.set_cons_succ]
    refine wpAnyH_take (i := 3) (oi := { dst := some 12, op := Go.Op.load 2 (Go.Operand.tmp 11), type := 2, pos := "l26_sessions.go:240", after := #[{ on := 2, ground := Go.Ground.data }], guard := none }) (v := ?_) rfl (by kernel_rfl) (by kernel_rfl) (by kernel_rfl) (fun _ _ _ h => h) (Or.inl ⟨rfl, ?_⟩) hS ?_
    rotate_left
    · (intro w' hS'; (try dsimp only at hS'); go_simp; try with_reducible rfl)
    simp only [Act.put, List.setIfInBounds_toArray, List.set_cons_zero, List.set_cons_succ]
    refine wpAnyH_take (i := 4) (oi := { dst := some 13, op := Go.Op.move (Go.Operand.tmp 0), type := 33, pos := "l26_sessions.go:240", after := #[], guard := none }) (v := ?_) rfl (by kernel_rfl) (by kernel_rfl) (by kernel_rfl) (fun _ _ _ h => h) (Or.inl ⟨rfl, ?_⟩) hS ?_
    rotate_left
    · (intro w' hS'; (try dsimp only at hS'); go_simp; try with_reducible rfl)
    simp only [Act.put, List.setIfInBounds_toArray, List.set_cons_zero, List.set_cons_succ]
    refine wpAnyH_take (i := 5) (oi := { dst := some 14, op := Go.Op.nilCheck (Go.Operand.tmp 13), type := 0, pos := "l26_sessions.go:240", after := #[{ on := 4, ground := Go.Ground.data }], guard := none }) (v := ?_) rfl (by kernel_rfl) (by kernel_rfl) (by kernel_rfl) (fun _ _ _ h => h) (Or.inl ⟨rfl, ?_⟩) hS ?_
    rotate_left
    · (intro w' hS'; (try dsimp only at hS'); go_simp; try with_reducible rfl)
    simp only [Act.put, List.setIfInBounds_toArray, List.set_cons_zero, List.set_cons_succ]
    refine wpAnyH_take (i := 6) (oi := { dst := some 15, op := Go.Op.fieldAddr 25 (Go.Operand.tmp 14) 2, type := 0, pos := "l26_sessions.go:240", after := #[{ on := 5, ground := Go.Ground.data }], guard := none }) (v := ?_) rfl (by kernel_rfl) (by kernel_rfl) (by kernel_rfl) (fun _ _ _ h => h) (Or.inl ⟨rfl, ?_⟩) hS ?_
    rotate_left
    · (intro w' hS'; (try dsimp only at hS'); go_simp; try with_reducible rfl)
    simp only [Act.put, List.setIfInBounds_toArray, List.set_cons_zero, List.set_cons_succ]
    refine wpAnyH_take (i := 7) (oi := { dst := some 16, op := Go.Op.load 2 (Go.Operand.tmp 15), type := 2, pos := "l26_sessions.go:240", after := #[{ on := 6, ground := Go.Ground.data }], guard := none }) (v := ?_) rfl (by kernel_rfl) (by kernel_rfl) (by kernel_rfl) (fun _ _ _ h => h) (Or.inl ⟨rfl, ?_⟩) hS ?_
    rotate_left
    · (intro w' hS'; (try dsimp only at hS'); go_simp; try with_reducible rfl)
    simp only [Act.put, List.setIfInBounds_toArray, List.set_cons_zero, List.set_cons_succ]
    refine wpAnyH_take (i := 8) (oi := { dst := some 17, op := Go.Op.move (Go.Operand.tmp 0), type := 33, pos := "l26_sessions.go:240", after := #[], guard := none }) (v := ?_) rfl (by kernel_rfl) (by kernel_rfl) (by kernel_rfl) (fun _ _ _ h => h) (Or.inl ⟨rfl, ?_⟩) hS ?_
    rotate_left
    · (intro w' hS'; (try dsimp only at hS'); go_simp; try with_reducible rfl)
    simp only [Act.put, List.setIfInBounds_toArray, List.set_cons_zero, List.set_cons_succ]
    refine wpAnyH_take (i := 9) (oi := { dst := some 18, op := Go.Op.nilCheck (Go.Operand.tmp 17), type := 0, pos := "l26_sessions.go:240", after := #[{ on := 8, ground := Go.Ground.data }], guard := none }) (v := ?_) rfl (by kernel_rfl) (by kernel_rfl) (by kernel_rfl) (fun _ _ _ h => h) (Or.inl ⟨rfl, ?_⟩) hS ?_
    rotate_left
    · (intro w' hS'; (try dsimp only at hS'); go_simp; try with_reducible rfl)
    simp only [Act.put, List.setIfInBounds_toArray, List.set_cons_zero, List.set_cons_succ]
    refine wpAnyH_take (i := 10) (oi := { dst := some 19, op := Go.Op.fieldAddr 25 (Go.Operand.tmp 18) 3, type := 0, pos := "l26_sessions.go:240", after := #[{ on := 9, ground := Go.Ground.data }], guard := none }) (v := ?_) rfl (by kernel_rfl) (by kernel_rfl) (by kernel_rfl) (fun _ _ _ h => h) (Or.inl ⟨rfl, ?_⟩) hS ?_
    rotate_left
    · (intro w' hS'; (try dsimp only at hS'); go_simp; try with_reducible rfl)
    simp only [Act.put, List.setIfInBounds_toArray, List.set_cons_zero, List.set_cons_succ]
    refine wpAnyH_take (i := 11) (oi := { dst := some 20, op := Go.Op.load 2 (Go.Operand.tmp 19), type := 2, pos := "l26_sessions.go:240", after := #[{ on := 10, ground := Go.Ground.data }], guard := none }) (v := ?_) rfl (by kernel_rfl) (by kernel_rfl) (by kernel_rfl) (fun _ _ _ h => h) (Or.inl ⟨rfl, ?_⟩) hS ?_
    rotate_left
    · (intro w' hS'; (try dsimp only at hS'); go_simp; try with_reducible rfl)
    simp only [Act.put, List.setIfInBounds_toArray, List.set_cons_zero, List.set_cons_succ]
    refine wpAnyH_ready (rs := [12]) (by kernel_rfl) (by simp) ?_
    refine AllReadyH.cons (o := { dst := some 21, op := Go.Op.buildSlice 39 3 #[(0, Go.Operand.tmp 12), (1, Go.Operand.tmp 16), (2, Go.Operand.tmp 20)], type := 39, pos := "l26_sessions.go:240", after := #[{ on := 3, ground := Go.Ground.data }, { on := 7, ground := Go.Ground.data }, { on := 11, ground := Go.Ground.data }], guard := none }) rfl (fun K hK => ?_) .nil
    go_simp
    have R2 := (R.alloc (.cells #[.int .i64 (nx : Int), .int .i64 (ny : Int), .int .i64 (nt : Int)] 2)).drew
    replace hS : (fun w' : World => w'.cell? ⟨g, 1, none⟩ = some (.int .i64 (nx : Int)) ∧ w'.cell? ⟨g, 2, none⟩ = some (.int .i64 (ny : Int)) ∧ w'.cell? ⟨g, 3, none⟩ = some (.int .i64 (nt : Int))) (w.alloc (.cells #[.int .i64 (nx : Int), .int .i64 (ny : Int), .int .i64 (nt : Int)] 2)).drew := ⟨R2.cell' (i := 1) rfl, R2.cell' (i := 2) rfl, R2.cell' (i := 3) rfl⟩
    dsimp only at hS
    refine hK.out _ _ ?_ (fun hHeld => ?_)
    · exact hS
    clear hK K hHeld
    refine wpAnyH_ready (rs := [13]) (by kernel_rfl) (by simp) ?_
    refine AllReadyH.cons (o := { dst := some 22, op := Go.Op.call { callee := Go.Callee.value (Go.Operand.func 22), args := #[Go.Operand.tmp 21, Go.Operand.const (Go.Value.string { data := #[32] })], argTypes := #[39, 9] }, type := 9, pos := "l26_sessions.go:240", after := #[{ on := 12, ground := Go.Ground.data }], guard := none }) rfl (fun K hK => ?_) .nil
    refine step_call 22 #[Go.Operand.tmp 21, Go.Operand.const (Go.Value.string { data := #[32] })] _ rfl rfl #[.slice (some ⟨w.heap.size, 0, none⟩) 3 3, .string ⟨#[32]⟩] Tryd.call22 (by go_simp) HJ.out ?_
    rintro en w1 ⟨rfl, b1⟩
    refine ⟨_, rfl, ?_⟩
    have R3 := R2.later b1
    replace hS : (fun w' : World => w'.cell? ⟨g, 1, none⟩ = some (.int .i64 (nx : Int)) ∧ w'.cell? ⟨g, 2, none⟩ = some (.int .i64 (ny : Int)) ∧ w'.cell? ⟨g, 3, none⟩ = some (.int .i64 (nt : Int))) w1 := ⟨R3.cell' (i := 1) rfl, R3.cell' (i := 2) rfl, R3.cell' (i := 3) rfl⟩
    dsimp only at hS
    refine hK.out _ _ ?_ (fun hHeld => ?_)
    · exact hS
    clear hK K hHeld
    simp only [Act.put, List.setIfInBounds_toArray, List.set_cons_zero, List.set_cons_succ]
    refine wpAnyH_take (i := 14) (oi := { dst := some 23, op := Go.Op.binOp Go.BinOp.add 9 (Go.Operand.const (Go.Value.string { data := #[100, 111, 119, 110, 32] })) (Go.Operand.tmp 22) 9, type := 9, pos := "l26_sessions.go:240", after := #[{ on := 13, ground := Go.Ground.data }], guard := none }) (v := ?_) rfl (by kernel_rfl) (by kernel_rfl) (by kernel_rfl) (fun _ _ _ h => h) (Or.inl ⟨rfl, ?_⟩) hS ?_
    rotate_left
    · (intro w' hS'; (try dsimp only at hS'); go_simp; try with_reducible rfl)
    simp only [Act.put, List.setIfInBounds_toArray, List.set_cons_zero, List.set_cons_succ]
    refine wpAnyH_take (i := 15) (oi := { dst := some 2, op := Go.Op.assign (Go.Operand.tmp 23), type := 9, pos := "l26_sessions.go:240", after := #[{ on := 14, ground := Go.Ground.data }, { on := 13, ground := Go.Ground.chain }, { on := 0, ground := Go.Ground.phase }, { on := 1, ground := Go.Ground.phase }, { on := 2, ground := Go.Ground.phase }, { on := 3, ground := Go.Ground.phase }, { on := 4, ground := Go.Ground.phase }, { on := 5, ground := Go.Ground.phase }, { on := 6, ground := Go.Ground.phase }, { on := 7, ground := Go.Ground.phase }, { on := 8, ground := Go.Ground.phase }, { on := 9, ground := Go.Ground.phase }, { on := 10, ground := Go.Ground.phase }, { on := 11, ground := Go.Ground.phase }, { on := 12, ground := Go.Ground.phase }, { on := 13, ground := Go.Ground.phase }, { on := 14, ground := Go.Ground.phase }], guard := none }) (v := ?_) rfl (by kernel_rfl) (by kernel_rfl) (by kernel_rfl) (fun _ _ _ h => h) (Or.inl ⟨rfl, ?_⟩) hS ?_
    rotate_left
    · (intro w' hS'; (try dsimp only at hS'); go_simp; try with_reducible rfl)
    simp only [Act.put, List.setIfInBounds_toArray, List.set_cons_zero, List.set_cons_succ]
    refine wpAnyH_done (by kernel_rfl) ?_ _
    go_wp2_with fail
    go_ret
    exact ⟨by simp [nameB, ByteArray.append_assoc]; rfl, al.trans (b1.mono (by simp))⟩
  · go_enter Tryd.func12, Tryd.ntmps12
    go_wp2_with fail
    have hS : (fun w' : World => w'.cell? ⟨g, 1, none⟩ = some (.int .i64 (nx : Int)) ∧ w'.cell? ⟨g, 2, none⟩ = some (.int .i64 (ny : Int)) ∧ w'.cell? ⟨g, 3, none⟩ = some (.int .i64 (nt : Int))) w.drew := ⟨c1, c2, c3⟩
    dsimp only at hS
    refine wp_region_held_drew (S := (fun w' : World => w'.cell? ⟨g, 1, none⟩ = some (.int .i64 (nx : Int)) ∧ w'.cell? ⟨g, 2, none⟩ = some (.int .i64 (ny : Int)) ∧ w'.cell? ⟨g, 3, none⟩ = some (.int .i64 (nt : Int)))) (by kernel_rfl) hS (fun _ => ?_)
    refine wpAnyH_take (i := 0) (oi := { dst := some 26, op := Go.Op.move (Go.Operand.tmp 0), type := 33, pos := "l26_sessions.go:242", after := #[], guard := none }) (v := ?_) rfl (by kernel_rfl) (by kernel_rfl) (by kernel_rfl) (fun _ _ _ h => h) (Or.inl ⟨rfl, ?_⟩) hS ?_
    rotate_left
    · (intro w' hS'; (try dsimp only at hS'); go_simp; try with_reducible rfl)
    simp only [Act.put, List.setIfInBounds_toArray, List.set_cons_zero, List.set_cons_succ]
    refine wpAnyH_take (i := 1) (oi := { dst := some 27, op := Go.Op.nilCheck (Go.Operand.tmp 26), type := 0, pos := "l26_sessions.go:242", after := #[{ on := 0, ground := Go.Ground.data }], guard := none }) (v := ?_) rfl (by kernel_rfl) (by kernel_rfl) (by kernel_rfl) (fun _ _ _ h => h) (Or.inl ⟨rfl, ?_⟩) hS ?_
    rotate_left
    · (intro w' hS'; (try dsimp only at hS'); go_simp; try with_reducible rfl)
    simp only [Act.put, List.setIfInBounds_toArray, List.set_cons_zero, List.set_cons_succ]
    refine wpAnyH_take (i := 2) (oi := { dst := some 28, op := Go.Op.fieldAddr 25 (Go.Operand.tmp 27) 1, type := 0, pos := "l26_sessions.go:242", after := #[{ on := 1, ground := Go.Ground.data }], guard := none }) (v := ?_) rfl (by kernel_rfl) (by kernel_rfl) (by kernel_rfl) (fun _ _ _ h => h) (Or.inl ⟨rfl, ?_⟩) hS ?_
    rotate_left
    · (intro w' hS'; (try dsimp only at hS'); go_simp; try with_reducible rfl)
    simp only [Act.put, List.setIfInBounds_toArray, List.set_cons_zero, List.set_cons_succ]
    refine wpAnyH_take (i := 3) (oi := { dst := some 29, op := Go.Op.load 2 (Go.Operand.tmp 28), type := 2, pos := "l26_sessions.go:242", after := #[{ on := 2, ground := Go.Ground.data }], guard := none }) (v := ?_) rfl (by kernel_rfl) (by kernel_rfl) (by kernel_rfl) (fun _ _ _ h => h) (Or.inl ⟨rfl, ?_⟩) hS ?_
    rotate_left
    · (intro w' hS'; (try dsimp only at hS'); go_simp; try with_reducible rfl)
    simp only [Act.put, List.setIfInBounds_toArray, List.set_cons_zero, List.set_cons_succ]
    refine wpAnyH_take (i := 4) (oi := { dst := some 30, op := Go.Op.move (Go.Operand.tmp 0), type := 33, pos := "l26_sessions.go:242", after := #[], guard := none }) (v := ?_) rfl (by kernel_rfl) (by kernel_rfl) (by kernel_rfl) (fun _ _ _ h => h) (Or.inl ⟨rfl, ?_⟩) hS ?_
    rotate_left
    · (intro w' hS'; (try dsimp only at hS'); go_simp; try with_reducible rfl)
    simp only [Act.put, List.setIfInBounds_toArray, List.set_cons_zero, List.set_cons_succ]
    refine wpAnyH_take (i := 5) (oi := { dst := some 31, op := Go.Op.nilCheck (Go.Operand.tmp 30), type := 0, pos := "l26_sessions.go:242", after := #[{ on := 4, ground := Go.Ground.data }], guard := none }) (v := ?_) rfl (by kernel_rfl) (by kernel_rfl) (by kernel_rfl) (fun _ _ _ h => h) (Or.inl ⟨rfl, ?_⟩) hS ?_
    rotate_left
    · (intro w' hS'; (try dsimp only at hS'); go_simp; try with_reducible rfl)
    simp only [Act.put, List.setIfInBounds_toArray, List.set_cons_zero, List.set_cons_succ]
    refine wpAnyH_take (i := 6) (oi := { dst := some 32, op := Go.Op.fieldAddr 25 (Go.Operand.tmp 31) 2, type := 0, pos := "l26_sessions.go:242", after := #[{ on := 5, ground := Go.Ground.data }], guard := none }) (v := ?_) rfl (by kernel_rfl) (by kernel_rfl) (by kernel_rfl) (fun _ _ _ h => h) (Or.inl ⟨rfl, ?_⟩) hS ?_
    rotate_left
    · (intro w' hS'; (try dsimp only at hS'); go_simp; try with_reducible rfl)
    simp only [Act.put, List.setIfInBounds_toArray, List.set_cons_zero, List.set_cons_succ]
    refine wpAnyH_take (i := 7) (oi := { dst := some 33, op := Go.Op.load 2 (Go.Operand.tmp 32), type := 2, pos := "l26_sessions.go:242", after := #[{ on := 6, ground := Go.Ground.data }], guard := none }) (v := ?_) rfl (by kernel_rfl) (by kernel_rfl) (by kernel_rfl) (fun _ _ _ h => h) (Or.inl ⟨rfl, ?_⟩) hS ?_
    rotate_left
    · (intro w' hS'; (try dsimp only at hS'); go_simp; try with_reducible rfl)
    simp only [Act.put, List.setIfInBounds_toArray, List.set_cons_zero, List.set_cons_succ]
    refine wpAnyH_take (i := 8) (oi := { dst := some 34, op := Go.Op.move (Go.Operand.tmp 0), type := 33, pos := "l26_sessions.go:242", after := #[], guard := none }) (v := ?_) rfl (by kernel_rfl) (by kernel_rfl) (by kernel_rfl) (fun _ _ _ h => h) (Or.inl ⟨rfl, ?_⟩) hS ?_
    rotate_left
    · (intro w' hS'; (try dsimp only at hS'); go_simp; try with_reducible rfl)
    simp only [Act.put, List.setIfInBounds_toArray, List.set_cons_zero, List.set_cons_succ]
    refine wpAnyH_take (i := 9) (oi := { dst := some 35, op := Go.Op.nilCheck (Go.Operand.tmp 34), type := 0, pos := "l26_sessions.go:242", after := #[{ on := 8, ground := Go.Ground.data }], guard := none }) (v := ?_) rfl (by kernel_rfl) (by kernel_rfl) (by kernel_rfl) (fun _ _ _ h => h) (Or.inl ⟨rfl, ?_⟩) hS ?_
    rotate_left
    · (intro w' hS'; (try dsimp only at hS'); go_simp; try with_reducible rfl)
    simp only [Act.put, List.setIfInBounds_toArray, List.set_cons_zero, List.set_cons_succ]
    refine wpAnyH_take (i := 10) (oi := { dst := some 36, op := Go.Op.fieldAddr 25 (Go.Operand.tmp 35) 3, type := 0, pos := "l26_sessions.go:242", after := #[{ on := 9, ground := Go.Ground.data }], guard := none }) (v := ?_) rfl (by kernel_rfl) (by kernel_rfl) (by kernel_rfl) (fun _ _ _ h => h) (Or.inl ⟨rfl, ?_⟩) hS ?_
    rotate_left
    · (intro w' hS'; (try dsimp only at hS'); go_simp; try with_reducible rfl)
    simp only [Act.put, List.setIfInBounds_toArray, List.set_cons_zero, List.set_cons_succ]
    refine wpAnyH_take (i := 11) (oi := { dst := some 37, op := Go.Op.load 2 (Go.Operand.tmp 36), type := 2, pos := "l26_sessions.go:242", after := #[{ on := 10, ground := Go.Ground.data }], guard := none }) (v := ?_) rfl (by kernel_rfl) (by kernel_rfl) (by kernel_rfl) (fun _ _ _ h => h) (Or.inl ⟨rfl, ?_⟩) hS ?_
    rotate_left
    · (intro w' hS'; (try dsimp only at hS'); go_simp; try with_reducible rfl)
    simp only [Act.put, List.setIfInBounds_toArray, List.set_cons_zero, List.set_cons_succ]
    refine wpAnyH_ready (rs := [12]) (by kernel_rfl) (by simp) ?_
    refine AllReadyH.cons (o := { dst := some 38, op := Go.Op.buildSlice 39 3 #[(0, Go.Operand.tmp 29), (1, Go.Operand.tmp 33), (2, Go.Operand.tmp 37)], type := 39, pos := "l26_sessions.go:242", after := #[{ on := 3, ground := Go.Ground.data }, { on := 7, ground := Go.Ground.data }, { on := 11, ground := Go.Ground.data }], guard := none }) rfl (fun K hK => ?_) .nil
    go_simp
    have R2 := (R.alloc (.cells #[.int .i64 (nx : Int), .int .i64 (ny : Int), .int .i64 (nt : Int)] 2)).drew
    replace hS : (fun w' : World => w'.cell? ⟨g, 1, none⟩ = some (.int .i64 (nx : Int)) ∧ w'.cell? ⟨g, 2, none⟩ = some (.int .i64 (ny : Int)) ∧ w'.cell? ⟨g, 3, none⟩ = some (.int .i64 (nt : Int))) (w.alloc (.cells #[.int .i64 (nx : Int), .int .i64 (ny : Int), .int .i64 (nt : Int)] 2)).drew := ⟨R2.cell' (i := 1) rfl, R2.cell' (i := 2) rfl, R2.cell' (i := 3) rfl⟩
    dsimp only at hS
    refine hK.out _ _ ?_ (fun hHeld => ?_)
    · exact hS
    clear hK K hHeld
    refine wpAnyH_ready (rs := [13]) (by kernel_rfl) (by simp) ?_
    refine AllReadyH.cons (o := { dst := some 39, op := Go.Op.call { callee := Go.Callee.value (Go.Operand.func 22), args := #[Go.Operand.tmp 38, Go.Operand.const (Go.Value.string { data := #[32] })], argTypes := #[39, 9] }, type := 9, pos := "l26_sessions.go:242", after := #[{ on := 12, ground := Go.Ground.data }], guard := none }) rfl (fun K hK => ?_) .nil
    refine step_call 22 #[Go.Operand.tmp 38, Go.Operand.const (Go.Value.string { data := #[32] })] _ rfl rfl #[.slice (some ⟨w.heap.size, 0, none⟩) 3 3, .string ⟨#[32]⟩] Tryd.call22 (by go_simp) HJ.out ?_
    rintro en w1 ⟨rfl, b1⟩
    refine ⟨_, rfl, ?_⟩
    have R3 := R2.later b1
    replace hS : (fun w' : World => w'.cell? ⟨g, 1, none⟩ = some (.int .i64 (nx : Int)) ∧ w'.cell? ⟨g, 2, none⟩ = some (.int .i64 (ny : Int)) ∧ w'.cell? ⟨g, 3, none⟩ = some (.int .i64 (nt : Int))) w1 := ⟨R3.cell' (i := 1) rfl, R3.cell' (i := 2) rfl, R3.cell' (i := 3) rfl⟩
    dsimp only at hS
    refine hK.out _ _ ?_ (fun hHeld => ?_)
    · exact hS
    clear hK K hHeld
    simp only [Act.put, List.setIfInBounds_toArray, List.set_cons_zero, List.set_cons_succ]
    refine wpAnyH_take (i := 14) (oi := { dst := some 40, op := Go.Op.binOp Go.BinOp.add 9 (Go.Operand.const (Go.Value.string { data := #[109, 111, 118, 101, 32] })) (Go.Operand.tmp 39) 9, type := 9, pos := "l26_sessions.go:242", after := #[{ on := 13, ground := Go.Ground.data }], guard := none }) (v := ?_) rfl (by kernel_rfl) (by kernel_rfl) (by kernel_rfl) (fun _ _ _ h => h) (Or.inl ⟨rfl, ?_⟩) hS ?_
    rotate_left
    · (intro w' hS'; (try dsimp only at hS'); go_simp; try with_reducible rfl)
    simp only [Act.put, List.setIfInBounds_toArray, List.set_cons_zero, List.set_cons_succ]
    refine wpAnyH_take (i := 15) (oi := { dst := some 2, op := Go.Op.assign (Go.Operand.tmp 40), type := 9, pos := "l26_sessions.go:242", after := #[{ on := 14, ground := Go.Ground.data }, { on := 13, ground := Go.Ground.chain }, { on := 0, ground := Go.Ground.phase }, { on := 1, ground := Go.Ground.phase }, { on := 2, ground := Go.Ground.phase }, { on := 3, ground := Go.Ground.phase }, { on := 4, ground := Go.Ground.phase }, { on := 5, ground := Go.Ground.phase }, { on := 6, ground := Go.Ground.phase }, { on := 7, ground := Go.Ground.phase }, { on := 8, ground := Go.Ground.phase }, { on := 9, ground := Go.Ground.phase }, { on := 10, ground := Go.Ground.phase }, { on := 11, ground := Go.Ground.phase }, { on := 12, ground := Go.Ground.phase }, { on := 13, ground := Go.Ground.phase }, { on := 14, ground := Go.Ground.phase }], guard := none }) (v := ?_) rfl (by kernel_rfl) (by kernel_rfl) (by kernel_rfl) (fun _ _ _ h => h) (Or.inl ⟨rfl, ?_⟩) hS ?_
    rotate_left
    · (intro w' hS'; (try dsimp only at hS'); go_simp; try with_reducible rfl)
    simp only [Act.put, List.setIfInBounds_toArray, List.set_cons_zero, List.set_cons_succ]
    refine wpAnyH_done (by kernel_rfl) ?_ _
    go_wp2_with fail
    go_ret
    exact ⟨by simp [nameB, ByteArray.append_assoc]; rfl, al.trans (b1.mono (by simp))⟩
  · go_enter Tryd.func12, Tryd.ntmps12
    go_wp2_with fail
    refine (CD.out _).mono ?_
    rintro en w1 ⟨rfl, b1⟩
    go_wp2_with fail
    go_ret
    exact ⟨by simp [nameB]; rfl, b1⟩
  · go_enter Tryd.func12, Tryd.ntmps12
    go_wp2_with fail
    refine (CD.out _).mono ?_
    rintro en w1 ⟨rfl, b1⟩
    go_wp2_with fail
    go_ret
    exact ⟨by simp [nameB]; rfl, b1⟩
end Go.Proofs.YtleamhkfniidjaaDoor
