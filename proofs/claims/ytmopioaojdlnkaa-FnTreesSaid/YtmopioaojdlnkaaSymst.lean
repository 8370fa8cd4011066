/- Symbols: which are valid, in the program and in the reference. Conditions: none. -/
import Derived.Test.YtmopioaojdlnkaaTree1t
import Derived.Test.YtmopioaojdlnkaaCost2t
import Derived.Test.YtmopioaojdlnkaaInt
import Derived.Test.YtmopioaojdlnkaaStrSt
import Derived.Test.YtmopioaojdlnkaaMarkt
namespace Go.Proofs.Ytmopioaojdlnkaa
open Go Go.RowKit
def symOkB (s : PSymbol) : Bool := labelB s.label && boxOkB (boxOf s)
def symsOkB (xs : List PSymbol) : Bool := xs.all symOkB && decide (xs.length ≤ 8)
def FoundSym (b : Bool) (w : World) (e : Ending) (w' : World) : Prop := ∃ r : Int, e = .returned (.int .i64 r) ∧ (decide (0 ≤ r)) = b ∧ Below w.heap.size w w'
set_option maxHeartbeats 400000 in
theorem impl_ValidSymbols1_c (s : PSymbol) (w : World) (hs : s.label.size ≤ 1048576) :
 Calls Try.prog 48 #[.agg #[.string s.label, .int .i64 s.x1, .int .i64 s.y1, .int .i64 s.x2, .int .i64 s.y2]] w fun e w' => e = .returned (.bool (!symOkB s)) ∧ Below w.heap.size w w' := by
 have C1 := fun w' => impl_IsLabel_c s.label w' hs
 have C2 := fun w' => impl_ValidBox_c (boxOf s) w'
 unfold symOkB
 generalize labelB s.label = a at C1 ⊢
 generalize boxOkB (boxOf s) = b at C2 ⊢
 have H1 := Lib.hid C1
 have H2 := Lib.hid C2
 clear C1 C2
 have al : ∀ x : Obj, Below w.heap.size w (w.alloc x) := fun x => (Below.refl _ _).alloc (Nat.le_refl _) x
 cases a
 · go_enter Try.func48, Try.ntmps48
   go_wp2_with fail
   refine (H1.out _).mono ?_
   rintro e w1 ⟨rfl, rfl⟩
   go_wp2_with fail
   go_ret
   exact ⟨rfl, al _⟩
 · go_enter Try.func48, Try.ntmps48
   go_wp2_with fail
   refine (H1.out _).mono ?_
   rintro e w1 ⟨rfl, rfl⟩
   go_wp2_with fail
   refine (H2.out _).mono ?_
   rintro e w1 ⟨rfl, rfl⟩
   go_wp2_with fail
   go_ret
   exact ⟨ret_boolI (by simp), (al _).alloc (by simp) _⟩
set_option maxRecDepth 100000 in
set_option maxHeartbeats 400000 in
theorem IndexFunc_sym {o : Bool} {e : TypeId} {xs : List PSymbol} {v : Value} {F : List Nat} (K : FuncId) (p : PSymbol → Bool) (w : World) (h : (pSymbols e).rep o w xs [v] F) (hx : xs.length ≤ 1048576)
 (hK : ∀ args w, (callFunc K args).run Try.prog w = .ok (.enter K args) w) (hf : ∀ s ∈ xs, ∀ w : World, Calls Try.prog K #[.agg #[.string s.label, .int .i64 s.x1, .int .i64 s.y1, .int .i64 s.x2, .int .i64 s.y2]] w fun e w' => e = .returned (.bool (p s)) ∧ Below w.heap.size w w') :
 Calls Try.prog 64 #[v, .func (.func K) #[] #[]] w (FoundSym (xs.any p) w) := by
 obtain ⟨A, c, rfl, hc1, hc2, hr⟩ := pSymbols_open h
 clear h
 have HF := Lib.hid hf
 clear hf
 go_enter Try.func64, Try.ntmps64
 go_wp2_with fail
 go_loopw [8] (fun i wr => ∃ k : Nat, k ≤ xs.length ∧ i = .int .i64 k ∧ Hid ((xs.take k).any p = false) ∧ Below w.heap.size w wr) (fun i _ => xs.length - (intOf i).toNat)
 case atStart => exact ⟨0, Nat.zero_le _, rfl, rfl, Below.refl _ _⟩
 case round =>
  obtain ⟨k, hk, rfl, hno, hb⟩ := hrel
  have hbs := hb.size
  by_cases hlt : k < xs.length
  · obtain ⟨b, off, rfl, hbb, _, h0, h1, h2, h3, h4, _⟩ := hr k hlt
    rw [← hb.cell (p := ⟨b, _, none⟩) hbb] at h0 h1 h2 h3 h4
    clear hr
    go_wp2_with fail
    refine (HF.out xs[k] (List.getElem_mem hlt) _).mono ?_
    rintro e w1 ⟨rfl, hb1⟩
    cases hp : p xs[k]
    · have HP := Lib.hid hp
      clear hp
      go_wp2_with fail
      go_roundw
      case rel => exact ⟨k + 1, by omega, by go_num, (by show _ = _; rw [List.take_succ_eq_append_getElem hlt, List.any_append, hno.out]; simp [HP.out]), hb.trans (hb1.mono hbs)⟩
      case measure => simp [intOf]; omega
    · have HP := Lib.hid hp
      clear hp
      go_wp2_with fail
      go_ret
      refine ⟨_, rfl, ?_, hb.trans (hb1.mono hbs)⟩
      have : xs.any p = true := List.any_eq_true.2 ⟨xs[k], List.getElem_mem hlt, HP.out⟩
      rw [this]; simp
  · obtain rfl : k = xs.length := by omega
    go_wp2_with fail
    go_ret
    refine ⟨_, rfl, ?_, hb⟩
    have := hno.out
    rw [List.take_length] at this
    rw [this]; rfl
set_option maxRecDepth 100000 in
set_option maxHeartbeats 400000 in
theorem ContainsFunc_sym {o : Bool} {e : TypeId} {xs : List PSymbol} {v : Value} {F : List Nat} (K : FuncId) (p : PSymbol → Bool) (w : World) (h : (pSymbols e).rep o w xs [v] F) (hx : xs.length ≤ 1048576)
 (hK : ∀ args w, (callFunc K args).run Try.prog w = .ok (.enter K args) w) (hf : ∀ s ∈ xs, ∀ w : World, Calls Try.prog K #[.agg #[.string s.label, .int .i64 s.x1, .int .i64 s.y1, .int .i64 s.x2, .int .i64 s.y2]] w fun e w' => e = .returned (.bool (p s)) ∧ Below w.heap.size w w') :
 Calls Try.prog 47 #[v, .func (.func K) #[] #[]] w fun e w' => e = .returned (.bool (xs.any p)) ∧ Below w.heap.size w w' := by
 have C := IndexFunc_sym K p w h hx hK hf
 have HC := Lib.hid C
 clear C hf hK
 go_enter Try.func47, Try.ntmps47
 go_wp2_with fail
 refine HC.out.mono ?_
 rintro e w1 ⟨r, rfl, hr, hb⟩
 go_wp2_with fail
 all_goals go_ret
 all_goals first | exact ⟨ret_boolI hr, hb⟩ | exact ⟨rfl, hb⟩
set_option maxRecDepth 100000 in
set_option maxHeartbeats 400000 in
theorem impl_ValidSymbols_c {o : Bool} {e : TypeId} {xs : List PSymbol} {v : Value} {F : List Nat} (w : World) (h : (pSymbols e).rep o w xs [v] F) (hx : xs.length ≤ 1048576) (hsz : ∀ c ∈ xs, c.label.size ≤ 1048576) :
 Calls Try.prog 29 #[v] w fun e w' => e = .returned (.bool (symsOkB xs)) ∧ Below w.heap.size w w' := by
 have C := ContainsFunc_sym 48 (fun s => !symOkB s) w h hx Try.call48 (fun s hs w => impl_ValidSymbols1_c s w (hsz s hs))
 have HC := Lib.hid C
 have HE : Hid ((!xs.any fun s => !symOkB s) = xs.all symOkB) := by show _ = _; simp [List.any_eq_not_all_not]
 obtain ⟨A, c, hv⟩ := slice_len h
 subst hv
 clear C hsz h
 by_cases hl : xs.length ≤ 8
 · have g : decide ((xs.length : Int) ≤ 8) = true := by simp; omega
   have HO := Lib.hid (show symsOkB xs = xs.all symOkB by simp [symsOkB, hl])
   go_enter Try.func29, Try.ntmps29
   go_wp2_with fail
   refine HC.out.mono ?_
   rintro e w1 ⟨rfl, hb⟩
   go_wp2_with fail
   go_ret
   exact ⟨ret_boolI (by rw [HO.out, HE.out]), hb⟩
 · have g : decide ((xs.length : Int) ≤ 8) = false := by simp; omega
   have HO := Lib.hid (show symsOkB xs = false by simp [symsOkB, hl])
   go_enter Try.func29, Try.ntmps29
   go_wp2_with fail
   go_ret
   exact ⟨ret_boolI HO.out.symm, Below.refl _ _⟩
set_option maxRecDepth 100000 in
set_option maxHeartbeats 400000 in
theorem spec_l20Ok_c {o : Bool} {e : TypeId} {xs : List PSymbol} {v : Value} {F : List Nat} (w : World) (h : (pSymbols e).rep o w xs [v] F) (hx : xs.length ≤ 1048576) (hsz : ∀ c ∈ xs, c.label.size ≤ 1048576) :
 Calls Try.prog 32 #[v] w fun e w' => e = .returned (.bool (symsOkB xs)) ∧ Below w.heap.size w w' := by
 obtain ⟨A, c, rfl, hc1, hc2, hr⟩ := pSymbols_open h
 clear h
 go_enter Try.func32, Try.ntmps32
 go_wp2_with fail
 go_loopw [3] (fun i wr => ∃ k : Nat, k ≤ xs.length ∧ i = .int .i64 k ∧ Hid ((xs.take k).all symOkB = true) ∧ Below w.heap.size w wr) (fun i _ => xs.length - (intOf i).toNat)
 case atStart => exact ⟨0, Nat.zero_le _, rfl, rfl, Below.refl _ _⟩
 case round =>
  obtain ⟨k, hk, rfl, hall, hb⟩ := hrel
  have hbs := hb.size
  by_cases hlt : k < xs.length
  · obtain ⟨b, off, rfl, hbb, _, h0, h1, h2, h3, h4, _⟩ := hr k hlt
    rw [← hb.cell (p := ⟨b, _, none⟩) hbb] at h0 h1 h2 h3 h4
    have C1 := fun w' => spec_IsLabel_c xs[k].label w' (hsz _ (List.getElem_mem hlt))
    have C2 := fun w' => spec_l02Box_c (boxOf xs[k]) w'
    have HF : symOkB xs[k] = false → Hid (symsOkB xs = false) := fun hf => by
     show _ = _
     have : xs.all symOkB = false := List.all_eq_false.2 ⟨xs[k], List.getElem_mem hlt, by simp [hf]⟩
     simp [symsOkB, this]
    have HT : symOkB xs[k] = true → Hid ((xs.take (k + 1)).all symOkB = true) := fun ht => by
     show _ = _
     rw [List.take_succ_eq_append_getElem hlt, List.all_append, hall.out]; simp [ht]
    unfold symOkB at HF HT
    generalize labelB xs[k].label = a at C1 HF HT
    generalize boxOkB (boxOf xs[k]) = d at C2 HF HT
    have H1 := Lib.hid C1
    have H2 := Lib.hid C2
    have HF' := Lib.hid HF
    have HT' := Lib.hid HT
    clear C1 C2 HF HT hr hsz
    cases a
    · have HFF := HF'.out rfl
      clear HF' HT'
      go_wp2_with fail
      refine (H1.out _).mono ?_
      rintro e w1 ⟨rfl, rfl⟩
      go_wp2_with fail
      go_ret
      exact ⟨ret_boolI HFF.out.symm, hb⟩
    · cases d
      · have HFF := HF'.out rfl
        clear HF' HT'
        go_wp2_with fail
        refine (H1.out _).mono ?_
        rintro e w1 ⟨rfl, rfl⟩
        go_wp2_with fail
        refine (H2.out _).mono ?_
        rintro e w1 ⟨rfl, rfl⟩
        go_wp2_with fail
        go_ret
        exact ⟨ret_boolI HFF.out.symm, hb.alloc hbs _⟩
      · have HTT := HT'.out rfl
        clear HF' HT'
        go_wp2_with fail
        refine (H1.out _).mono ?_
        rintro e w1 ⟨rfl, rfl⟩
        go_wp2_with fail
        refine (H2.out _).mono ?_
        rintro e w1 ⟨rfl, rfl⟩
        go_wp2_with fail
        go_roundw
        case rel => exact ⟨k + 1, by omega, by go_num, HTT, hb.alloc hbs _⟩
        case measure => simp [intOf]; omega
  · obtain rfl : k = xs.length := by omega
    clear hr hsz
    have HV : Hid (symsOkB xs = decide (xs.length ≤ 8)) := by
     show _ = _
     have := hall.out
     rw [List.take_length] at this
     simp [symsOkB, this]
    go_wp2_with fail
    go_ret
    exact ⟨ret_boolI (by rw [HV.out, decide_eq_decide]; omega), hb⟩
def nums (e : TypeId) : Ty (List Int) := int64.slice e
theorem nums_open {o : Bool} {w : World} {e : TypeId} {xs : List Int} {v : Value} {F : List Nat} (h : (nums e).rep o w xs [v] F) :
 ∃ A c, v = .slice A xs.length c ∧ xs.length ≤ c ∧ c ≤ maxLen ∧ ∀ k (hk : k < xs.length), ∃ b off, A = some ⟨b, off, none⟩ ∧ b < w.heap.size ∧ b ∈ F ∧ w.cell? ⟨b, off + k, none⟩ = some (.int .i64 xs[k]) ∧ I64 xs[k] := by
 obtain ⟨A, c, hv, h1, h2, h3⟩ := slice_open h
 refine ⟨A, c, hv, h1, h2, fun k hk => ?_⟩
 obtain ⟨b, off, ck, Fk, hA, hb, hin, hr, _, hc⟩ := h3 k hk
 obtain ⟨rfl, rfl, i1⟩ := int64_rep.1 hr
 have h0 := hc 0 _ rfl
 rw [show k * int64.size + 0 = k from Nat.mul_one k] at h0
 exact ⟨b, off, hA, hb, hin, h0, i1⟩
theorem nums_ok {o : Bool} {w : World} {e : TypeId} {xs : List Int} {v : Value} {F : List Nat} (h : (nums e).rep o w xs [v] F) : ∀ s ∈ xs, I64 s := by
 obtain ⟨_, _, _, _, _, hr⟩ := nums_open h
 intro s hs
 obtain ⟨k, hk, rfl⟩ := List.getElem_of_mem hs
 obtain ⟨_, _, _, _, _, _, h⟩ := hr k hk
 exact h
theorem repL_nums {o : Bool} {w : World} : ∀ (xs : List Int), (∀ s ∈ xs, I64 s) → repL int64 o w xs (xs.map (.int .i64)) []
 | [], _ => ⟨rfl, rfl⟩
 | s :: r, h => ⟨[.int .i64 s], _, [], [], rfl, rfl, int64_rep.2 ⟨rfl, rfl, h s (by simp)⟩, repL_nums r (fun t ht => h t (by simp [ht]))⟩
theorem repL_nums_inv {o : Bool} {w : World} : ∀ {xs : List Int} {cs : List Value} {F : List Nat}, repL int64 o w xs cs F → cs = xs.map (.int .i64) ∧ F = []
 | [], _, _, ⟨rfl, rfl⟩ => ⟨rfl, rfl⟩
 | s :: r, _, _, ⟨c1, c2, F1, F2, rfl, rfl, h1, h2⟩ => by
   obtain ⟨rfl, rfl, _⟩ := int64_rep.1 h1
   obtain ⟨rfl, rfl⟩ := repL_nums_inv h2
   exact ⟨rfl, rfl⟩
def CellsAt (w : World) (A : Option Addr) (cs : List Value) : Prop := 0 < cs.length → ∃ b off, A = some ⟨b, off, none⟩ ∧ ∀ j u, cs[j]? = some u → w.cell? ⟨b, off + j, none⟩ = some u
theorem cellsAt_new (w : World) (e : TypeId) (cs : List Value) : CellsAt (w.alloc (.cells cs.toArray e)) (some ⟨w.heap.size, 0, none⟩) cs :=
 fun _ => ⟨w.heap.size, 0, rfl, fun j u hu => by
  have R := Row.new w e cs.toArray
  rw [Nat.zero_add]
  exact R.cell' (by simpa using hu)⟩
theorem grown_only {w w' : World} {v : Value} {F : List Nat} (hg : w.grownBy w' v.ownBlock) (hF : ∀ g, v.ownBlock = some g → g ∈ F) : Only F w w' :=
 ⟨hg.os, hg.tape, hg.output, hg.size, fun k hk hn => hg.block k hk (fun e => hn (hF k e.symm))⟩
section
variable {P : Program} {α : Type} {T : Ty α} {t e : TypeId} {z : Value} {bytes : Nat} {w : World} {xs ys : List α} {v : Value} {F Fy : List Nat} {A : Option Addr} {c : Nat} {ec : List Value}
theorem run_append_repX (ty : TypeId) (ht : P.underlying t = some (.slice e)) (hi : (P.info? e).map (fun i => (i.zero, i.size, i.bytes)) = some (some z, T.size, bytes)) (hz : z.cells.size = T.size) (h0 : 0 < T.size)
 (hr : (T.slice e).rep true w xs [v] F) (hy : repL T true w ys ec Fy) (hat : CellsAt w A ec) (_ : True) (hnd : (F ++ Fy).Nodup)
 (h63 : xs.length + ys.length ≤ maxLen) (hb : (xs.length + ys.length) * bytes ≤ 140737488355328) :
 ∃ v' w' F', (Builtin.append_ #[t, t] ty #[v, .slice A ys.length c]).run P w = .ok v' w' ∧ (T.slice e).rep true w' (xs ++ ys) [v'] F' ∧ Only F w w' ∧ (∀ B, Fresh B (F ++ Fy) → B ≤ w.heap.size → Fresh B F') ∧ ((∀ b ∈ F', b ∈ F ++ Fy ∨ w.heap.size ≤ b) ∧ Only v.ownBlock.toList w w' ∧ ∀ b ∈ v'.ownBlock.toList, b ∈ v.ownBlock.toList ∨ w.heap.size ≤ b) := by
 obtain ⟨i, hi1, hz1, hi2, hi3⟩ := info_parts hi
 obtain ⟨a0, c0, ex, F0, F1, hv, rfl, hl, hc, hx, hlt, hax, ho⟩ := hr
 simp only [List.cons.injEq, and_true] at hv
 subst hv
 obtain ⟨hown, hF0⟩ := ho rfl
 have hin0 : ∀ g, (Value.slice a0 xs.length c0).ownBlock = some g → g ∈ F0 := fun g hg => by rw [hF0, hg]; simp
 by_cases hne : A = none
 · subst hne
   have hc0 : (Builtin.append_ #[t, t] ty #[.slice a0 xs.length c0, .slice none ys.length c]).run P w = (Builtin.append_ #[t, t] ty #[.slice a0 xs.length c0, .slice none ys.length 0]).run P w := rfl
   rw [hc0]
   have hec : ec = [] := by
    by_cases h : 0 < ec.length
    · obtain ⟨b, off, h1, _⟩ := hat h
      cases h1
    · exact List.eq_nil_of_length_eq_zero (by omega)
   have hys : ys = [] := by
    have h1 := repL_len hy
    rw [hec] at h1
    have : ys.length = 0 := by
     rcases Nat.eq_zero_or_pos ys.length with h | h
     · exact h
     · have := Nat.mul_pos h h0
       simp at h1; omega
    exact List.eq_nil_of_length_eq_zero this
   subst hys
   refine ⟨_, w, F0 ++ F1, run_append_owned_none (P := P) w 0 t ty e i T.size ht hi1 _ xs.length ex hown, ?_, Only.refl _ _, fun B hB _ => ⟨(List.nodup_append.1 hB.1).1, fun b hb => hB.2 b (List.mem_append.2 (.inl hb))⟩, fun b hb => .inl (List.mem_append.2 (.inl hb)), Only.refl _ _, fun b hb => .inl hb⟩
   rw [List.append_nil]
   exact ⟨a0, c0, ex, F0, F1, rfl, rfl, hl, hc, hx, hlt, hax, ho⟩
 · obtain ⟨ad, rfl⟩ : ∃ ad, A = some ad := by cases A with | none => exact absurd rfl hne | some ad => exact ⟨ad, rfl⟩
   have hnews : ∀ j u, ec[j]? = some u → w.cell? (ad.add j) = some u := by
    intro j u hu
    have hj : j < ec.length := (List.getElem?_eq_some_iff.1 hu).1
    obtain ⟨b, off, h1, h2⟩ := hat (by omega)
    injection h1 with h1
    subst h1
    have e1 : ((⟨b, off, none⟩ : Addr).add j) = ⟨b, off + j, none⟩ := by unfold Addr.add; split <;> simp_all
    rw [e1]
    exact h2 j u hu
   obtain ⟨v', w', hrun, h2, h3, h4, h5⟩ := run_append_own_at (P := P) w 0 t ty e i z T.size bytes ht hi1 hz1 hi2 hi3 hz h0 _ xs.length ex hown ad ys.length c ec (repL_len hy) hnews (repL_one hy) h63 hb (Nat.zero_le _)
   have hon : Only F0 w w' := grown_only h3 hin0
   have hd : ∀ b ∈ F1 ++ Fy, b ∉ F0 := by
    intro b hb hb0
    rw [List.append_assoc] at hnd
    exact (List.nodup_append.1 hnd).2.2 b hb0 b hb rfl
   have kx : repL T true w' xs ex F1 := repL_kept hx fun b hb => hon.block b (repL_lt hx b hb) (hd b (by simp [hb]))
   have ky : repL T true w' ys ec Fy := repL_kept hy fun b hb => hon.block b (repL_lt hy b hb) (hd b (by simp [hb]))
   -- what the new value looks like
   have hform : ∃ A' c', v' = .slice A' (xs.length + ys.length) c' ∧ xs.length + ys.length ≤ c' ∧ c' ≤ maxLen := by
    rcases h2.2 with ⟨h, hn⟩ | ⟨g, cap, cur, h, _, _, hn, hm, _⟩
    · exact ⟨none, 0, by rw [h, hn], by omega, Nat.zero_le _⟩
    · exact ⟨_, cap, h, hn, hm⟩
   obtain ⟨A', c', rfl, hnc, hcm⟩ := hform
   have hlt' : ∀ b ∈ ((Value.slice A' (xs.length + ys.length) c').ownBlock).toList, b < w'.heap.size := by
    intro b hb
    exact (h2.lt b (by simpa using hb)).2
   refine ⟨_, w', ((Value.slice A' (xs.length + ys.length) c').ownBlock).toList ++ (F1 ++ Fy), hrun, ⟨A', c', ex ++ ec, _, F1 ++ Fy, by rw [List.length_append], rfl, by rw [List.length_append]; exact hnc, hcm, repL_append kx ky, hlt', ?_, fun _ => ⟨by rw [List.length_append]; exact h2, by rw [List.length_append]⟩⟩, hon.mono (fun x hx => by simp [hx]), ?_, ?_, by rw [← hF0]; exact hon, fun b hb => by
    rcases h5 with h | h
    · rw [h] at hb; exact .inl hb
    · rw [h] at hb; simp at hb; exact .inr (by omega)⟩
   · intro hpos
     rw [List.length_append] at hpos
     rcases h2.2 with ⟨h, hn⟩ | ⟨g, cap, cur, h, _, hh, hn, hm, hcs, htk⟩
     · omega
     · injection h with h1 _ h3'
       subst h1
       refine ⟨g, 0, rfl, by simp [Value.ownBlock], fun j u hu => ?_⟩
       have hj : j < (ex ++ ec).length := (List.getElem?_eq_some_iff.1 hu).1
       rw [Nat.zero_add]
       simp only [World.cell?, hh]
       have hlen : (ex ++ ec).length = (xs.length + ys.length) * T.size := h2.1
       rw [← htk] at hu
       rw [List.getElem?_take_of_lt (by omega)] at hu
       simpa using hu
   · intro B hB hBs
     obtain ⟨hB1, hB2⟩ := hB
     rw [List.append_assoc] at hB1
     have hsplit := List.nodup_append.1 hB1
     rcases h5 with h | h
     · rw [h, ← hF0]
       exact ⟨by rw [← List.append_assoc]; rw [← List.append_assoc] at hB1; exact hB1, fun b hb => hB2 b (by rw [List.append_assoc]; exact hb)⟩
     · rw [h]
       refine ⟨?_, ?_⟩
       · show (w.heap.size :: (F1 ++ Fy)).Nodup
         rw [List.nodup_cons]
         refine ⟨fun hin => ?_, hsplit.2.1⟩
         rcases List.mem_append.1 hin with h6 | h6
         · exact absurd (repL_lt hx _ h6) (by omega)
         · exact absurd (repL_lt hy _ h6) (by omega)
       · intro b hb
         simp only [Option.toList_some, List.singleton_append, List.mem_cons] at hb
         rcases hb with rfl | hb
         · exact hBs
         · exact hB2 b (by rw [List.append_assoc]; exact List.mem_append.2 (.inr hb))
   · intro b hb
     rcases h5 with h | h
     · rw [h, ← hF0] at hb
       exact .inl (by simpa using hb)
     · rw [h] at hb
       simp only [Option.toList_some, List.singleton_append, List.mem_cons] at hb
       rcases hb with rfl | hb
       · exact .inr (Nat.le_refl _)
       · exact .inl (by simp only [List.mem_append] at hb ⊢; rcases hb with hb | hb <;> simp [hb])
theorem run_append_rep (ty : TypeId) (ht : P.underlying t = some (.slice e)) (hi : (P.info? e).map (fun i => (i.zero, i.size, i.bytes)) = some (some z, T.size, bytes)) (hz : z.cells.size = T.size) (h0 : 0 < T.size)
 (hr : (T.slice e).rep true w xs [v] F) (hy : repL T true w ys ec Fy) (hat : CellsAt w A ec) (hA : True) (hnd : (F ++ Fy).Nodup)
 (h63 : xs.length + ys.length ≤ maxLen) (hb : (xs.length + ys.length) * bytes ≤ 140737488355328) :
 ∃ v' w' F', (Builtin.append_ #[t, t] ty #[v, .slice A ys.length c]).run P w = .ok v' w' ∧ (T.slice e).rep true w' (xs ++ ys) [v'] F' ∧ Only F w w' ∧ (∀ B, Fresh B (F ++ Fy) → B ≤ w.heap.size → Fresh B F') := by
 obtain ⟨v', w', F', h1, h2, h3, h4, _⟩ := run_append_repX (P := P) (c := c) ty ht hi hz h0 hr hy hat hA hnd h63 hb
 exact ⟨v', w', F', h1, h2, h3, h4⟩
theorem wpList_append_rep {ops : Array Oper} {rest : List Oper} {o : Oper} {a : Act} {Q : Exit → Act → World → Prop} (hgd : o.guard = none) (s x : Operand)
 (ho : o.op = .call { callee := .builtin .append, args := #[s, x], argTypes := #[t, t] })
 (ht : P.underlying t = some (.slice e)) (hi : (P.info? e).map (fun i => (i.zero, i.size, i.bytes)) = some (some z, T.size, bytes)) (hz : z.cells.size = T.size) (h0 : 0 < T.size)
 (hs : a.eval s = v) (hr : (T.slice e).rep true w xs [v] F) (hx : a.eval x = .slice A ys.length c) (hy : repL T true w ys ec Fy) (hat : CellsAt w A ec) (hA : True) (hnd : (F ++ Fy).Nodup)
 (h63 : xs.length + ys.length ≤ maxLen) (hb : (xs.length + ys.length) * bytes ≤ 140737488355328)
 (h : ∀ v' w' F', (T.slice e).rep true w' (xs ++ ys) [v'] F' → Only F w w' → (∀ B, Fresh B (F ++ Fy) → B ≤ w.heap.size → Fresh B F') → wpList P ops Q rest (a.put o.dst v') w') : wpList P ops Q (o :: rest) a w := by
 refine wpList_plain hgd fun K hK => ?_
 obtain ⟨v', w', F', hrun, h2, h3, h4⟩ := run_append_rep (P := P) (c := c) o.type ht hi hz h0 hr hy hat hA hnd h63 hb
 unfold Oper.wp execOp
 simp only [ho, resolve, invoke, builtin, Sem.run_bind, Sem.run_pure, Result.andThen_ok, List.map_toArray, List.map_cons, List.map_nil, hs, hx, hrun]
 exact hK _ _ (h v' w' F' h2 h3 h4)
theorem wpList_append_repX {ops : Array Oper} {rest : List Oper} {o : Oper} {a : Act} {Q : Exit → Act → World → Prop} (hgd : o.guard = none) (s x : Operand)
 (ho : o.op = .call { callee := .builtin .append, args := #[s, x], argTypes := #[t, t] })
 (ht : P.underlying t = some (.slice e)) (hi : (P.info? e).map (fun i => (i.zero, i.size, i.bytes)) = some (some z, T.size, bytes)) (hz : z.cells.size = T.size) (h0 : 0 < T.size)
 (hs : a.eval s = v) (hr : (T.slice e).rep true w xs [v] F) (hx : a.eval x = .slice A ys.length c) (hy : repL T true w ys ec Fy) (hat : CellsAt w A ec) (hA : True) (hnd : (F ++ Fy).Nodup)
 (h63 : xs.length + ys.length ≤ maxLen) (hb : (xs.length + ys.length) * bytes ≤ 140737488355328)
 (h : ∀ v' w' F', (T.slice e).rep true w' (xs ++ ys) [v'] F' → Only F w w' → (∀ B, Fresh B (F ++ Fy) → B ≤ w.heap.size → Fresh B F') → ((∀ b ∈ F', b ∈ F ++ Fy ∨ w.heap.size ≤ b) ∧ Only v.ownBlock.toList w w' ∧ ∀ b ∈ v'.ownBlock.toList, b ∈ v.ownBlock.toList ∨ w.heap.size ≤ b) → wpList P ops Q rest (a.put o.dst v') w') : wpList P ops Q (o :: rest) a w := by
 refine wpList_plain hgd fun K hK => ?_
 obtain ⟨v', w', F', hrun, h2, h3, h4, h5⟩ := run_append_repX (P := P) (c := c) o.type ht hi hz h0 hr hy hat hA hnd h63 hb
 unfold Oper.wp execOp
 simp only [ho, resolve, invoke, builtin, Sem.run_bind, Sem.run_pure, Result.andThen_ok, List.map_toArray, List.map_cons, List.map_nil, hs, hx, hrun]
 exact hK _ _ (h v' w' F' h2 h3 h4 h5)
end
def boolT : Ty Bool := .flat 1 (fun b => [.bool b]) (fun _ => True) (fun _ => rfl) (by intro a u h; simp at h; subst h; rfl)
def bools (e : TypeId) : Ty (List Bool) := boolT.slice e
theorem boolT_rep {o : Bool} {w : World} {b : Bool} {cs : List Value} {F : List Nat} : boolT.rep o w b cs F ↔ cs = [.bool b] ∧ F = [] :=
 ⟨fun ⟨h1, h2, _⟩ => ⟨h1, h2⟩, fun ⟨h1, h2⟩ => ⟨h1, h2, trivial⟩⟩
theorem bools_open {o : Bool} {w : World} {e : TypeId} {xs : List Bool} {v : Value} {F : List Nat} (h : (bools e).rep o w xs [v] F) :
 ∃ A c, v = .slice A xs.length c ∧ xs.length ≤ c ∧ c ≤ maxLen ∧ ∀ k (hk : k < xs.length), ∃ b off, A = some ⟨b, off, none⟩ ∧ b < w.heap.size ∧ b ∈ F ∧ w.cell? ⟨b, off + k, none⟩ = some (.bool xs[k]) := by
 obtain ⟨A, c, hv, h1, h2, h3⟩ := slice_open h
 refine ⟨A, c, hv, h1, h2, fun k hk => ?_⟩
 obtain ⟨b, off, ck, Fk, hA, hb, hin, hr, _, hc⟩ := h3 k hk
 obtain ⟨rfl, rfl⟩ := boolT_rep.1 hr
 have h0 := hc 0 _ rfl
 rw [show k * boolT.size + 0 = k from Nat.mul_one k] at h0
 exact ⟨b, off, hA, hb, hin, h0⟩
theorem repL_bools {o : Bool} {w : World} : ∀ (xs : List Bool), repL boolT o w xs (xs.map .bool) []
 | [] => ⟨rfl, rfl⟩
 | s :: r => ⟨[.bool s], _, [], [], rfl, rfl, boolT_rep.2 ⟨rfl, rfl⟩, repL_bools r⟩
theorem repL_bools_inv {o : Bool} {w : World} : ∀ {xs : List Bool} {cs : List Value} {F : List Nat}, repL boolT o w xs cs F → cs = xs.map .bool ∧ F = []
 | [], _, _, ⟨rfl, rfl⟩ => ⟨rfl, rfl⟩
 | s :: r, _, _, ⟨c1, c2, F1, F2, rfl, rfl, h1, h2⟩ => by
   obtain ⟨rfl, rfl⟩ := boolT_rep.1 h1
   obtain ⟨rfl, rfl⟩ := repL_bools_inv h2
   exact ⟨rfl, rfl⟩
theorem bools_set {w : World} {e : TypeId} {us : List Bool} {v : Value} {F : List Nat} {k : Nat} (h : (bools e).rep true w us [v] F) (hk : k < us.length) :
 ∃ g c, v = .slice (some ⟨g, 0, none⟩) us.length c ∧ F = [g] ∧ g < w.heap.size ∧ w.cell? ⟨g, k, none⟩ = some (.bool us[k]) ∧ w.frozen? ⟨g, k, none⟩ = false ∧ ∀ b, (bools e).rep true (w.setCell ⟨g, k, none⟩ (.bool b)) (us.set k b) [v] F := by
 obtain ⟨g, c, cs, rest, G, rfl, hl, hc, hrow, hrp, hlen, rfl⟩ := row_of_slice h (by omega)
 obtain ⟨rfl, rfl⟩ := repL_bools_inv hrp
 refine ⟨g, c, rfl, rfl, hrow.lt, hrow.cell' ?_, hrow.frozen k, fun b => ?_⟩
 · rw [List.getElem?_append_left (by simpa using hk)]
   simp [hk]
 · have hs := hrow.set k (.bool b)
   rw [List.set_append_left _ _ (by simpa using hk)] at hs
   refine slice_of_room (cs := (us.set k b).map .bool) (rest := rest) (by simpa using hs) (repL_bools _) (by simp) hl hc (by simpa using hlen)
theorem nums_front {w : World} {e : TypeId} {us : List Int} {v : Value} {F : List Nat} {k : Nat} (h : (nums e).rep true w us [v] F) (hk : k < us.length) :
 ∃ g c, v = .slice (some ⟨g, 0, none⟩) us.length c ∧ F = [g] ∧ us.length ≤ c ∧ (nums e).rep true w (us.take k) [.slice (some ⟨g, 0, none⟩) k c] F := by
 have hok := nums_ok h
 obtain ⟨g, c, cs, rest, G, rfl, hl, hc, hrow, hrp, hlen, rfl⟩ := row_of_slice h (by omega)
 obtain ⟨rfl, rfl⟩ := repL_nums_inv hrp
 refine ⟨g, c, rfl, rfl, hl, ?_⟩
 have hs : Row w g e ((us.take k).map (.int .i64) ++ ((us.drop k).map (.int .i64) ++ rest)) := by
  rw [← List.append_assoc, ← List.map_append, List.take_append_drop]
  exact hrow
 refine slice_of_room hs (repL_nums _ (fun s hs => hok s (List.mem_of_mem_take hs))) (by rw [List.length_take]; omega) (by omega) hc ?_
 rw [← hlen, ← List.append_assoc, ← List.map_append, List.take_append_drop]
structure Chk (e : TypeId) (o : Bool) (xs : List PSymbol) (vl : Value) (Fl : List Nat) (gp : Nat) (st : ChSt) (vu vo vb : Value) (Fu Fo Fb : List Nat) (w : World) : Prop where
 row : Row w gp 82 [vl, vu, vo, vb, .int .i64 st.cost]
 syms : (pSymbols e).rep o w xs [vl] Fl
 us : (bools 4).rep true w st.used [vu] Fu
 op : (nums 2).rep true w st.opn [vo] Fo
 bs : (pBoxs 48).rep true w st.boxes [vb] Fb
 nd : (gp :: (Fu ++ (Fo ++ Fb))).Nodup
 dis : ∀ b ∈ Fl, b ∉ gp :: (Fu ++ (Fo ++ Fb))
section
variable {e : TypeId} {o : Bool} {xs : List PSymbol} {vl vu vo vb : Value} {Fl Fu Fo Fb G : List Nat} {gp : Nat} {st : ChSt} {w w' : World}
theorem Row.onlyC {g : Nat} {cs : List Value} (h : Row w g e cs) (ho : Only G w w') (hg : g ∉ G) : Row w' g e cs := (ho.block g h.lt hg).trans h
theorem Chk.only (h : Chk e o xs vl Fl gp st vu vo vb Fu Fo Fb w) (ho : Only G w w') (hd : ∀ b ∈ gp :: (Fu ++ (Fo ++ Fb)), b ∉ G) (hl : ∀ b ∈ Fl, b ∉ G) : Chk e o xs vl Fl gp st vu vo vb Fu Fo Fb w' :=
 ⟨h.row.onlyC ho (hd _ (by simp)), h.syms.only ho hl, h.us.only ho (fun b hb => hd b (by simp [hb])), h.op.only ho (fun b hb => hd b (by simp [hb])), h.bs.only ho (fun b hb => hd b (by simp [hb])), h.nd, h.dis⟩
theorem Chk.below (h : Chk e o xs vl Fl gp st vu vo vb Fu Fo Fb w) (hb : Below w.heap.size w w') : Chk e o xs vl Fl gp st vu vo vb Fu Fo Fb w' :=
 h.only (G := []) (Only.of_below hb) (fun _ _ => by simp) (fun _ _ => by simp)
theorem Chk.alloc (h : Chk e o xs vl Fl gp st vu vo vb Fu Fo Fb w) (x : Obj) : Chk e o xs vl Fl gp st vu vo vb Fu Fo Fb (w.alloc x) := h.below ((Below.refl _ _).alloc (Nat.le_refl _) _)
theorem Chk.drew (h : Chk e o xs vl Fl gp st vu vo vb Fu Fo Fb w) : Chk e o xs vl Fl gp st vu vo vb Fu Fo Fb w.drew := h.below (Below.refl _ _).drew
theorem Chk.shape (h : Chk e o xs vl Fl gp st vu vo vb Fu Fo Fb w) : ∃ Al cl Au cu Ao co Ab cb, vl = .slice Al xs.length cl ∧ vu = .slice Au st.used.length cu ∧ vo = .slice Ao st.opn.length co ∧ vb = .slice Ab st.boxes.length cb := by
 obtain ⟨Al, cl, rfl⟩ := slice_len h.syms
 obtain ⟨Au, cu, rfl⟩ := slice_len h.us
 obtain ⟨Ao, co, rfl⟩ := slice_len h.op
 obtain ⟨Ab, cb, rfl⟩ := slice_len h.bs
 exact ⟨_, _, _, _, _, _, _, _, rfl, rfl, rfl, rfl⟩
end
set_option maxRecDepth 100000 in
set_option maxHeartbeats 1000000 in
theorem impl_use_c {e : TypeId} {o : Bool} {xs : List PSymbol} {vl vu vo vb : Value} {Fl Fu Fo Fb : List Nat} {gp : Nat} {st : ChSt} (k : Int) (w : World) (h : Chk e o xs vl Fl gp st vu vo vb Fu Fo Fb w) (hx : xs.length ≤ 1048576) (hl : st.used.length = xs.length) :
 Calls Try.prog 74 #[.pointer (some ⟨gp, 0, none⟩), .int .i64 k] w fun en w' => en = .returned (.bool (useK st.used k).isSome) ∧ Only Fu w w' ∧ Chk e o xs vl Fl gp { st with used := (useK st.used k).getD st.used } vu vo vb Fu Fo Fb w' := by
 obtain ⟨Al, cl, Au, cu, Ao, co, Ab, cb, rfl, rfl, rfl, rfl⟩ := h.shape
 have p0 := h.row.c0
 have p1 := h.row.c1
 have C := impl_inR_c k 0 ((xs.length : Int) - 1)
 have e1 := IntWalk.i64_in ((xs.length : Int) - 1) (by omega)
 by_cases hin : 0 ≤ k ∧ k < (xs.length : Int)
 · obtain ⟨n, rfl⟩ : ∃ n : Nat, k = (n : Int) := ⟨k.toNat, by omega⟩
   have hn : n < st.used.length := by omega
   have hb : inR (n : Int) 0 ((xs.length : Int) - 1) = true := by simp [inR]; omega
   rw [hb] at C
   have HC := Lib.hid C
   obtain ⟨g, c, hg, hF, hgl, hcell, hfr, hset⟩ := bools_set h.us hn
   injection hg with hg1 _ hg3
   subst hg1; subst hg3; subst hF
   have hu : useK st.used (n : Int) = if st.used[n] = false then some (st.used.set n true) else none := by
    unfold useK
    simp only [Int.toNat_natCast]
    rw [List.getD_eq_getElem?_getD, List.getElem?_eq_getElem hn]
    by_cases hf : st.used[n] = false
    · rw [if_pos hf, if_pos ⟨by omega, by omega, by simpa using hf⟩]
    · rw [if_neg hf, if_neg (fun h => hf (by simpa using h.2.2))]
   rw [hu]
   have n0 : (0 : Int) ≤ (n : Int) := by omega
   have n1 : (n : Int) < (st.used.length : Int) := by omega
   have HL := Lib.hid hl
   have ng : gp ≠ g := fun e => by have := h.nd; simp at this; exact this.1.1 e
   have nG : ∀ b ∈ Fo ++ Fb, b ≠ g := fun b hb e => by
    have := h.nd
    rw [List.nodup_cons] at this
    have := this.2
    rw [List.singleton_append, List.nodup_cons] at this
    exact this.1 (e ▸ hb)
   have H := Lib.hid h
   clear hb C hin hu hl
   cases hv : st.used[n]
   · rw [hv] at hcell
     have HS := Lib.hid (hset true)
     clear hset hv
     go_enter Try.func74, Try.ntmps74
     go_wp2_with fail
     refine (HC.out _).mono ?_
     rintro en w1 ⟨rfl, rfl⟩
     go_wp2_with fail
     go_ret
     have h := H.out
     refine ⟨rfl, (Only.refl _ _).set (by simp) _, ?_⟩
     exact ⟨h.row.far ng _, h.syms.setCell (fun hb => h.dis _ hb (by simp)) _, HS.out, h.op.setCell (fun hb => nG _ (by simp [hb]) rfl) _, h.bs.setCell (fun hb => nG _ (by simp [hb]) rfl) _, h.nd, h.dis⟩
   · rw [hv] at hcell
     clear hset hv
     go_enter Try.func74, Try.ntmps74
     go_wp2_with fail
     refine (HC.out _).mono ?_
     rintro en w1 ⟨rfl, rfl⟩
     go_wp2_with fail
     go_ret
     exact ⟨rfl, Only.refl _ _, H.out⟩
 · have hb : inR k 0 ((xs.length : Int) - 1) = false := by
    cases hb : inR k 0 ((xs.length : Int) - 1) with
    | false => rfl
    | true => simp [inR] at hb; omega
   rw [hb] at C
   have HC := Lib.hid C
   have hu : useK st.used k = none := by
    unfold useK
    rw [if_neg (fun hh => hin ⟨hh.1, by omega⟩)]
   rw [hu]
   have H := Lib.hid h
   clear hu hin hb C h hl
   go_enter Try.func74, Try.ntmps74
   go_wp2_with fail
   refine (HC.out _).mono ?_
   rintro en w1 ⟨rfl, rfl⟩
   go_wp2_with fail
   go_ret
   exact ⟨rfl, Only.refl _ _, H.out⟩
set_option maxRecDepth 100000 in
set_option maxHeartbeats 1000000 in
theorem impl_pop_c {e : TypeId} {o : Bool} {xs : List PSymbol} {vl vu vo vb : Value} {Fl Fu Fo Fb : List Nat} {gp : Nat} {st : ChSt} (r : Int) (w : World) (h : Chk e o xs vl Fl gp st vu vo vb Fu Fo Fb w) (hx : st.opn.length ≤ 1048576) :
 Calls Try.prog 87 #[.pointer (some ⟨gp, 0, none⟩), .int .i64 r] w fun en w' => en = .returned (.bool (popK st.opn r).isSome) ∧ Only [gp] w w' ∧ ∃ vo', Chk e o xs vl Fl gp { st with opn := (popK st.opn r).getD st.opn } vu vo' vb Fu Fo Fb w' := by
 obtain ⟨Al, cl, Au, cu, Ao, co, Ab, cb, rfl, rfl, rfl, rfl⟩ := h.shape
 have p2 := h.row.c2
 have e1 := IntWalk.i64_in ((st.opn.length : Int) - 1) (by omega)
 by_cases h0 : st.opn.length = 0
 · have hu : popK st.opn r = none := by
    have : st.opn = [] := List.eq_nil_of_length_eq_zero h0
    simp [popK, this]
   rw [hu]
   have g : ((st.opn.length : Int) - 1 < 0) := by omega
   have H := Lib.hid h
   clear hu h
   go_enter Try.func87, Try.ntmps87
   go_wp2_with fail
   go_ret
   exact ⟨rfl, Only.refl _ _, _, H.out⟩
 · obtain ⟨n, hn⟩ : ∃ n, st.opn.length = n + 1 := ⟨st.opn.length - 1, by omega⟩
   have hnl : n < st.opn.length := by omega
   have hlast : st.opn.getLast? = some st.opn[n] := by
    rw [List.getLast?_eq_getElem?, show st.opn.length - 1 = n by omega, List.getElem?_eq_getElem hnl]
   have hu : popK st.opn r = if st.opn[n] = r then some (st.opn.take n) else none := by
    unfold popK
    rw [hlast, List.dropLast_eq_take, show st.opn.length - 1 = n by omega]
   rw [hu]
   have e2 : IntKind.i64.wrap ((st.opn.length : Int) - 1) = (n : Int) := e1.trans (by omega)
   have g0 : ¬ ((n : Int) < 0) := by omega
   have n0 : (0 : Int) ≤ (n : Int) := by omega
   have n1 : (n : Int) < (st.opn.length : Int) := by omega
   obtain ⟨g, c, hg, hF, hlc, hfront⟩ := nums_front h.op hnl
   injection hg with hg1 _ hg3
   subst hg1; subst hg3; subst hF
   obtain ⟨_, _, hvv, _, _, hrr⟩ := nums_open h.op
   obtain ⟨g', off', hA, _, _, hcell, _⟩ := hrr n hnl
   injection hvv with hA' _ hcc
   clear hcc
   rw [hA] at hA'
   injection hA' with hA'
   injection hA' with hA1 hA2 _
   subst hA1; subst hA2
   have HF := Lib.hid hfront
   have n2 : (n : Int) ≤ (co : Int) := by omega
   rw [Nat.zero_add] at hcell
   have hfrz := h.row.frozen 2
   have H := Lib.hid h
   clear hlast hu hrr hA hfront e1 h0
   have HN := Lib.hid hn
   clear hn
   by_cases hq : st.opn[n] = r
   · have gq : (st.opn[n] != r) = false := by simp [hq]
     rw [if_pos hq]
     clear hq
     go_enter Try.func87, Try.ntmps87
     go_wp2_with fail
     go_ret
     have h := H.out
     have hnd := h.nd
     rw [List.nodup_cons] at hnd
     have ng : ∀ b, b ∈ Fu ++ ([g] ++ Fb) → gp ≠ b := fun b hb e => hnd.1 (e ▸ hb)
     refine ⟨rfl, (Only.refl _ _).set (by simp) _, .slice (some ⟨g, 0, none⟩) n co, ?_⟩
     have hr := h.row.set 2 (.slice (some ⟨g, 0, none⟩) n co)
     exact ⟨hr, h.syms.setCell (fun hb => h.dis _ hb (by simp)) _, h.us.setCell (fun hb => ng _ (by simp [hb]) rfl) _, HF.out.setCell (fun hb => ng _ (by simpa using Or.inr (Or.inl (by simpa using hb))) rfl) _, h.bs.setCell (fun hb => ng _ (by simp [hb]) rfl) _, h.nd, h.dis⟩
   · have gq : (st.opn[n] != r) = true := by simp [hq]
     rw [if_neg hq]
     clear hq
     go_enter Try.func87, Try.ntmps87
     go_wp2_with fail
     go_ret
     exact ⟨rfl, Only.refl _ _, _, H.out⟩
end Go.Proofs.Ytmopioaojdlnkaa
