/- FnTrees: the leaves and signs of a tree are all symbols, the box of its root contains all of them, and the order of symbols changes neither the least cost nor the number of trees. Conditions: none. -/
import Derived.Test.YtmopioaojdlnkaaPwBt
import Derived.Test.YtmopioaojdlnkaaRows
import Derived.JoinedOf
namespace Go.Proofs.Ytmopioaojdlnkaa
open Go Go.RowKit Go.ChangeShapes Go.WideShapes Go.ChangeAt
theorem opens_code : Opens Try.prog 22 (byte.slice 5) := opens_slice Try.underlying22 (by kernel_rfl) (by decide) (opens_byte Try.underlying5)
namespace claim_FnTrees
theorem own : ownKnob Try.prog.godebug = none := by kernel_rfl
theorem laidOut : laidOutB Try.prog = true := by kernel_rfl
theorem reads : (Try.f4.params.toList.all fun t => Try.prog.readableRec t && decide (t < Try.prog.types.size)) = true := by kernel_rfl
set_option maxRecDepth 100000 in
theorem contract (H : Type) (enc : TypeId × Value → H) (W : World) (base : Nat) (args : Array Value) (ds gs : List (DataW H)) (before : List MemPlace)
 (hval : ∀ (j : Nat) t v, Try.f4.params[j]? = some t → args[j]? = some v → Value.okWide Try.prog W .any base t v)
 (hW : DataW.Whole enc Try.prog Try.f4.params.toList Rows.fnTreesSpec.vars false W args.toList ds gs before) :
 Calls Try.prog 4 args W fun e W' => ∃ v, e = .returned v ∧ Rows.fnTreesSpec.post enc Try.prog Try.f4 false true false false W args v W' := by
 have hW' := hW
 obtain ⟨p, q, hA0, hV, rfl, hfz, hnd⟩ := hW
 have hA : DataW.TrodAll enc Try.prog W 0 (fun _ => true) true Try.f4.params.toList args.toList ds p := hA0
 clear hA0
 rw [Try.params4] at hA hval
 obtain ⟨v0, vs0, d0, ds0, p0, q0, hargs, rfl, rfl, h0, r0⟩ := trodAll_cons hA
 obtain ⟨rfl, rfl, rfl⟩ := trodAll_nil r0
 obtain rfl : args = #[v0] := by cases args; simp_all
 obtain ⟨x0, F0, k0⟩ := arg_slice Try.underlying22 (hval 0 22 v0 rfl rfl) opens_code h0
 refine (law_FnTrees W k0).mono fun e W' ⟨he, hb⟩ => ?_
 subst he
 exact ⟨_, rfl, law_post (P := Try.prog) (tb := 4) laidOut reads (by kernel_rfl) Try.underlying4 rfl rfl hW' hb⟩
set_option maxRecDepth 100000 in
theorem lifted (os : Os) (started : os.Started) (H : Type) (enc : TypeId × Value → H) :
 ReturnsInHanded {} Try.checked os 4 .any (Rows.fnTreesSpec.pre6 enc Try.prog Try.f4 Rows.fnTreesRow.domain false) (Rows.fnTreesSpec.post enc Try.prog Try.f4 false true false false) := by
 refine returnsInHanded_of_change (C := Try.checked) own started (by kernel_rfl) Try.func4
  (ChangeSpec.witness6 (enc := enc) (C := Try.checked) false ⟨#[], #[.slice none 0 0], []⟩ 8 (by kernel_rfl) (by kernel_rfl) (by kernel_rfl) (by kernel_rfl)) ?_
 intro W base args ds gs before hval hW _ _
 exact contract H enc W base args ds gs before hval hW
theorem proved : Rows.FnTreesSaid :=
 OpenClaim.holds_of_wide 4 Try.f4 rfl rfl rfl rfl rfl rfl rfl ⟨rfl, rfl, rfl, rfl, rfl⟩ rfl rfl rfl rfl rfl (by kernel_rfl) Try.func4 (by kernel_rfl)
  (of_decide_eq_true (by kernel_rfl)) (by unfold Func.isWrapper; first | (rw [if_pos (by decide +kernel)]; kernel_rfl) | (rw [if_neg (by decide +kernel)]; exact ⟨rfl, rfl⟩))
  (fun os started H enc _ => lifted os started H enc)
end claim_FnTrees
theorem fnTrees_holds : Rows.FnTreesSaid := claim_FnTrees.proved
#print axioms fnTrees_holds
end Go.Proofs.Ytmopioaojdlnkaa
