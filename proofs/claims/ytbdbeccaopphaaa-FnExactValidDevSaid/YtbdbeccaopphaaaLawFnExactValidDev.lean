/- The law FnExactValidDev returns true at every input, and its arguments read afterwards as before. No further condition. -/
import Derived.Test.YtbdbeccaopphaaaRows
import Derived.Test.YtbdbeccaopphaaaQlawsFnExactValidDev
import Derived.Test.YtbdbeccaopphaaaPureFnExactValidDev
import Derived.Test.YtbdbeccaopphaaaQO
import Derived.WalkKit
import Derived.ProofKit
import Derived.OpenShut
import Derived.ShutString
import Derived.ChangeOld
import Derived.Below
import Derived.SizedLaws
namespace Go.Proofs.Ytbdbeccaopphaaa.fnExactValidDev
open Go.ChangeShapes Go.WideShapes Go.ChangeAt Go.RowKit Go.Proofs.Ytbdbeccaopphaaa.Q Go.Proofs.YtbdbeccaopphaaaW.PrintWords Go.Proofs.Ytbdbeccaopphaaa.O
open Go.ChangeMaps (open_string shut_string)
set_option linter.unusedVariables false
theorem own : ownKnob Try.prog.godebug = none := by kernel_rfl
theorem laidOut : laidOutB Try.prog = true := by kernel_rfl
set_option maxRecDepth 100000 in
theorem lifted (os : Os) (started : os.Started) (H : Type) (enc : TypeId × Value → H) :
    ReturnsInHanded {} Try.checked os 7 .any (Rows.fnExactValidDevSpec.pre6 enc Try.prog Try.f7 Rows.fnExactValidDevRow.domain false) (Rows.fnExactValidDevSpec.post enc Try.prog Try.f7 false true false false) := by
  refine returnsInHanded_of_change_sized (C := Try.checked) own started (by kernel_rfl) Try.func7
    (ChangeSpec.witness6 (enc := enc) (C := Try.checked) false ⟨#[], #[.agg #[.slice none 0 0, .slice none 0 0, .int .i64 0, .bool false]], []⟩ 8 (by kernel_rfl) (by kernel_rfl) (by kernel_rfl) (by kernel_rfl)) ?_
  intro W base args ds gs before hval0 hW hcnd hsz0 _
  have hval : ∀ (j : Nat) t v, Try.f7.params[j]? = some t → args[j]? = some v → Value.okWide Try.prog W .any base t v := hval0
  have hW' := hW
  obtain ⟨p, q, hA0, hV, rfl, hfz, hnd⟩ := hW
  have hA : DataW.TrodAll enc Try.prog W 0 (fun _ => true) true Try.f7.params.toList args.toList ds p := hA0
  rw [Try.params7] at hA hval
  obtain ⟨v0, vs0, d0, ds0, p0, q0, hargs, rfl, rfl, h0, r0⟩ := trodAll_cons hA
  obtain ⟨rfl, rfl, rfl⟩ := trodAll_nil r0
  obtain rfl : args = #[v0] := by cases args; simp_all
  obtain ⟨rfl, rfl⟩ := trodVars_none hV
  have k0 := h0
  have lt0 : ∀ x ∈ p0, x.block < W.heap.size := by obtain ⟨m, hm⟩ := k0; exact DataW.trod_lt m _ _ _ hm
  obtain ⟨cs0, rfl, _⟩ := okWide_struct Try.underlying42 (hval 0 42 v0 rfl rfl)
  obtain ⟨x0, hk0, w0⟩ : ∃ x, (k42).K W x cs0.toList ∧ W42 x := by
    obtain ⟨fuel, hf⟩ := h0
    exact opens_T42 H enc W fuel _ _ hf
  obtain ⟨cs0⟩ := cs0
  obtain ⟨A0_0, c0_0, A0_1, c0_1, h_0, m0_0, g0_0, m0_1, g0_1⟩ := k42_open hk0
  obtain rfl := (show cs0 = _ from h_0)
  clear hA0 hval0 hsz0
  obtain ⟨k, hp⟩ := Pure.FnExactValidDev x0 w0
  refine (laws_FnExactValidDev.calls k _ _ x0.f0 _ _ x0.f1 x0.f2 x0.f3 W g0_0 m0_0 g0_1 m0_1 hp).mono fun e W' ⟨he, bel⟩ => ?_
  subst he
  exact ⟨_, rfl, _, _, _, [], _, [], hW', trodAll_mk1 (shut_bool Try.underlying4 _), (trodAll_cons_mk (Below.trod laidOut (by kernel_rfl) (of_decide_eq_true (by kernel_rfl)) k0 bel lt0) trodAll_mk0), rfl, bel.frame _, fun h => by cases h⟩
theorem over : Rows.fnExactValidDevRow.holds Try.pinned (OpenSpec.ofChange Rows.fnExactValidDevSpec) :=
  OpenClaim.holds_of_wide 7 Try.f7 rfl rfl rfl rfl rfl rfl rfl ⟨rfl, rfl, rfl, rfl, rfl⟩ rfl rfl rfl rfl rfl (by kernel_rfl) Try.func7 (by kernel_rfl)
    (of_decide_eq_true (by kernel_rfl)) (by unfold Func.isWrapper; first | (rw [if_pos (by decide +kernel)]; kernel_rfl) | (rw [if_neg (by decide +kernel)]; exact ⟨rfl, rfl⟩))
    (fun os started H enc _ => lifted os started H enc)
theorem proved : Rows.FnExactValidDevSaid := over
#print axioms proved
end Go.Proofs.Ytbdbeccaopphaaa.fnExactValidDev
namespace Go.Proofs.Ytbdbeccaopphaaa
/-- The row, under a short name, for the claim. -/
theorem fnExactValidDev_holds : Rows.FnExactValidDevSaid := fnExactValidDev.proved
end Go.Proofs.Ytbdbeccaopphaaa
