/- Part 6 of 6 of the proof that the law FnExactDecodeSnap returns true at every input. No further condition. -/
import Derived.Test.YtgfadfahbhcllaaRows
import Derived.WalkKit
import Derived.ProofKit
import Derived.OpenShut
import Derived.ShutString
import Derived.ChangeOld
import Derived.Below
import Derived.SizedLaws
import Derived.Test.YtgfadfahbhcllaaMFnExactDecodeSnap5
section
namespace Go.Proofs.Ytgfadfahbhcllaa.P
open Go.RowKit Go.Proofs.YtgfadfahbhcllaaW.PrintWords Go.Proofs.Ytgfadfahbhcllaa.Q
theorem decS_lengths (l : List Int) (hu : U8s l) : (decS l).2.2.2.1.length ≤ 255 ∧ (decS l).2.2.2.2.length ≤ 256 := by
  unfold decS
  by_cases h : l.length = 128 ∧ isSnap l = true
  · rw [if_pos h]
    have hc := hu.at_ (sCnt_at h.1)
    exact ⟨by show (sDeny l (sCnt l).toNat).length ≤ 255; rw [sDeny_length]; omega, sUsed_length l 256⟩
  · rw [if_neg h]
    exact ⟨by decide, by decide⟩
end Go.Proofs.Ytgfadfahbhcllaa.P
namespace Go.Proofs.Ytgfadfahbhcllaa.Pure
open Go.RowKit Go.Proofs.Ytgfadfahbhcllaa.Q Go.Proofs.Ytgfadfahbhcllaa.P
theorem FnExactDecodeSnap : laws_FnExactDecodeSnap.Pure := by
  intro l ⟨hl, hb⟩
  refine Ev.ex (f := fun k => laws_FnExactDecodeSnap.f k l) ?_
  simp only [laws_FnExactDecodeSnap.f]
  have hu := u8_of hb
  by_cases h : (l.length : Int) > 1048576
  · exact Ev.pos h (Ev.const rfl)
  have et := toByteS_ev l (by omega)
  have es := spec_decS hu (by omega)
  have ei : impl_DecodeSnap.f l = some (decS l) := if_pos hu
  have hz := decS_lengths l hu
  have e2 := eqByteS_ev l (by omega)
  have emb := markByteS_ev l 1 (by decide) (by omega)
  generalize decS l = r at *
  obtain ⟨r1, r2, r3, r4, r5⟩ := r
  simp only at hz
  have eq : Ev (fun k => laws_eqSnapRes.f k r1 r2 r3 r4 r5 r1 r2 r3 r4 r5) true := by
    simp only [laws_eqSnapRes.f]
    exact Ev.neg (by simp) (Ev.bind (eqSnap_ev r2 r3 r4 r5 (by omega) (by omega)) (Ev.pos rfl (Ev.const rfl)))
  have em : Ev (fun k => laws_markSnapRes.f k r1 r2 r3 r4 r5 1) (1 + (r4.length : Int) + r5.length, mkInt64S 1 r4.length, mkInt64S (1 + (r4.length : Int)) r5.length) := by
    simp only [laws_markSnapRes.f]
    exact Ev.bind (markSnap_ev r2 r3 r4 r5 1 (by decide) (by omega)) (Ev.const rfl)
  have eh : Ev (fun k => laws_heldSnapRes.f k r1 r2 r3 (mkInt64S 1 r4.length) (mkInt64S (1 + (r4.length : Int)) r5.length) 1) (1 + (r4.length : Int) + r5.length) := by
    simp only [laws_heldSnapRes.f, laws_heldSnap.f]
    exact Ev.bind (Ev.bind (heldInt64S_ev r4.length 1 (by decide) (by omega)) (Ev.neg (by omega) (Ev.bind (heldInt64S_ev r5.length (1 + (r4.length : Int)) (by omega) (by omega)) (Ev.neg (by omega) (Ev.const rfl))))) (Ev.neg (by omega) (Ev.const rfl))
  exact Ev.neg h (Ev.bind et (Ev.bind es (Ev.bind et (Ev.bind (Ev.const ei) (Ev.bind eq (Ev.pos rfl (Ev.bind et (Ev.bind e2 (Ev.pos rfl (Ev.bind emb (Ev.neg (by simp only; omega) (Ev.bind eq (Ev.pos rfl (Ev.bind em (Ev.bind eh (Ev.neg (by omega) (Ev.pos rfl (Ev.bind et (Ev.bind (Ev.const ei) (Ev.bind eq (Ev.pos rfl (Ev.const rfl))))))))))))))))))))))
end Go.Proofs.Ytgfadfahbhcllaa.Pure
end
namespace Go.Proofs.Ytgfadfahbhcllaa.fnExactDecodeSnap
open Go.ChangeShapes Go.WideShapes Go.ChangeAt Go.RowKit Go.Proofs.Ytgfadfahbhcllaa.Q Go.Proofs.YtgfadfahbhcllaaW.PrintWords Go.Proofs.Ytgfadfahbhcllaa.O
open Go.ChangeMaps (open_string shut_string)
set_option linter.unusedVariables false
theorem own : ownKnob Try.prog.godebug = none := by kernel_rfl
theorem laidOut : laidOutB Try.prog = true := by kernel_rfl
set_option maxRecDepth 100000 in
theorem lifted (os : Os) (started : os.Started) (H : Type) (enc : TypeId × Value → H) :
    ReturnsInHanded {} Try.checked os 8 .any (Rows.fnExactDecodeSnapSpec.pre6 enc Try.prog Try.f8 Rows.fnExactDecodeSnapRow.domain false) (Rows.fnExactDecodeSnapSpec.post enc Try.prog Try.f8 false true false false) := by
  refine returnsInHanded_of_change_sized (C := Try.checked) own started (by kernel_rfl) Try.func8
    (ChangeSpec.witness6 (enc := enc) (C := Try.checked) false ⟨#[], #[.slice none 0 0], []⟩ 8 (by kernel_rfl) (by kernel_rfl) (by kernel_rfl) (by kernel_rfl)) ?_
  intro W base args ds gs before hval0 hW hcnd hsz0 _
  have hval : ∀ (j : Nat) t v, Try.f8.params[j]? = some t → args[j]? = some v → Value.okWide Try.prog W .any base t v := hval0
  have hW' := hW
  obtain ⟨p, q, hA0, hV, rfl, hfz, hnd⟩ := hW
  have hA : DataW.TrodAll enc Try.prog W 0 (fun _ => true) true Try.f8.params.toList args.toList ds p := hA0
  rw [Try.params8] at hA hval
  obtain ⟨v0, vs0, d0, ds0, p0, q0, hargs, rfl, rfl, h0, r0⟩ := trodAll_cons hA
  obtain ⟨rfl, rfl, rfl⟩ := trodAll_nil r0
  obtain rfl : args = #[v0] := by cases args; simp_all
  obtain ⟨rfl, rfl⟩ := trodVars_none hV
  have k0 := h0
  have lt0 : ∀ x ∈ p0, x.block < W.heap.size := by obtain ⟨m, hm⟩ := k0; exact DataW.trod_lt m _ _ _ hm
  obtain ⟨a0, len0, cap0, rfl⟩ := okWide_slice Try.underlying25 (hval 0 25 v0 rfl rfl)
  obtain ⟨l0, ⟨A0, c0, he0, m0, g0⟩, w0⟩ : ∃ x, ((Kd.slice 5 (Kd.int .u8))).K W x [.slice a0 len0 cap0] ∧ (x.length ≤ 9223372036854775807 ∧ ∀ z_ ∈ x, (Lit.int .u8 z_).wf = true) := by
    obtain ⟨fuel, hf⟩ := h0
    exact (opens_slice Try.underlying25 (by kernel_rfl) (opens_int Try.underlying5)) H enc W fuel _ _ hf
  obtain ⟨rfl, rfl, rfl⟩ : a0 = A0 ∧ len0 = l0.length ∧ cap0 = c0 := by simpa using he0
  clear hA0 hval0 hsz0
  obtain ⟨k, hp⟩ := Pure.FnExactDecodeSnap l0 w0
  refine (laws_FnExactDecodeSnap.calls k _ _ l0 W g0 m0 hp).mono fun e W' ⟨he, bel⟩ => ?_
  subst he
  exact ⟨_, rfl, _, _, _, [], _, [], hW', trodAll_mk1 (shut_bool Try.underlying4 _), (trodAll_cons_mk (Below.trod laidOut (by kernel_rfl) (of_decide_eq_true (by kernel_rfl)) k0 bel lt0) trodAll_mk0), rfl, bel.frame _, fun h => by cases h⟩
theorem over : Rows.fnExactDecodeSnapRow.holds Try.pinned (OpenSpec.ofChange Rows.fnExactDecodeSnapSpec) :=
  OpenClaim.holds_of_wide 8 Try.f8 rfl rfl rfl rfl rfl rfl rfl ⟨rfl, rfl, rfl, rfl, rfl⟩ rfl rfl rfl rfl rfl (by kernel_rfl) Try.func8 (by kernel_rfl)
    (of_decide_eq_true (by kernel_rfl)) (by unfold Func.isWrapper; first | (rw [if_pos (by decide +kernel)]; kernel_rfl) | (rw [if_neg (by decide +kernel)]; exact ⟨rfl, rfl⟩))
    (fun os started H enc _ => lifted os started H enc)
theorem proved : Rows.FnExactDecodeSnapSaid := over
#print axioms proved
end Go.Proofs.Ytgfadfahbhcllaa.fnExactDecodeSnap
namespace Go.Proofs.Ytgfadfahbhcllaa
theorem fnExactDecodeSnap_holds : Rows.FnExactDecodeSnapSaid := fnExactDecodeSnap.proved
end Go.Proofs.Ytgfadfahbhcllaa
