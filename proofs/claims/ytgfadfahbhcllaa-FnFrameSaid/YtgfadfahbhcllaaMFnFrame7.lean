/- Part 7 of 7 of the proof that the law FnFrame returns true at every input. No further condition. -/
import Derived.Test.YtgfadfahbhcllaaRows
import Derived.WalkKit
import Derived.ProofKit
import Derived.OpenShut
import Derived.ShutString
import Derived.ChangeOld
import Derived.Below
import Derived.SizedLaws
import Derived.Test.YtgfadfahbhcllaaMFnFrame6
namespace Go.Proofs.Ytgfadfahbhcllaa.Pure
open Go.Proofs.Ytgfadfahbhcllaa.Q Go.Proofs.Ytgfadfahbhcllaa.P
theorem frame_second {l : List Int} (hl : l.length ≤ 1048576) : Ev (fun k => laws_FnFrame.j1 k l false) true := by
  obtain ⟨r, er, hu, hr⟩ := drawD_ev hl
  have hq := dec_range hu
  refine Ev.step (g := fun k => (spec_DrawDecodeFrame.f k l).bind fun t115 => ((impl_DecodeFrame.f t115).bind fun bt118 => ((spec_DecodeFrame.f t115).bind fun bt124 => (if (bt118.1 == bt124.1 && ((bt118.2.1 == bt124.2.1 && (bt118.2.2.1 == bt124.2.2.1 && (bt118.2.2.2.1 == bt124.2.2.2.1 && (bt118.2.2.2.2 == bt124.2.2.2.2)))))) = true then (if bt118.1 = true then ((impl_EncodeFrame.f bt118.2.1 bt118.2.2.1 bt118.2.2.2.1 bt118.2.2.2.2).bind fun t129 => ((laws_lwBytes.f t129 t115).bind fun t132 => (some t132))) else (some true)) else (some false))))) ⟨0, fun k _ => ?_⟩ (Ev.bind er (Ev.bind (Ev.const (impl_dec hu)) (Ev.bind (Ev.const (spec_dec hu)) ?_)))
  · simp only [laws_FnFrame.j1]
    rw [if_neg (by decide)]
  · refine Ev.pos (by simp) ?_
    by_cases hd : (decF r).1 = true
    · refine Ev.pos hd (Ev.bind (Ev.const (impl_enc _ _ _ _ hq.1 hq.2.1 hq.2.2)) ?_)
      rw [enc_dec hd]
      exact Ev.bind (Ev.const (a := true) (by simp [laws_lwBytes.f])) (Ev.const rfl)
    · exact Ev.neg hd (Ev.const rfl)
theorem FnFrame : laws_FnFrame.Pure := by
  intro l m ⟨hl, hb⟩ ⟨hl2, hb2⟩
  refine Ev.ex (f := fun k => laws_FnFrame.f k l m) ?_
  simp only [laws_FnFrame.f]
  have key : ∀ b, (b = false → (l.length ≤ 1048576 ∧ m.length ≤ 1048576)) → Ev (fun k => laws_FnFrame.j0 k l m b) true := by
    intro b hbb
    cases b with
    | true => exact Ev.last ⟨0, fun k _ => by simp [laws_FnFrame.j0]⟩
    | false =>
      obtain ⟨h1, h2⟩ := hbb rfl
      obtain ⟨q, kd, a, b, ed, hf⟩ := drawE_ev h1
      have ei := impl_enc q kd a b hf.q hf.a hf.b
      have edc : impl_DecodeFrame.f (encF q kd a b) = some (if 1 ≤ kd ∧ kd ≤ 3 then (true, q, kd, a, b) else (false, 0, 0, 0, 0)) := by rw [impl_dec (encF_u8 _ _ _ _), dec_enc hf]
      have e2 := frame_second h2
      refine Ev.step (g := ?g) ⟨0, fun k _ => ?e⟩ ?n
      case e =>
        simp only [laws_FnFrame.j0]
        rw [if_neg (show ¬ (false = true) by decide)]
      case n =>
        refine Ev.bind ed (Ev.bind (Ev.const ei) (Ev.bind (Ev.const edc) ?_))
        by_cases hk : 1 ≤ kd ∧ kd ≤ 3
        · rw [if_pos hk]
          refine Ev.pos hk.1 (Ev.neg (by simp [hk.2]) (Ev.pos rfl ?_))
          simp only [beq_self_eq_true, Bool.not_true, Bool.or_false]
          exact e2
        · rw [if_neg hk]
          by_cases h3 : kd ≥ 1
          · exact Ev.pos h3 (Ev.neg (by have : ¬ kd ≤ 3 := fun h => hk ⟨h3, h⟩
                                        simp [this]) (Ev.neg (by simp) e2))
          · exact Ev.neg h3 (Ev.neg (by simp) (Ev.neg (by simp) e2))
  by_cases h1 : (l.length : Int) > 1048576
  · exact Ev.pos h1 (key true (by simp))
  · refine Ev.neg h1 (key _ (fun h => ?_))
    have := of_decide_eq_false h
    omega
end Go.Proofs.Ytgfadfahbhcllaa.Pure
namespace Go.Proofs.Ytgfadfahbhcllaa.fnFrame
open Go.ChangeShapes Go.WideShapes Go.ChangeAt Go.RowKit Go.Proofs.Ytgfadfahbhcllaa.Q Go.Proofs.YtgfadfahbhcllaaW.PrintWords Go.Proofs.Ytgfadfahbhcllaa.O
open Go.ChangeMaps (open_string shut_string)
set_option linter.unusedVariables false
theorem own : ownKnob Try.prog.godebug = none := by kernel_rfl
theorem laidOut : laidOutB Try.prog = true := by kernel_rfl
set_option maxRecDepth 100000 in
theorem lifted (os : Os) (started : os.Started) (H : Type) (enc : TypeId × Value → H) :
    ReturnsInHanded {} Try.checked os 6 .any (Rows.fnFrameSpec.pre6 enc Try.prog Try.f6 Rows.fnFrameRow.domain false) (Rows.fnFrameSpec.post enc Try.prog Try.f6 false true false false) := by
  refine returnsInHanded_of_change_sized (C := Try.checked) own started (by kernel_rfl) Try.func6
    (ChangeSpec.witness6 (enc := enc) (C := Try.checked) false ⟨#[], #[.slice none 0 0, .slice none 0 0], []⟩ 8 (by kernel_rfl) (by kernel_rfl) (by kernel_rfl) (by kernel_rfl)) ?_
  intro W base args ds gs before hval0 hW hcnd hsz0 _
  have hval : ∀ (j : Nat) t v, Try.f6.params[j]? = some t → args[j]? = some v → Value.okWide Try.prog W .any base t v := hval0
  have hW' := hW
  obtain ⟨p, q, hA0, hV, rfl, hfz, hnd⟩ := hW
  have hA : DataW.TrodAll enc Try.prog W 0 (fun _ => true) true Try.f6.params.toList args.toList ds p := hA0
  rw [Try.params6] at hA hval
  obtain ⟨v0, vs0, d0, ds0, p0, q0, hargs, rfl, rfl, h0, r0⟩ := trodAll_cons hA
  obtain ⟨v1, vs1, d1, ds1, p1, q1, rfl, rfl, rfl, h1, r1⟩ := trodAll_cons r0
  obtain ⟨rfl, rfl, rfl⟩ := trodAll_nil r1
  obtain rfl : args = #[v0, v1] := by cases args; simp_all
  obtain ⟨rfl, rfl⟩ := trodVars_none hV
  have k0 := h0
  have lt0 : ∀ x ∈ p0, x.block < W.heap.size := by obtain ⟨m, hm⟩ := k0; exact DataW.trod_lt m _ _ _ hm
  obtain ⟨a0, len0, cap0, rfl⟩ := okWide_slice Try.underlying25 (hval 0 25 v0 rfl rfl)
  obtain ⟨l0, ⟨A0, c0, he0, m0, g0⟩, w0⟩ : ∃ x, ((Kd.slice 5 (Kd.int .u8))).K W x [.slice a0 len0 cap0] ∧ (x.length ≤ 9223372036854775807 ∧ ∀ z_ ∈ x, (Lit.int .u8 z_).wf = true) := by
    obtain ⟨fuel, hf⟩ := h0
    exact (opens_slice Try.underlying25 (by kernel_rfl) (opens_int Try.underlying5)) H enc W fuel _ _ hf
  obtain ⟨rfl, rfl, rfl⟩ : a0 = A0 ∧ len0 = l0.length ∧ cap0 = c0 := by simpa using he0
  have k1 := h1
  have lt1 : ∀ x ∈ p1, x.block < W.heap.size := by obtain ⟨m, hm⟩ := k1; exact DataW.trod_lt m _ _ _ hm
  obtain ⟨a1, len1, cap1, rfl⟩ := okWide_slice Try.underlying25 (hval 1 25 v1 rfl rfl)
  obtain ⟨l1, ⟨A1, c1, he1, m1, g1⟩, w1⟩ : ∃ x, ((Kd.slice 5 (Kd.int .u8))).K W x [.slice a1 len1 cap1] ∧ (x.length ≤ 9223372036854775807 ∧ ∀ z_ ∈ x, (Lit.int .u8 z_).wf = true) := by
    obtain ⟨fuel, hf⟩ := h1
    exact (opens_slice Try.underlying25 (by kernel_rfl) (opens_int Try.underlying5)) H enc W fuel _ _ hf
  obtain ⟨rfl, rfl, rfl⟩ : a1 = A1 ∧ len1 = l1.length ∧ cap1 = c1 := by simpa using he1
  clear hA0 hval0 hsz0
  obtain ⟨k, hp⟩ := Pure.FnFrame l0 l1 w0 w1
  refine (laws_FnFrame.calls k _ _ l0 _ _ l1 W g0 m0 g1 m1 hp).mono fun e W' ⟨he, bel⟩ => ?_
  subst he
  exact ⟨_, rfl, _, _, _, [], _, [], hW', trodAll_mk1 (shut_bool Try.underlying4 _), (trodAll_cons_mk (Below.trod laidOut (by kernel_rfl) (of_decide_eq_true (by kernel_rfl)) k0 bel lt0) (trodAll_cons_mk (Below.trod laidOut (by kernel_rfl) (of_decide_eq_true (by kernel_rfl)) k1 bel lt1) trodAll_mk0)), rfl, bel.frame _, fun h => by cases h⟩
theorem over : Rows.fnFrameRow.holds Try.pinned (OpenSpec.ofChange Rows.fnFrameSpec) :=
  OpenClaim.holds_of_wide 6 Try.f6 rfl rfl rfl rfl rfl rfl rfl ⟨rfl, rfl, rfl, rfl, rfl⟩ rfl rfl rfl rfl rfl (by kernel_rfl) Try.func6 (by kernel_rfl)
    (of_decide_eq_true (by kernel_rfl)) (by unfold Func.isWrapper; first | (rw [if_pos (by decide +kernel)]; kernel_rfl) | (rw [if_neg (by decide +kernel)]; exact ⟨rfl, rfl⟩))
    (fun os started H enc _ => lifted os started H enc)
theorem proved : Rows.FnFrameSaid := over
#print axioms proved
end Go.Proofs.Ytgfadfahbhcllaa.fnFrame
namespace Go.Proofs.Ytgfadfahbhcllaa
/-- The row, under a short name, for the claim. -/
theorem fnFrame_holds : Rows.FnFrameSaid := fnFrame.proved
end Go.Proofs.Ytgfadfahbhcllaa
