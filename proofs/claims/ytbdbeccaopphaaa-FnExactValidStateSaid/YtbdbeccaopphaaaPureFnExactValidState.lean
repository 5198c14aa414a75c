/- The pure statement of the law FnExactValidState. No further condition. -/
import Derived.Test.YtbdbeccaopphaaaSFnExactValidState
import Derived.Test.YtbdbeccaopphaaaPlainState
import Derived.Test.YtbdbeccaopphaaaHValidState
import Derived.Test.YtbdbeccaopphaaaQspecValidState
namespace Go.Proofs.Ytbdbeccaopphaaa.P
open Go.RowKit Go.Proofs.YtbdbeccaopphaaaW.PrintWords Go.Proofs.Ytbdbeccaopphaaa.Q
set_option linter.unusedVariables false
section
variable (d u : List Int) (a : Int) (taps : List S128)
theorem inner_ev (hl : taps.length ≤ 1048576) (i : Nat) (hi : i < taps.length) (s n : Int) {res : Bool} (hr : Ev (fun k => spec_ValidState.l0 k (wrap64 ((i : Int) + 1)) d u a taps) res) : ∀ m j, j + m = i →
    Ev (fun k => spec_ValidState.l1 k (i : Int) (j : Int) d u a taps s n) (((List.range' j m).all fun q => decide ((rd_T128 taps q).f0 ≠ s)) && res)
  | 0, j, h => by
    refine Ev.step (g := fun k => spec_ValidState.l0 k (wrap64 ((i : Int) + 1)) d u a taps) ⟨0, fun k _ => ?_⟩ hr
    simp only [spec_ValidState.l1]
    rw [if_neg (by omega)]
  | m + 1, j, h => by
    rw [List.range'_succ, List.all_cons]
    by_cases c : (rd_T128 taps (j : Int)).f0 = s
    · rw [decide_eq_false (by simp [c]), Bool.false_and, Bool.false_and]
      refine Ev.last ⟨0, fun k _ => ?_⟩
      simp only [spec_ValidState.l1]
      rw [if_pos (by omega), if_pos (by omega), if_pos (by omega), if_pos c]
    · rw [decide_eq_true c, Bool.true_and]
      refine Ev.step (g := fun k => spec_ValidState.l1 k (i : Int) ((j + 1 : Nat) : Int) d u a taps s n) ⟨0, fun k _ => ?_⟩ (inner_ev hl i hi s n hr m (j + 1) (by omega))
      simp only [spec_ValidState.l1]
      rw [if_pos (by omega), if_pos (by omega), if_pos (by omega), if_neg c, w64s (n := taps.length) (by omega) (by omega)]
theorem outer_ev (hl : taps.length ≤ 1048576) (hu : u.length ≤ 1048576) : ∀ m i, i + m = taps.length → Ev (fun k => spec_ValidState.l0 k (i : Int) d u a taps) ((List.range' i m).all (tapOk u taps))
  | 0, i, h => by
    refine Ev.last ⟨0, fun k _ => ?_⟩
    simp only [spec_ValidState.l0]
    rw [if_neg (by omega)]
    rfl
  | m + 1, i, h => by
    have ih := outer_ev hl hu m (i + 1) (by omega)
    have hw : wrap64 ((i : Int) + 1) = ((i + 1 : Nat) : Int) := w64s (n := taps.length) (by omega) (by omega)
    rw [List.range'_succ, List.all_cons]
    obtain ⟨p, hp⟩ : ∃ p, p = rd_T128 taps (i : Int) := ⟨_, rfl⟩
    have fa : ∀ s n, Ev (fun k => spec_ValidState.j2 k (i : Int) true d u a taps s n) false := fun s n => by
      refine Ev.last ⟨0, fun k _ => ?_⟩
      simp only [spec_ValidState.j2]
      rw [if_pos trivial]
    have tk : tapOk u taps i = (decide (p.f0 ∈ u) && ((List.range i).all fun j => decide ((rd_T128 taps j).f0 ≠ p.f0)) && decide (0 ≤ p.f1) && decide (p.f1 ≤ 4294967295)) := by unfold tapOk; rw [← hp]
    by_cases c1 : p.f1 < 0
    · rw [tk, show decide (0 ≤ p.f1) = false from decide_eq_false (by omega), Bool.and_false, Bool.false_and, Bool.false_and]
      refine Ev.step (g := fun k => spec_ValidState.j2 k (i : Int) true d u a taps p.f0 p.f1) ⟨0, fun k _ => ?_⟩ (fa _ _)
      simp only [spec_ValidState.l0]
      rw [if_pos (by omega), if_pos (by omega), ← hp, if_pos c1]
    by_cases c2 : p.f1 > 4294967295
    · rw [tk, show decide (p.f1 ≤ 4294967295) = false from decide_eq_false (by omega), Bool.and_false, Bool.false_and]
      refine Ev.step (g := fun k => spec_ValidState.j2 k (i : Int) true d u a taps p.f0 p.f1) ⟨0, fun k _ => ?_⟩ (fa _ _)
      simp only [spec_ValidState.l0]
      rw [if_pos (by omega), if_pos (by omega), ← hp, if_neg c1, if_pos c2]
    rw [tk, show decide (0 ≤ p.f1) = true from decide_eq_true (by omega), show decide (p.f1 ≤ 4294967295) = true from decide_eq_true (by omega), Bool.and_true, Bool.and_true]
    refine Ev.step (g := fun k => (spec_l5Holds.f k u p.f0).bind fun t => spec_ValidState.j2 k (i : Int) (!t) d u a taps p.f0 p.f1) ⟨0, fun k _ => ?_⟩ (Ev.bind (holds_ev u p.f0 (by omega)) ?_)
    · simp only [spec_ValidState.l0]
      rw [if_pos (by omega), if_pos (by omega), ← hp, if_neg c1, if_neg c2]
    by_cases cm : p.f0 ∈ u
    · rw [decide_eq_true cm, Bool.true_and]
      have hin := inner_ev d u a taps hl i (by omega) p.f0 p.f1 (by rw [hw]; exact ih) i 0 (by omega)
      rw [← List.range_eq_range'] at hin
      refine Ev.step (g := fun k => spec_ValidState.l1 k (i : Int) 0 d u a taps p.f0 p.f1) ⟨0, fun k _ => ?_⟩ hin
      simp only [spec_ValidState.j2]
      rw [if_neg (by simp)]
    · rw [decide_eq_false cm, Bool.false_and, Bool.false_and]
      exact fa _ _
theorem spec_state_ev (hd : d.length ≤ 1048576) (hu : u.length ≤ 1048576) (hl : taps.length ≤ 1048576) (ha : a ≤ 9223372036854775807) : Ev (fun k => spec_ValidState.f k d u a taps) (validS d u a taps) := by
  have fa : Ev (fun k => spec_ValidState.j0 k true d u a taps) false := by
    refine Ev.last ⟨0, fun k _ => ?_⟩
    simp only [spec_ValidState.j0]
    rw [if_pos trivial]
  simp only [spec_ValidState.f]
  refine Ev.bind (spec_good_ev d (by omega)) ?_
  by_cases g1 : goodS d = true
  case neg =>
    rw [vs1 (by simpa using g1)]
    exact Ev.neg g1 fa
  refine Ev.pos g1 ?_
  by_cases c1 : (d.length : Int) > 16
  · rw [vs2 (by omega)]
    exact Ev.pos c1 fa
  refine Ev.neg c1 (Ev.bind (spec_good_ev u (by omega)) ?_)
  by_cases g2 : goodS u = true
  case neg =>
    rw [vs3 (by simpa using g2)]
    exact Ev.neg g2 fa
  refine Ev.pos g2 ?_
  by_cases c2 : a < 0
  · rw [vs4 (by omega)]
    exact Ev.pos c2 fa
  refine Ev.neg c2 ?_
  by_cases c3 : a = (u.length : Int) - taps.length
  case neg =>
    rw [vs5 c3]
    have hb : (wrap64 (a + (taps.length : Int)) != (u.length : Int)) = true := by
      rw [bne_iff_ne]
      by_cases ho : a + (taps.length : Int) ≤ 9223372036854775807
      · rw [w64 (n := a + (taps.length : Int)) (by omega) ho]; omega
      · unfold wrap64; omega
    rw [hb]
    exact fa
  have hb : (wrap64 (a + (taps.length : Int)) != (u.length : Int)) = false := by
    rw [bne_eq_false_iff_eq, w64 (n := a + (taps.length : Int)) (by omega) (by omega)]; omega
  rw [hb]
  have ho := outer_ev d u a taps hl hu taps.length 0 (by omega)
  rw [← List.range_eq_range'] at ho
  have he : validS d u a taps = (List.range taps.length).all (tapOk u taps) := by
    unfold validS
    rw [g1, g2, decide_eq_true (show d.length ≤ 16 by omega), decide_eq_true (show 0 ≤ a by omega), decide_eq_true c3]
    rfl
  rw [he]
  refine Ev.step (g := fun k => spec_ValidState.l0 k 0 d u a taps) ⟨0, fun k _ => ?_⟩ ho
  simp only [spec_ValidState.j0]
  rw [if_neg (by simp)]
end
end Go.Proofs.Ytbdbeccaopphaaa.P
namespace Go.Proofs.Ytbdbeccaopphaaa.Pure
open Go.RowKit Go.Proofs.Ytbdbeccaopphaaa.Q Go.Proofs.Ytbdbeccaopphaaa.P
theorem i64_of {x : Int} (h : (Lit.int .i64 x).wf = true) : x ≤ 9223372036854775807 := by
  simp [Go.Lit.wf, Go.IntKind.min, Go.IntKind.max, Go.IntKind.bits, Go.IntKind.signed] at h
  omega
theorem FnExactValidState : laws_FnExactValidState.Pure := by
  intro x hx
  obtain ⟨⟨h0, -⟩, ⟨h1, -⟩, h2, ⟨h3, -⟩⟩ := hx
  refine Ev.ex (f := fun k => laws_FnExactValidState.f k x.f0 x.f1 x.f2 x.f3) ?_
  simp only [laws_FnExactValidState.f]
  obtain ⟨t, ht, hc⟩ := szState_is x.f0 x.f1 x.f2 x.f3 1048576 (by decide) (by decide) h0 h1 h3
  refine Ev.bind (Ev.const ht) ?_
  rcases hc with hc | ⟨hc, -, l0, l1, l3⟩
  · exact Ev.pos hc (Ev.const rfl)
  refine Ev.neg (by omega) ?_
  have hm : (x.f3.map cvTapRec).length ≤ 1048576 := by rw [List.length_map]; omega
  have et := toState_ev x.f0 x.f1 x.f2 x.f3 (by omega) (by omega) (by omega)
  have es := spec_state_ev x.f0 x.f1 x.f2 (x.f3.map cvTapRec) (by omega) (by omega) hm (i64_of h2)
  have ei : impl_ValidState.f x.f0 x.f1 x.f2 (x.f3.map cvTapRec) = some (validS x.f0 x.f1 x.f2 (x.f3.map cvTapRec)) := by
    unfold impl_ValidState.f
    exact if_pos ⟨by omega, by omega, by omega⟩
  have eq := eqState_ev x.f0 x.f1 x.f2 (x.f3.map cvTapRec) (by omega) (by omega) (by omega)
  exact Ev.bind et (Ev.bind es (Ev.bind et (Ev.bind (Ev.const ei) (Ev.neg (by simp) (Ev.bind et (Ev.bind eq (Ev.pos rfl (Ev.const rfl))))))))
end Go.Proofs.Ytbdbeccaopphaaa.Pure
