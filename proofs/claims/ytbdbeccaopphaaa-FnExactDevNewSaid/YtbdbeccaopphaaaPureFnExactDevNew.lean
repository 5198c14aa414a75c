/- The pure statement of the law FnExactDevNew. No further condition. -/
import Derived.Test.YtbdbeccaopphaaaSFnExactDevNew
import Derived.Test.YtbdbeccaopphaaaPlainPend
namespace Go.Proofs.Ytbdbeccaopphaaa.Pure
open Go.RowKit Go.Proofs.Ytbdbeccaopphaaa.Q Go.Proofs.Ytbdbeccaopphaaa.P
theorem zeros_ev (n : Nat) (h : n ≤ 1048576) : Ev (fun k => spec_l1Zeros.f k (n : Int)) (List.replicate n 0) := by
  refine Ev.congr (fun k => ?_) (Ev.loop0 (fun k (s : List Int × Int) => spec_l1Zeros.l0 k (n : Int) s.1 s.2) (fun i => (List.replicate i 0, (i : Int))) n (List.replicate n 0) ?_ ?_)
  · rfl
  · intro i hi
    refine ⟨0, fun k _ => ?_⟩
    simp only [spec_l1Zeros.l0]
    rw [if_pos (by omega), if_pos (by rw [List.length_replicate]; omega), w64s hi (by omega), List.replicate_succ']
  · refine Ev.last ⟨0, fun k _ => ?_⟩
    simp only [spec_l1Zeros.l0]
    rw [if_neg (by omega)]
theorem FnExactDevNew : laws_FnExactDevNew.Pure := by
  intro a hw
  refine Ev.ex (f := fun k => laws_FnExactDevNew.f k a) ?_
  obtain ⟨d, f, hs, hi, hd⟩ : ∃ (d : List Int) (f : Int), Ev (fun k => spec_DevNew.f k a) (d, [], f, false) ∧ impl_DevNew.f a = some (d, [], f, false) ∧ d.length ≤ 1048576 := by
    simp only [spec_DevNew.f, impl_DevNew.f]
    by_cases h1 : a < 8
    · exact ⟨[], 0, Ev.pos h1 (Ev.const rfl), if_pos h1, by simp⟩
    · by_cases h2 : a > 256
      · exact ⟨[], 0, Ev.neg h1 (Ev.pos h2 (Ev.const rfl)), by rw [if_neg h1, if_pos h2], by simp⟩
      · refine ⟨List.replicate (a * 64).toNat 0, -1, Ev.neg h1 (Ev.neg h2 (Ev.bind (a := List.replicate (a * 64).toNat 0) ?_ (Ev.const rfl))), ?_, by simp; omega⟩
        · have := zeros_ev (a * 64).toNat (by omega)
          rw [w64 (by omega) (by omega)]
          rw [show (((a * 64).toNat : Nat) : Int) = a * 64 from by omega] at this
          exact this
        · rw [if_neg h1, if_neg h2, w64 (by omega) (by omega), if_pos (by omega), if_pos (by omega)]
  simp only [laws_FnExactDevNew.f, hi, Option.bind_some]
  have he := eqDev_ev d [] f false (by omega) (by simp) (by simp)
  refine Ev.bind hs (Ev.bind he (Ev.pos rfl (Ev.bind (markDev_ev d [] f false 1 (by decide) (by simp) (by simp only [costP]; omega)) (Ev.bind (heldDev_ev d [] f false 1 (by decide) (by simp) (by simp only [costP]; omega)) (Ev.neg (by simp only [costP]; omega) (Ev.pos rfl (Ev.bind he (Ev.pos rfl (Ev.const rfl)))))))))
end Go.Proofs.Ytbdbeccaopphaaa.Pure
