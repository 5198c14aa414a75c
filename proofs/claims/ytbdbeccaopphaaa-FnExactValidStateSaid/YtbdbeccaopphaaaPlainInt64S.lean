/- Rows of the kind Int64S: copied, compared, sized, marked, held. No further condition. -/
import Derived.Test.YtbdbeccaopphaaaPlain
import Derived.Test.YtbdbeccaopphaaaQlawstoInt64S
import Derived.Test.YtbdbeccaopphaaaQlawseqInt64S
import Derived.Test.YtbdbeccaopphaaaQlawsszInt64S
namespace Go.Proofs.Ytbdbeccaopphaaa.P
open Go.RowKit Go.Proofs.YtbdbeccaopphaaaW.PrintWords Go.Proofs.Ytbdbeccaopphaaa.Q
set_option linter.unusedVariables false
set_option linter.unusedSimpArgs false
theorem toInt64S_ev (l : List Int) (h : l.length ≤ 35184372088832) : Ev (fun k => laws_toInt64S.f k l) l := by
  have h1 := copy_ends (fun k y i => laws_toInt64S.l0 k l y i) id l (List.replicate ((l.length : Int)).toNat 0) (by simp) ?_ ?_
  · rw [List.map_id] at h1
    refine Ev.congr (fun k => ?_) h1
    simp only [laws_toInt64S.f]
    rw [if_pos (by omega), if_pos (by omega)]
  · intro i a y ha hi hy
    refine ⟨0, fun k _ => ?_⟩
    simp only [laws_toInt64S.l0]
    rw [if_pos (by omega), if_pos (by omega), if_pos (by omega), w64s hi (by omega), rd_at ha]
    rfl
  · intro k y hy
    simp only [laws_toInt64S.l0]
    rw [if_neg (by omega)]
theorem eqInt64S_ev (l : List Int) (h : l.length ≤ 4611686018427387904) : Ev (fun k => laws_eqInt64S.f k l l) true := by
  refine Ev.congr (fun k => ?_) (each_ends (fun k i => laws_eqInt64S.l0 k l l i) l.length true ?_ ?_)
  · simp only [laws_eqInt64S.f]
    rw [if_pos trivial]
  · intro i hi
    refine ⟨0, fun k _ => ?_⟩
    simp only [laws_eqInt64S.l0]
    rw [if_pos (by omega), if_pos (by omega), if_pos (by omega), if_pos trivial, w64s hi (by omega)]
  · intro k
    simp only [laws_eqInt64S.l0]
    rw [if_neg (by omega)]
theorem szInt64S_is (l : List Int) (a : Int) (h0 : 0 ≤ a) (h1 : a ≤ 1048576) (hl : l.length ≤ 9223372036854775807) : ∃ t, laws_szInt64S.f l a = some t ∧ (t < 0 ∨ (t = a - l.length ∧ 0 ≤ t)) := by
  simp only [laws_szInt64S.f]
  rw [w64 (by omega) (by omega)]
  by_cases h : a - (l.length : Int) < 0
  · rw [if_pos h]
    exact ⟨_, rfl, .inl (by omega)⟩
  · rw [if_neg h]
    exact ⟨_, rfl, .inr ⟨rfl, by omega⟩⟩
end Go.Proofs.Ytbdbeccaopphaaa.P
