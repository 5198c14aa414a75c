/- Rows of the kind TapRecS: copied, compared, sized, marked, held. No further condition. -/
import Derived.Test.YtbdbeccaopphaaaPlain
import Derived.Test.YtbdbeccaopphaaaQlawstoTapRecS
import Derived.Test.YtbdbeccaopphaaaQlawseqTapRecS
import Derived.Test.YtbdbeccaopphaaaQlawsszTapRecS
namespace Go.Proofs.Ytbdbeccaopphaaa.P
open Go.RowKit Go.Proofs.YtbdbeccaopphaaaW.PrintWords Go.Proofs.Ytbdbeccaopphaaa.Q
set_option linter.unusedVariables false
set_option linter.unusedSimpArgs false
def cvTapRec (p : S152) : S128 := ⟨p.f0, p.f1⟩
theorem rdTapRec_at {xs : List S128} {i : Nat} {a : S128} (h : xs[i]? = some a) : rd_T128 xs (i : Int) = a := getD_at h
theorem rdLTapRec_at {xs : List S152} {i : Nat} {a : S152} (h : xs[i]? = some a) : rd_T152 xs (i : Int) = a := getD_at h
theorem toTapRecS_ev (l : List S152) (h : l.length ≤ 1048576) : Ev (fun k => laws_toTapRecS.f k l) (l.map cvTapRec) := by
  have h1 := copy_ends (fun k y i => laws_toTapRecS.l0 k l y i) cvTapRec l (List.replicate ((l.length : Int)).toNat z128) (by simp) ?_ ?_
  · refine Ev.congr (fun k => ?_) h1
    simp only [laws_toTapRecS.f]
    rw [if_pos (by omega), if_pos (by omega)]
  · intro i a y ha hi hy
    refine ⟨0, fun k _ => ?_⟩
    simp only [laws_toTapRecS.l0, laws_toTapRec.f, Option.bind_some]
    rw [if_pos (by omega), if_pos (by omega), if_pos (by omega), rdLTapRec_at ha, w64s hi (by omega)]
    rfl
  · intro k y hy
    simp only [laws_toTapRecS.l0]
    rw [if_neg (by omega)]
theorem eqTapRecS_ev (l : List S128) (h : l.length ≤ 4611686018427387904) : Ev (fun k => laws_eqTapRecS.f k l l) true := by
  refine Ev.congr (fun k => ?_) (each_ends (fun k i => laws_eqTapRecS.l0 k l l i) l.length true ?_ ?_)
  · simp only [laws_eqTapRecS.f]
    rw [if_pos trivial]
  · intro i hi
    refine ⟨0, fun k _ => ?_⟩
    simp only [laws_eqTapRecS.l0, laws_eqTapRec.f]
    rw [if_pos (by omega), if_pos (by omega), if_pos (by omega), w64s hi (by omega)]
    simp only [if_true, Option.bind_some]
  · intro k
    simp only [laws_eqTapRecS.l0]
    rw [if_neg (by omega)]
theorem szTapRecS_is (l : List S152) (a : Int) (h0 : 0 ≤ a) (h1 : a ≤ 1048576) (hl : l.length ≤ 9223372036854775807) : ∃ t, laws_szTapRecS.f l a = some t ∧ (t < 0 ∨ (t = a - l.length ∧ 0 ≤ t)) := by
  simp only [laws_szTapRecS.f]
  rw [w64 (by omega) (by omega)]
  by_cases h : a - (l.length : Int) < 0
  · rw [if_pos h]
    exact ⟨_, rfl, .inl (by omega)⟩
  · rw [if_neg h]
    exact ⟨_, rfl, .inr ⟨rfl, by omega⟩⟩
end Go.Proofs.Ytbdbeccaopphaaa.P
