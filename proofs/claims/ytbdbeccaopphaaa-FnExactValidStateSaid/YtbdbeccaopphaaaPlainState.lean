/- States and snaps: copied, compared, sized. No further condition. -/
import Derived.Test.YtbdbeccaopphaaaPlainInt64S
import Derived.Test.YtbdbeccaopphaaaPlainTapRecS
import Derived.Test.YtbdbeccaopphaaaQlawsszState
import Derived.Test.YtbdbeccaopphaaaQlawstoState
import Derived.Test.YtbdbeccaopphaaaQlawseqState
namespace Go.Proofs.Ytbdbeccaopphaaa.P
open Go.RowKit Go.Proofs.YtbdbeccaopphaaaW.PrintWords Go.Proofs.Ytbdbeccaopphaaa.Q
set_option linter.unusedVariables false
set_option linter.unusedSimpArgs false
theorem szState_is (l0 l1 : List Int) (a2 : Int) (l3 : List S152) (a : Int) (h0 : 0 ≤ a) (h1 : a ≤ 1048576) (hl0 : l0.length ≤ 9223372036854775807) (hl1 : l1.length ≤ 9223372036854775807) (hl3 : l3.length ≤ 9223372036854775807) :
    ∃ t, laws_szState.f l0 l1 a2 l3 a = some t ∧ (t < 0 ∨ (0 ≤ t ∧ t ≤ a ∧ (l0.length : Int) ≤ a ∧ (l1.length : Int) ≤ a ∧ (l3.length : Int) ≤ a)) := by
  obtain ⟨t, ht, hc⟩ := szInt64S_is l0 a h0 h1 hl0
  simp only [laws_szState.f, ht, Option.bind_some]
  rcases hc with hc | ⟨hc, hc0⟩
  · exact ⟨-1, if_pos hc, .inl (by omega)⟩
  · rw [if_neg (by omega)]
    obtain ⟨t2, h2, hc2⟩ := szInt64S_is l1 t hc0 (by omega) hl1
    simp only [h2, Option.bind_some]
    rcases hc2 with hc2 | ⟨hc2, hc20⟩
    · exact ⟨-1, if_pos hc2, .inl (by omega)⟩
    · rw [if_neg (by omega)]
      obtain ⟨t3, h3, hc3⟩ := szTapRecS_is l3 t2 hc20 (by omega) hl3
      simp only [h3, Option.bind_some]
      rcases hc3 with hc3 | ⟨hc3, hc30⟩
      · exact ⟨-1, if_pos hc3, .inl (by omega)⟩
      · exact ⟨t3, if_neg (by omega), .inr ⟨by omega, by omega, by omega, by omega, by omega⟩⟩
theorem toState_ev (l0 l1 : List Int) (a2 : Int) (l3 : List S152) (h0 : l0.length ≤ 1048576) (h1 : l1.length ≤ 1048576) (h3 : l3.length ≤ 1048576) : Ev (fun k => laws_toState.f k l0 l1 a2 l3) (l0, l1, a2, l3.map cvTapRec) := by
  simp only [laws_toState.f]
  exact Ev.bind (toInt64S_ev l0 (by omega)) (Ev.bind (toInt64S_ev l1 (by omega)) (Ev.bind (toTapRecS_ev l3 (by omega)) (Ev.const rfl)))
theorem eqState_ev (l0 l1 : List Int) (a2 : Int) (l3 : List S128) (h0 : l0.length ≤ 4611686018427387904) (h1 : l1.length ≤ 4611686018427387904) (h3 : l3.length ≤ 4611686018427387904) : Ev (fun k => laws_eqState.f k l0 l1 a2 l3 l0 l1 a2 l3) true := by
  simp only [laws_eqState.f]
  exact Ev.bind (eqInt64S_ev l0 h0) (Ev.pos rfl (Ev.bind (eqInt64S_ev l1 h1) (Ev.pos rfl (Ev.pos trivial (Ev.bind (eqTapRecS_ev l3 h3) (Ev.pos rfl (Ev.const rfl)))))))
end Go.Proofs.Ytbdbeccaopphaaa.P
