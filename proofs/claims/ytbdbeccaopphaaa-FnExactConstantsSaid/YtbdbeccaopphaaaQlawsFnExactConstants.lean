-- By a program of this session's own out of the translation.
import Derived.Test.YtbdbeccaopphaaaQT
namespace Go.Proofs.Ytbdbeccaopphaaa.Q
open Go.RowKit Go.Proofs.YtbdbeccaopphaaaW.PrintWords Go.Proofs.YtbdbeccaopphaaaW.PrintLast Go.Proofs.Ytbdbeccaopphaaa.LK Go.Proofs.YtbdbeccaopphaaaW.PrintMore
attribute [local go_sem] max2_int min2_int max_two min_two max_three min_three max_four min_four   -- for this text's walks alone
set_option linter.unusedVariables false
set_option linter.unusedSimpArgs false

/-! ### laws_FnExactConstants: function 3 -/
def laws_FnExactConstants.f  : Option (Bool) := some true
set_option maxHeartbeats 8000000 in
set_option maxRecDepth 100000 in
theorem laws_FnExactConstants.calls  (w : World) (h : laws_FnExactConstants.f  = some true) :
    Calls Try.prog 3 #[] w fun e w' => e = .returned (.bool true) ∧ Drawn0 w w' := by
  have H : (some true) = some true := h
  clear h
  clear H
  (try clear HB)
  have H0 := Aside0.mk (Hist.refl w)
  go_enter Try.func3, Try.ntmps3
  (try go_wp2)
  go_ret
  exact ⟨rfl, by first | exact H0.out.below | exact Drawn0.refl _⟩

end Go.Proofs.Ytbdbeccaopphaaa.Q
