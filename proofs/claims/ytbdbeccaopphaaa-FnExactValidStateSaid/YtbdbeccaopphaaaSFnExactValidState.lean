-- By a program of this session's own: the one pure statement of a law.
import Derived.Test.YtbdbeccaopphaaaQlawsFnExactValidState
import Derived.Test.YtbdbeccaopphaaaQO
namespace Go.Proofs.Ytbdbeccaopphaaa.Q
open Go.RowKit Go.Proofs.YtbdbeccaopphaaaW.PrintWords Go.Proofs.YtbdbeccaopphaaaW.PrintLast Go.Proofs.Ytbdbeccaopphaaa.O
def laws_FnExactValidState.Pure : Prop := ∀ (x0 : S71) , W71 x0 → ∃ k, laws_FnExactValidState.f k x0.f0 x0.f1 x0.f2 x0.f3 = some true
end Go.Proofs.Ytbdbeccaopphaaa.Q
