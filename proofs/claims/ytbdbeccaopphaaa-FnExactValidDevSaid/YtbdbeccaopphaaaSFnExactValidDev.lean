-- By a program of this session's own: the one pure statement of a law.
import Derived.Test.YtbdbeccaopphaaaQlawsFnExactValidDev
import Derived.Test.YtbdbeccaopphaaaQO
namespace Go.Proofs.Ytbdbeccaopphaaa.Q
open Go.RowKit Go.Proofs.YtbdbeccaopphaaaW.PrintWords Go.Proofs.YtbdbeccaopphaaaW.PrintLast Go.Proofs.Ytbdbeccaopphaaa.O
def laws_FnExactValidDev.Pure : Prop := ∀ (x0 : S42) , W42 x0 → ∃ k, laws_FnExactValidDev.f k x0.f0 x0.f1 x0.f2 x0.f3 = some true
end Go.Proofs.Ytbdbeccaopphaaa.Q
