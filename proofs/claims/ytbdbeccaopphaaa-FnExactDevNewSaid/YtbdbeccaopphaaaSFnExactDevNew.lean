-- By a program of this session's own: the one pure statement of a law.
import Derived.Test.YtbdbeccaopphaaaQlawsFnExactDevNew
import Derived.Test.YtbdbeccaopphaaaQO
namespace Go.Proofs.Ytbdbeccaopphaaa.Q
open Go.RowKit Go.Proofs.YtbdbeccaopphaaaW.PrintWords Go.Proofs.YtbdbeccaopphaaaW.PrintLast Go.Proofs.Ytbdbeccaopphaaa.O
def laws_FnExactDevNew.Pure : Prop := ∀ (a0 : Int) , (Lit.int .i64 a0).wf = true → ∃ k, laws_FnExactDevNew.f k a0 = some true
end Go.Proofs.Ytbdbeccaopphaaa.Q
