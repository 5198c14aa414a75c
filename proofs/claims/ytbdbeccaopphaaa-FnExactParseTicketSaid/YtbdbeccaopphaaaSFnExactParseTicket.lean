-- By a program of this session's own: the one pure statement of a law.
import Derived.Test.YtbdbeccaopphaaaQlawsFnExactParseTicket
import Derived.Test.YtbdbeccaopphaaaQO
namespace Go.Proofs.Ytbdbeccaopphaaa.Q
open Go.RowKit Go.Proofs.YtbdbeccaopphaaaW.PrintWords Go.Proofs.YtbdbeccaopphaaaW.PrintLast Go.Proofs.Ytbdbeccaopphaaa.O
def laws_FnExactParseTicket.Pure : Prop := ∀ (l0 : List Int) , (l0.length ≤ 9223372036854775807 ∧ ∀ z_ ∈ l0, (Lit.int .u8 z_).wf = true) → ∃ k, laws_FnExactParseTicket.f k l0 = some true
end Go.Proofs.Ytbdbeccaopphaaa.Q
