-- By a program of this session's own: the one pure statement of a law.
import Derived.Test.YtbdbeccaopphaaaQlawsFnExactConstants
import Derived.Test.YtbdbeccaopphaaaQO
namespace Go.Proofs.Ytbdbeccaopphaaa.Q
open Go.RowKit Go.Proofs.YtbdbeccaopphaaaW.PrintWords Go.Proofs.YtbdbeccaopphaaaW.PrintLast Go.Proofs.Ytbdbeccaopphaaa.O
def laws_FnExactConstants.Pure : Prop := laws_FnExactConstants.f  = some true
end Go.Proofs.Ytbdbeccaopphaaa.Q
