/- The pure statement of the law FnExactConstants. No condition. -/
import Derived.Test.YtbdbeccaopphaaaSFnExactConstants
namespace Go.Proofs.Ytbdbeccaopphaaa.Pure
theorem FnExactConstants : Go.Proofs.Ytbdbeccaopphaaa.Q.laws_FnExactConstants.Pure := rfl
end Go.Proofs.Ytbdbeccaopphaaa.Pure
