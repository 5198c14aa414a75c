/- The pure statement of the law FnExactCrc32. No further condition. -/
import Derived.Test.YtbdbeccaopphaaaSFnExactCrc32
import Derived.Test.YtbdbeccaopphaaaPlainCrc
import Derived.Test.YtbdbeccaopphaaaPlainByteS
namespace Go.Proofs.Ytbdbeccaopphaaa.Pure
open Go.Proofs.Ytbdbeccaopphaaa.Q Go.Proofs.Ytbdbeccaopphaaa.P
theorem FnExactCrc32 : laws_FnExactCrc32.Pure := by
  intro l ⟨hl, hb⟩
  refine Ev.ex (f := fun k => laws_FnExactCrc32.f k l) ?_
  simp only [laws_FnExactCrc32.f]
  by_cases h : (l.length : Int) > 1048576
  · exact Ev.pos h (Ev.const rfl)
  · refine Ev.neg h (Ev.bind (toByteS_ev l (by omega)) (Ev.bind (spec_Crc32_ev l (by omega)) (Ev.bind (toByteS_ev l (by omega)) (Ev.bind (impl_Crc32_ev l (by omega)) (Ev.pos rfl (Ev.bind (toByteS_ev l (by omega)) (Ev.bind (eqByteS_ev l (by omega)) (Ev.pos rfl (Ev.const rfl)))))))))
end Go.Proofs.Ytbdbeccaopphaaa.Pure
