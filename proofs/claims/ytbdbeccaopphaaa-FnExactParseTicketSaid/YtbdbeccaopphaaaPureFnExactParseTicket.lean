/- The pure statement of the law FnExactParseTicket. No further condition. -/
import Derived.Test.YtbdbeccaopphaaaSFnExactParseTicket
import Derived.Test.YtbdbeccaopphaaaPlainGet
import Derived.Test.YtbdbeccaopphaaaPlainByteS
import Derived.Test.YtbdbeccaopphaaaPlainTicket
namespace Go.Proofs.Ytbdbeccaopphaaa.Pure
open Go.RowKit Go.Proofs.Ytbdbeccaopphaaa.Q Go.Proofs.Ytbdbeccaopphaaa.P
theorem FnExactParseTicket : laws_FnExactParseTicket.Pure := by
  intro l ⟨hl, hb⟩
  refine Ev.ex (f := fun k => laws_FnExactParseTicket.f k l) ?_
  simp only [laws_FnExactParseTicket.f]
  by_cases h : (l.length : Int) > 1048576
  · exact Ev.pos h (Ev.const rfl)
  · have et := toByteS_ev l (by omega)
    have ee := eqByteS_ev l (by omega)
    have es := spec_ticket l (u8_of hb) (by omega)
    have ei := impl_ticket l (u8_of hb) (by omega)
    refine Ev.neg h (Ev.bind et (Ev.bind (Ev.const es) (Ev.bind et (Ev.bind ei ?_))))
    refine Ev.bind (a := true) (Ev.const ?_) (Ev.pos rfl (Ev.bind et (Ev.bind ee (Ev.pos rfl (Ev.const rfl)))))
    simp [laws_eqTicket.f]
end Go.Proofs.Ytbdbeccaopphaaa.Pure
