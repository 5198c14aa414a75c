/- The pure statement of the law FnExactValidDev. No further condition. -/
import Derived.Test.YtbdbeccaopphaaaSFnExactValidDev
import Derived.Test.YtbdbeccaopphaaaPlainDev
namespace Go.Proofs.Ytbdbeccaopphaaa.Pure
open Go.Proofs.Ytbdbeccaopphaaa.Q Go.Proofs.Ytbdbeccaopphaaa.P
theorem FnExactValidDev : laws_FnExactValidDev.Pure := by
  intro x hx
  obtain ⟨⟨hl0, -⟩, ⟨hl1, hp1⟩, hf2, -⟩ := hx
  refine Ev.ex (f := fun k => laws_FnExactValidDev.f k x.f0 x.f1 x.f2 x.f3) ?_
  have hp : ∀ p ∈ x.f1, p.f1.length ≤ 9223372036854775807 := fun p hp => (hp1 p hp).2.1
  obtain ⟨t, ht, hc⟩ := szDev_ev x.f0 x.f1 x.f2 x.f3 1048576 (by decide) (by decide) hl0 hl1 hp
  simp only [laws_FnExactValidDev.f]
  refine Ev.bind ht ?_
  rcases hc with hc | ⟨hc, -, h0, h1, h2⟩
  · exact Ev.pos hc (Ev.const rfl)
  · have hm : ∀ p ∈ x.f1.map cvPend, p.f1.length ≤ 1048576 := by
      intro p hp
      obtain ⟨q, hq, rfl⟩ := List.mem_map.1 hp
      have := h2 q hq
      show q.f1.length ≤ _
      omega
    have hlen : (x.f1.map cvPend).length ≤ 1048576 := by rw [List.length_map]; omega
    have ev := toDev_ev x.f0 x.f1 x.f2 x.f3 (by omega) (by omega) (fun p hp => by have := h2 p hp; omega)
    have es := spec_ValidDev_ev x.f0 (x.f1.map cvPend) x.f2 x.f3 (by omega) (by omega) (fun p hp => by have := hm p hp; omega)
    have ei := impl_ValidDev_ev x.f0 (x.f1.map cvPend) x.f2 x.f3 (by omega) (by omega) (fun p hp => by have := hm p hp; omega)
    have ee := eqDev_ev x.f0 (x.f1.map cvPend) x.f2 x.f3 (by omega) (by omega) (fun p hp => by have := hm p hp; omega)
    exact Ev.neg (by omega) (Ev.bind ev (Ev.bind es (Ev.bind ev (Ev.bind ei (Ev.neg (by simp) (Ev.bind ev (Ev.bind ee (Ev.pos rfl (Ev.const rfl)))))))))
end Go.Proofs.Ytbdbeccaopphaaa.Pure
