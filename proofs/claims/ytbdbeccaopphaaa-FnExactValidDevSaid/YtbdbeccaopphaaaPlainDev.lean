/- Devices: when they are valid, made new. No further condition. -/
import Derived.Test.YtbdbeccaopphaaaPlainPend
import Derived.Test.YtbdbeccaopphaaaQspecValidDev
import Derived.Test.YtbdbeccaopphaaaQimplValidDev
namespace Go.Proofs.Ytbdbeccaopphaaa.P
open Go.RowKit Go.Proofs.YtbdbeccaopphaaaW.PrintWords Go.Proofs.Ytbdbeccaopphaaa.Q
set_option linter.unusedVariables false
set_option linter.unusedSimpArgs false

/-- A pend of a device of n sectors. -/
def okPend (n : Nat) (p : S101) : Bool := decide (0 ≤ p.f0 ∧ p.f0 < n ∧ p.f1.length = 64)
def headDev (l0 : List Int) (l1 : List S101) (a2 : Int) : Prop := l0.length % 64 = 0 ∧ 8 ≤ l0.length / 64 ∧ l0.length / 64 ≤ 256 ∧ l1.length ≤ 1000 ∧ -1 ≤ a2 ∧ a2 ≤ 1000000
instance (l0 : List Int) (l1 : List S101) (a2 : Int) : Decidable (headDev l0 l1 a2) := by unfold headDev; infer_instance
def validDev (l0 : List Int) (l1 : List S101) (a2 : Int) : Bool := decide (headDev l0 l1 a2) && l1.all (okPend (l0.length / 64))
theorem validDev_no {l0 : List Int} {l1 : List S101} {a2 : Int} (h : ¬ headDev l0 l1 a2) : validDev l0 l1 a2 = false := by unfold validDev; rw [decide_eq_false h, Bool.false_and]
theorem validDev_yes {l0 : List Int} {l1 : List S101} {a2 : Int} (h : headDev l0 l1 a2) : validDev l0 l1 a2 = l1.all (okPend (l0.length / 64)) := by unfold validDev; rw [decide_eq_true h, Bool.true_and]
theorem validDev_is {l0 : List Int} {l1 : List S101} {a2 : Int} : validDev l0 l1 a2 = true ↔ headDev l0 l1 a2 ∧ ∀ p ∈ l1, 0 ≤ p.f0 ∧ p.f0 < (l0.length / 64 : Nat) ∧ p.f1.length = 64 := by
  unfold validDev
  rw [Bool.and_eq_true, decide_eq_true_eq, List.all_eq_true]
  simp only [okPend, decide_eq_true_eq]
theorem spec_loop_ev (l0 : List Int) (l1 : List S101) (a2 : Int) (a3 : Bool) (n : Nat) (h : l1.length ≤ 4611686018427387904) (hp : ∀ p ∈ l1, p.f1.length ≤ 9223372036854775807) :
    Ev (fun k => spec_ValidDev.l0 k (n : Int) 0 l0 l1 a2 a3) (l1.all (okPend n)) := by
  refine all_loop (fun k i => spec_ValidDev.l0 k (n : Int) i l0 l1 a2 a3) l1 (okPend n) ?_ ?_
  · intro i p hat hi
    refine ⟨0, fun k _ => ?_⟩
    simp only [spec_ValidDev.l0]
    rw [if_pos (by omega), if_pos (by omega), rdP_at hat, w64s hi h]
    by_cases h1 : p.f0 < 0
    · rw [if_pos h1, if_neg (by simp [okPend]; omega)]
    · rw [if_neg h1]
      by_cases h2 : p.f0 ≥ (n : Int)
      · rw [if_pos h2, if_neg (by simp [okPend]; omega)]
      · rw [if_neg h2]
        by_cases h3 : (p.f1.length : Int) = 64
        · rw [if_pos h3, if_pos (by simp [okPend]; omega)]
        · rw [if_neg h3, if_neg (by simp [okPend]; omega)]
  · intro k
    simp only [spec_ValidDev.l0]
    rw [if_neg (by omega)]
theorem spec_ValidDev_ev (l0 : List Int) (l1 : List S101) (a2 : Int) (a3 : Bool) (h0 : l0.length ≤ 4611686018427387904) (h : l1.length ≤ 4611686018427387904) (hp : ∀ p ∈ l1, p.f1.length ≤ 9223372036854775807) :
    Ev (fun k => spec_ValidDev.f k l0 l1 a2 a3) (validDev l0 l1 a2) := by
  have e : wrap64 ((l0.length : Int) / 64) = ((l0.length / 64 : Nat) : Int) := by rw [w64 (by omega) (by omega)]; omega
  have no : ∀ n : Int, Ev (fun k => spec_ValidDev.j0 k n true l0 l1 a2 a3) false := fun n => Ev.last ⟨0, fun k _ => by simp only [spec_ValidDev.j0]; rw [if_pos trivial]⟩
  simp only [spec_ValidDev.f, spec_l1Sectors.f, Option.bind_some, e]
  clear e
  by_cases h1 : (l0.length : Int) % 64 = 0
  · refine Ev.pos h1 ?_
    by_cases h2 : ((l0.length / 64 : Nat) : Int) < 8
    · rw [validDev_no (by unfold headDev; omega)]
      exact Ev.pos h2 (no _)
    · refine Ev.neg h2 ?_
      by_cases h3 : ((l0.length / 64 : Nat) : Int) > 256
      · rw [validDev_no (by unfold headDev; omega)]
        exact Ev.pos h3 (no _)
      · refine Ev.neg h3 ?_
        by_cases h4 : (l1.length : Int) > 1000
        · rw [validDev_no (by unfold headDev; omega)]
          exact Ev.pos h4 (no _)
        · refine Ev.neg h4 ?_
          by_cases h5 : a2 < -1
          · rw [validDev_no (by unfold headDev; omega)]
            exact Ev.pos h5 (no _)
          · refine Ev.neg h5 ?_
            by_cases h6 : a2 > 1000000
            · rw [validDev_no (by unfold headDev; omega)]
              simp only [h6, decide_true]
              exact no _
            · rw [validDev_yes (by unfold headDev; omega)]
              refine Ev.step ⟨0, fun k _ => ?_⟩ (spec_loop_ev l0 l1 a2 a3 (l0.length / 64) h hp)
              simp only [spec_ValidDev.j0]
              rw [if_neg (by simp; omega)]
  · rw [validDev_no (by unfold headDev; omega)]
    exact Ev.neg h1 (no _)
theorem impl_sectors (l0 : List Int) (l1 : List S101) (a2 : Int) (a3 : Bool) (h0 : l0.length ≤ 4611686018427387904) : impl_Dev_sectors.f l0 l1 a2 a3 = some ((l0.length / 64 : Nat) : Int) := by
  simp only [impl_Dev_sectors.f]
  rw [w64 (by omega) (by omega)]
  congr 1
theorem impl_has (l0 : List Int) (l1 : List S101) (a2 : Int) (a3 : Bool) (s : Int) (h0 : l0.length ≤ 4611686018427387904) : impl_Dev_has.f l0 l1 a2 a3 s = some (decide (0 ≤ s ∧ s < ((l0.length / 64 : Nat) : Int))) := by
  simp only [impl_Dev_has.f, impl_sectors l0 l1 a2 a3 h0, Option.bind_some]
  by_cases h : s ≥ 0
  · rw [if_pos h]
    congr 1
    rw [decide_eq_decide]
    omega
  · rw [if_neg h]
    congr 1
    rw [eq_comm, decide_eq_false_iff_not]
    omega
theorem impl_loop_ev (l0 : List Int) (l1 : List S101) (a2 : Int) (a3 : Bool) (h0 : l0.length ≤ 4611686018427387904) (h : l1.length ≤ 4611686018427387904) (hp : ∀ p ∈ l1, p.f1.length ≤ 9223372036854775807) :
    Ev (fun k => impl_ValidDev.l0 k l1 (l1.length : Int) 0 l0 l1 a2 a3) (l1.all (okPend (l0.length / 64))) := by
  refine all_loop (fun k i => impl_ValidDev.l0 k l1 (l1.length : Int) i l0 l1 a2 a3) l1 (okPend (l0.length / 64)) ?_ ?_
  · intro i p hat hi
    refine ⟨0, fun k _ => ?_⟩
    simp only [impl_ValidDev.l0]
    rw [if_pos (by omega), if_pos (by omega), if_pos (by omega), rdP_at hat, w64s hi h, impl_has l0 l1 a2 a3 _ h0]
    simp only [Option.bind_some]
    by_cases h1 : 0 ≤ p.f0 ∧ p.f0 < ((l0.length / 64 : Nat) : Int)
    · rw [decide_eq_true h1, if_pos rfl]
      by_cases h3 : (p.f1.length : Int) = 64
      · rw [if_pos h3, if_pos (by simp only [okPend, decide_eq_true_eq]; omega)]
      · rw [if_neg h3, if_neg (by simp only [okPend, decide_eq_true_eq]; omega)]
    · rw [decide_eq_false h1, if_neg (by simp), if_neg (by simp only [okPend, decide_eq_true_eq]; omega)]
  · intro k
    simp only [impl_ValidDev.l0]
    rw [if_neg (by omega)]
theorem impl_ValidDev_ev (l0 : List Int) (l1 : List S101) (a2 : Int) (a3 : Bool) (h0 : l0.length ≤ 4611686018427387904) (h : l1.length ≤ 4611686018427387904) (hp : ∀ p ∈ l1, p.f1.length ≤ 9223372036854775807) :
    Ev (fun k => impl_ValidDev.f k l0 l1 a2 a3) (validDev l0 l1 a2) := by
  have no : Ev (fun k => impl_ValidDev.j0 k true l0 l1 a2 a3) false := Ev.last ⟨0, fun k _ => by simp only [impl_ValidDev.j0]; rw [if_pos trivial]⟩
  have no1 : Ev (fun k => impl_ValidDev.j1 k true l0 l1 a2 a3) false := Ev.last ⟨0, fun k _ => by simp only [impl_ValidDev.j1]; rw [if_pos trivial]⟩
  simp only [impl_ValidDev.f, impl_sectors l0 l1 a2 a3 h0, Option.bind_some]
  by_cases h1 : (l0.length : Int) % 64 = 0
  · refine Ev.pos h1 ?_
    by_cases h2 : ((l0.length / 64 : Nat) : Int) < 8
    · rw [validDev_no (by unfold headDev; omega)]
      exact Ev.pos h2 no
    · refine Ev.neg h2 ?_
      by_cases h3 : ((l0.length / 64 : Nat) : Int) > 256
      · rw [validDev_no (by unfold headDev; omega)]
        simp only [h3, decide_true]
        exact no
      · simp only [h3, decide_false]
        by_cases h4 : (l1.length : Int) > 1000
        · rw [validDev_no (by unfold headDev; omega)]
          refine Ev.step ⟨0, fun k _ => ?_⟩ no1
          simp only [impl_ValidDev.j0]
          rw [if_neg (by simp), if_pos h4]
        · by_cases h5 : a2 < -1
          · rw [validDev_no (by unfold headDev; omega)]
            refine Ev.step ⟨0, fun k _ => ?_⟩ no1
            simp only [impl_ValidDev.j0]
            rw [if_neg (by simp), if_neg h4, if_pos h5]
          · by_cases h6 : a2 > 1000000
            · rw [validDev_no (by unfold headDev; omega)]
              refine Ev.step ⟨0, fun k _ => ?_⟩ no1
              simp only [impl_ValidDev.j0]
              rw [if_neg (by simp), if_neg h4, if_neg h5, decide_eq_true h6]
            · rw [validDev_yes (by unfold headDev; omega)]
              refine Ev.step (g := fun k => impl_ValidDev.j1 k false l0 l1 a2 a3) ⟨0, fun k _ => ?_⟩ (Ev.step ⟨0, fun k _ => ?_⟩ (impl_loop_ev l0 l1 a2 a3 h0 h hp))
              · simp only [impl_ValidDev.j0]
                rw [if_neg (by simp), if_neg h4, if_neg h5, decide_eq_false h6]
              · simp only [impl_ValidDev.j1]
                rw [if_neg (by simp)]
  · rw [validDev_no (by unfold headDev; omega)]
    exact Ev.neg h1 no
end Go.Proofs.Ytbdbeccaopphaaa.P
