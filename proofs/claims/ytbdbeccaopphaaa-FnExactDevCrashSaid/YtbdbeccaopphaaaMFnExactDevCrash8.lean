/- Part 8 of 8 of the proof that the law FnExactDevCrash returns true at every input. No further condition. -/
import Derived.Laws.CopyOwn
import Derived.Test.YtbdbeccaopphaaaRows
import Derived.WalkKit
import Derived.ProofKit
import Derived.OpenShut
import Derived.ShutString
import Derived.ChangeOld
import Derived.Below
import Derived.SizedLaws
import Derived.Test.YtbdbeccaopphaaaMFnExactDevCrash7
namespace Go.Proofs.Ytbdbeccaopphaaa.Q
open Go.RowKit Go.Proofs.YtbdbeccaopphaaaW.PrintWords Go.Proofs.Ytbdbeccaopphaaa.O
def W139 (x : S139) : Prop := (Lit.int .i64 x.f0).wf = true ∧ (x.f1.length ≤ 9223372036854775807 ∧ ∀ z_ ∈ x.f1, (Lit.int .u8 z_).wf = true)
theorem opens_T139 : Opens Try.prog 139 k139 W139 := opens_struct Try.underlying139 (by kernel_rfl) (opensFs_cons rfl (by kernel_rfl) (opens_int Try.underlying2) (opensFs_one rfl (by kernel_rfl) (opens_slice Try.underlying23 (by kernel_rfl) (opens_int Try.underlying5)))) (fun x : S139 => (x.f0, x.f1)) (fun a => (⟨a.1, a.2⟩ : S139)) (fun _ => rfl)
def W42 (x : S42) : Prop := (x.f0.length ≤ 9223372036854775807 ∧ ∀ z_ ∈ x.f0, (Lit.int .u8 z_).wf = true) ∧ (x.f1.length ≤ 9223372036854775807 ∧ ∀ z_ ∈ x.f1, W139 z_) ∧ (Lit.int .i64 x.f2).wf = true ∧ True
theorem opens_T42 : Opens Try.prog 42 k42 W42 := opens_struct Try.underlying42 (by kernel_rfl) (opensFs_cons rfl (by kernel_rfl) (opens_slice Try.underlying23 (by kernel_rfl) (opens_int Try.underlying5)) (opensFs_cons rfl (by kernel_rfl) (opens_slice Try.underlying40 (by kernel_rfl) opens_T139) (opensFs_cons rfl (by kernel_rfl) (opens_int Try.underlying2) (opensFs_one rfl (by kernel_rfl) (opens_bool Try.underlying4))))) (fun x : S42 => (x.f0, x.f1, x.f2, x.f3)) (fun a => (⟨a.1, a.2.1, a.2.2.1, a.2.2.2⟩ : S42)) (fun _ => rfl)
def W55 (x : S55) : Prop := (x.f0.length ≤ 9223372036854775807 ∧ ∀ z_ ∈ x.f0, True) ∧ (Lit.int .i64 x.f1).wf = true ∧ (Lit.int .i64 x.f2).wf = true
theorem opens_T55 : Opens Try.prog 55 k55 W55 := opens_struct Try.underlying55 (by kernel_rfl) (opensFs_cons rfl (by kernel_rfl) (opens_slice Try.underlying53 (by kernel_rfl) (opens_bool Try.underlying4)) (opensFs_cons rfl (by kernel_rfl) (opens_int Try.underlying2) (opensFs_one rfl (by kernel_rfl) (opens_int Try.underlying2)))) (fun x : S55 => (x.f0, x.f1, x.f2)) (fun a => (⟨a.1, a.2.1, a.2.2⟩ : S55)) (fun _ => rfl)
def W152 (x : S152) : Prop := (Lit.int .i64 x.f0).wf = true ∧ (Lit.int .i64 x.f1).wf = true
theorem opens_T152 : Opens Try.prog 152 k152 W152 := opens_struct Try.underlying152 (by kernel_rfl) (opensFs_cons rfl (by kernel_rfl) (opens_int Try.underlying2) (opensFs_one rfl (by kernel_rfl) (opens_int Try.underlying2))) (fun x : S152 => (x.f0, x.f1)) (fun a => (⟨a.1, a.2⟩ : S152)) (fun _ => rfl)
def W71 (x : S71) : Prop := (x.f0.length ≤ 9223372036854775807 ∧ ∀ z_ ∈ x.f0, (Lit.int .i64 z_).wf = true) ∧ (x.f1.length ≤ 9223372036854775807 ∧ ∀ z_ ∈ x.f1, (Lit.int .i64 z_).wf = true) ∧ (Lit.int .i64 x.f2).wf = true ∧ (x.f3.length ≤ 9223372036854775807 ∧ ∀ z_ ∈ x.f3, W152 z_)
theorem opens_T71 : Opens Try.prog 71 k71 W71 := opens_struct Try.underlying71 (by kernel_rfl) (opensFs_cons rfl (by kernel_rfl) (opens_slice Try.underlying65 (by kernel_rfl) (opens_int Try.underlying2)) (opensFs_cons rfl (by kernel_rfl) (opens_slice Try.underlying65 (by kernel_rfl) (opens_int Try.underlying2)) (opensFs_cons rfl (by kernel_rfl) (opens_int Try.underlying2) (opensFs_one rfl (by kernel_rfl) (opens_slice Try.underlying69 (by kernel_rfl) opens_T152))))) (fun x : S71 => (x.f0, x.f1, x.f2, x.f3)) (fun a => (⟨a.1, a.2.1, a.2.2.1, a.2.2.2⟩ : S71)) (fun _ => rfl)
def W67 (x : S67) : Prop := (Lit.int .u32 x.f0).wf = true ∧ (Lit.int .u32 x.f1).wf = true ∧ (x.f2.length ≤ 9223372036854775807 ∧ ∀ z_ ∈ x.f2, (Lit.int .i64 z_).wf = true) ∧ (x.f3.length ≤ 9223372036854775807 ∧ ∀ z_ ∈ x.f3, (Lit.int .i64 z_).wf = true)
theorem opens_T67 : Opens Try.prog 67 k67 W67 := opens_struct Try.underlying67 (by kernel_rfl) (opensFs_cons rfl (by kernel_rfl) (opens_int Try.underlying24) (opensFs_cons rfl (by kernel_rfl) (opens_int Try.underlying24) (opensFs_cons rfl (by kernel_rfl) (opens_slice Try.underlying65 (by kernel_rfl) (opens_int Try.underlying2)) (opensFs_one rfl (by kernel_rfl) (opens_slice Try.underlying65 (by kernel_rfl) (opens_int Try.underlying2)))))) (fun x : S67 => (x.f0, x.f1, x.f2, x.f3)) (fun a => (⟨a.1, a.2.1, a.2.2.1, a.2.2.2⟩ : S67)) (fun _ => rfl)
def W149 (x : S149) : Prop := (Lit.int .u32 x.f0).wf = true ∧ (Lit.int .i64 x.f1).wf = true ∧ (Lit.int .u32 x.f2).wf = true ∧ (Lit.int .u32 x.f3).wf = true
theorem opens_T149 : Opens Try.prog 149 k149 W149 := opens_struct Try.underlying149 (by kernel_rfl) (opensFs_cons rfl (by kernel_rfl) (opens_int Try.underlying24) (opensFs_cons rfl (by kernel_rfl) (opens_int Try.underlying2) (opensFs_cons rfl (by kernel_rfl) (opens_int Try.underlying24) (opensFs_one rfl (by kernel_rfl) (opens_int Try.underlying24))))) (fun x : S149 => (x.f0, x.f1, x.f2, x.f3)) (fun a => (⟨a.1, a.2.1, a.2.2.1, a.2.2.2⟩ : S149)) (fun _ => rfl)
def W73 (x : S73) : Prop := True ∧ W67 x.f1 ∧ (x.f2.length ≤ 9223372036854775807 ∧ ∀ z_ ∈ x.f2, W149 z_) ∧ W71 x.f3 ∧ (Lit.int .u32 x.f4).wf = true
theorem opens_T73 : Opens Try.prog 73 k73 W73 := opens_struct Try.underlying73 (by kernel_rfl) (opensFs_cons rfl (by kernel_rfl) (opens_bool Try.underlying4) (opensFs_cons rfl (by kernel_rfl) opens_T67 (opensFs_cons rfl (by kernel_rfl) (opens_slice Try.underlying68 (by kernel_rfl) opens_T149) (opensFs_cons rfl (by kernel_rfl) opens_T71 (opensFs_one rfl (by kernel_rfl) (opens_int Try.underlying24)))))) (fun x : S73 => (x.f0, x.f1, x.f2, x.f3, x.f4)) (fun a => (⟨a.1, a.2.1, a.2.2.1, a.2.2.2.1, a.2.2.2.2⟩ : S73)) (fun _ => rfl)
end Go.Proofs.Ytbdbeccaopphaaa.Q
namespace Go.Proofs.Ytbdbeccaopphaaa.Q
open Go.RowKit Go.Proofs.YtbdbeccaopphaaaW.PrintWords Go.Proofs.YtbdbeccaopphaaaW.PrintLast Go.Proofs.Ytbdbeccaopphaaa.O
def laws_FnExactDevCrash.Pure : Prop := ∀ (x0 : S42) (x1 : S55) , W42 x0 → W55 x1 → ∃ k, laws_FnExactDevCrash.f k x0.f0 x0.f1 x0.f2 x0.f3 x1.f0 x1.f1 x1.f2 = some true
end Go.Proofs.Ytbdbeccaopphaaa.Q
namespace Go.Proofs.Ytbdbeccaopphaaa.P
open Go.RowKit Go.Proofs.YtbdbeccaopphaaaW.PrintWords Go.Proofs.Ytbdbeccaopphaaa.Q
set_option linter.unusedVariables false
set_option linter.unusedSimpArgs false
theorem costP_le {B : Nat} : ∀ (l : List S101), (∀ p ∈ l, p.f1.length ≤ B) → costP l ≤ l.length * (B + 1)
  | [], _ => by simp [costP]
  | p :: ps, h => by
    have h1 := costP_le ps (fun q hq => h q (List.mem_cons_of_mem _ hq))
    have h2 := h p (List.mem_cons_self ..)
    simp only [costP, List.length_cons, Nat.add_mul, Nat.one_mul]
    omega
theorem cost_small {l : List S101} (hl : l.length ≤ 2097152) (h : ∀ p ∈ l, p.f1.length ≤ 2097152) : costP l ≤ 4398048608256 := by
  have h1 := costP_le l h
  have h2 : l.length * (2097152 + 1) ≤ 2097152 * (2097152 + 1) := Nat.mul_le_mul_right _ hl
  omega
/-- A device whose parts are not long. -/
structure Small (l0 : List Int) (l1 : List S101) : Prop where
  disk : l0.length ≤ 2097152
  cache : l1.length ≤ 2097152
  data : ∀ p ∈ l1, p.f1.length ≤ 2097152
theorem Small.eq {l0 : List Int} {l1 : List S101} (h : Small l0 l1) (a2 : Int) (a3 : Bool) : Ev (fun k => laws_eqDev.f k l0 l1 a2 a3 l0 l1 a2 a3) true :=
  eqDev_ev l0 l1 a2 a3 (Nat.le_trans h.disk (by decide)) (Nat.le_trans h.cache (by decide)) (fun p hp => Nat.le_trans (h.data p hp) (by decide))
/-- A small device is marked, and the marks are held. -/
theorem Small.mark {l0 : List Int} {l1 : List S101} (h : Small l0 l1) (a2 : Int) (a3 : Bool) (m : Int) (h0 : 0 ≤ m) (h1 : m ≤ 4611681000000000000) :
    ∃ r, Ev (fun k => laws_markDev.f k l0 l1 a2 a3 m) r ∧ m ≤ r.1 ∧ r.1 ≤ m + 4398050705408 ∧ Ev (fun k => laws_heldDev.f k r.2.1 r.2.2 a2 a3 m) r.1 := by
  have hc := cost_small h.cache h.data
  have hd := h.disk
  have hk := h.cache
  exact ⟨_, markDev_ev l0 l1 a2 a3 m h0 (by omega) (by omega), by show m ≤ m + _ + _; omega, by show m + _ + _ ≤ _; omega, heldDev_ev l0 l1 a2 a3 m h0 (by omega) (by omega)⟩
theorem devArg (x : S42) (hx : W42 x) :
    ∃ t, Ev (fun k => laws_szDev.f k x.f0 x.f1 x.f2 x.f3 1048576) t ∧ (t < 0 ∨ (0 ≤ t ∧ t ≤ 1048576 ∧ x.f0.length ≤ 1048576 ∧ x.f1.length ≤ 1048576 ∧ (∀ p ∈ x.f1.map cvPend, p.f1.length ≤ 1048576) ∧ Small x.f0 (x.f1.map cvPend) ∧ Ev (fun k => laws_toDev.f k x.f0 x.f1 x.f2 x.f3) (x.f0, x.f1.map cvPend, x.f2, x.f3))) := by
  obtain ⟨⟨hl0, -⟩, ⟨hl1, hp1⟩, hf2, -⟩ := hx
  have hp : ∀ p ∈ x.f1, p.f1.length ≤ 9223372036854775807 := fun p hp => (hp1 p hp).2.1
  obtain ⟨t, ht, hc⟩ := szDev_ev x.f0 x.f1 x.f2 x.f3 1048576 (by decide) (by decide) hl0 hl1 hp
  refine ⟨t, ht, ?_⟩
  rcases hc with hc | ⟨hc, hc1, h0, h1, h2⟩
  · exact .inl hc
  · have hm : ∀ p ∈ x.f1.map cvPend, p.f1.length ≤ 1048576 := by
      intro p hp
      obtain ⟨q, hq, rfl⟩ := List.mem_map.1 hp
      have := h2 q hq
      show q.f1.length ≤ _
      omega
    refine .inr ⟨hc, hc1, by omega, by omega, hm, ⟨by omega, by rw [List.length_map]; omega, fun p hp => by have := hm p hp; omega⟩, toDev_ev x.f0 x.f1 x.f2 x.f3 (by omega) (by omega) (fun p hp => by have := h2 p hp; omega)⟩
end Go.Proofs.Ytbdbeccaopphaaa.P
namespace Go.Proofs.Ytbdbeccaopphaaa.P
open Go.RowKit Go.Proofs.YtbdbeccaopphaaaW.PrintWords Go.Proofs.Ytbdbeccaopphaaa.Q
set_option linter.unusedVariables false
set_option linter.unusedSimpArgs false
theorem toBoolS_ev (l : List Bool) (h : l.length ≤ 281474976710656) : Ev (fun k => laws_toBoolS.f k l) l := by
  have h1 := copy_ends (fun k y i => laws_toBoolS.l0 k l y i) id l (List.replicate ((l.length : Int)).toNat false) (by simp) ?_ ?_
  · rw [List.map_id] at h1
    refine Ev.congr (fun k => ?_) h1
    simp only [laws_toBoolS.f]
    rw [if_pos (by omega), if_pos (by omega)]
  · intro i a y ha hi hy
    refine ⟨0, fun k _ => ?_⟩
    simp only [laws_toBoolS.l0]
    rw [if_pos (by omega), if_pos (by omega), if_pos (by omega), w64s hi (by omega), rdOf_at ha]
    rfl
  · intro k y hy
    simp only [laws_toBoolS.l0]
    rw [if_neg (by omega)]
theorem eqBoolS_ev (l : List Bool) (h : l.length ≤ 4611686018427387904) : Ev (fun k => laws_eqBoolS.f k l l) true := by
  refine Ev.congr (fun k => ?_) (each_ends (fun k i => laws_eqBoolS.l0 k l l i) l.length true ?_ ?_)
  · simp only [laws_eqBoolS.f]
    rw [if_pos trivial]
  · intro i hi
    refine ⟨0, fun k _ => ?_⟩
    simp only [laws_eqBoolS.l0]
    rw [if_pos (by omega), if_pos (by omega), if_pos (by omega), if_neg (by simp), w64s hi (by omega)]
  · intro k
    simp only [laws_eqBoolS.l0]
    rw [if_neg (by omega)]
theorem szBoolS_is (l : List Bool) (a : Int) (h0 : 0 ≤ a) (h1 : a ≤ 1048576) (hl : l.length ≤ 9223372036854775807) : ∃ t, laws_szBoolS.f l a = some t ∧ (t < 0 ∨ (t = a - l.length ∧ 0 ≤ t)) := by
  simp only [laws_szBoolS.f]
  rw [w64 (by omega) (by omega)]
  by_cases h : a - (l.length : Int) < 0
  · rw [if_pos h]
    exact ⟨_, rfl, .inl (by omega)⟩
  · rw [if_neg h]
    exact ⟨_, rfl, .inr ⟨rfl, by omega⟩⟩
def mkBoolS (m : Int) (n : Nat) : List Bool := ups (fun c => Int.tmod c 3 == 0) m n
theorem mkBoolS_length (m : Int) (n : Nat) : (mkBoolS m n).length = n := ups_length _ _ _
theorem mkBoolS_at (m : Int) {n i : Nat} (h : i < n) : (mkBoolS m n)[i]? = some ((fun c => Int.tmod c 3 == 0) (m + i)) := ups_at _ m h
theorem markBoolS_ev (l : List Bool) (m : Int) (h0 : 0 ≤ m) (hm : m + l.length ≤ 4611686018427387904) : Ev (fun k => laws_markBoolS.f k l m) (m + l.length, mkBoolS m l.length) := by
  refine mark_ends (fun k y c i => laws_markBoolS.l0 k y c i) (fun c => Int.tmod c 3 == 0) l m h0 hm ?_ ?_
  · intro k i y c hi hy
    simp only [laws_markBoolS.l0]
    rw [if_pos (by omega), if_pos (by omega)]
    rfl
  · intro k y c hy
    simp only [laws_markBoolS.l0]
    rw [if_neg (by omega)]
end Go.Proofs.Ytbdbeccaopphaaa.P
namespace Go.Proofs.Ytbdbeccaopphaaa.P
open Go.RowKit Go.Proofs.YtbdbeccaopphaaaW.PrintWords Go.Proofs.Ytbdbeccaopphaaa.Q
set_option linter.unusedVariables false
set_option linter.unusedSimpArgs false
theorem over_is (l : List Int) (s : Int) (data : List Int) (h0 : 0 ≤ s) (h1 : s * 64 + data.length ≤ l.length) (hl : l.length ≤ 2097152) : spec_l1Over.f l s data = some (splice l (s * 64).toNat data) := by
  have e1 : wrap64 (s * 64) = s * 64 := w64 (n := s * 64) (by omega) (by omega)
  have e2 : wrap64 (s * 64 + (data.length : Int)) = s * 64 + data.length := w64 (n := s * 64 + data.length) (by omega) (by omega)
  simp only [spec_l1Over.f, e1, e2, Option.bind_some, List.length_nil, List.nil_append]
  clear e1 e2
  rw [if_pos (by omega), if_pos (by omega), if_pos (by rw [List.length_take]; omega), if_pos (by rw [List.length_take]; omega), if_pos (by omega), if_pos (by omega), if_pos (by rw [List.length_append, List.length_take, List.length_drop]; omega)]
  unfold splice
  rw [show (s * 64 + (data.length : Int)).toNat = (s * 64).toNat + data.length from by omega, List.append_assoc]
end Go.Proofs.Ytbdbeccaopphaaa.P
namespace Go.Proofs.Ytbdbeccaopphaaa.Pure
open Go.RowKit Go.Proofs.Ytbdbeccaopphaaa.Q Go.Proofs.Ytbdbeccaopphaaa.P
set_option linter.unusedVariables false
theorem crash_step {l : List Int} {ps : List S101} {keep : List Bool} {tear at_ : Int} {i : Nat} {p : S101} (h : ps[i]? = some p) : crashTo l ps keep tear at_ (i + 1) = splice (crashTo l ps keep tear at_ i) (p.f0 * 64).toNat (p.f1.take (crashN keep tear at_ i)) := by rw [crashTo, h]
theorem splice_none {l : List Int} {o : Nat} : splice l o ([] : List Int) = l := by unfold splice; simp
theorem crash_loop_ev (l0 : List Int) (l1 : List S101) (a2 : Int) (a3 : Bool) (keep : List Bool) (tear at_ : Int) (hl : l0.length ≤ 1048576) (h : l1.length ≤ 1048576) (hd : ∀ p ∈ l1, 0 ≤ p.f0 ∧ p.f0 < ((l0.length / 64 : Nat) : Int) ∧ p.f1.length = 64) (hk : keep.length ≤ 1048576) (x : Int) (hx : x = min (max at_ 0) 64) :
    Ev (fun k => spec_DevCrash.l0 k x l0 0 l0 l1 a2 a3 keep tear at_) (crashTo l0 l1 keep tear at_ l1.length, [], -1, false) := by
  refine Ev.loop0 (fun k (s : List Int × Int) => spec_DevCrash.l0 k x s.1 s.2 l0 l1 a2 a3 keep tear at_) (fun i => (crashTo l0 l1 keep tear at_ i, (i : Int))) l1.length (crashTo l0 l1 keep tear at_ l1.length, [], -1, false) ?_ ?_
  · intro i hi
    obtain ⟨p, hat⟩ := some_at hi
    have hq := hd p (List.mem_of_getElem? hat)
    have hlen := crashTo_length l0 l1 keep tear at_ (fun q hq => by have := hd q hq; omega) i
    refine ⟨0, fun k _ => ?_⟩
    simp only [spec_DevCrash.l0]
    rw [crash_step hat, if_pos (by omega), rdP_at hat, w64s hi (by omega)]
    by_cases ht : (i : Int) = tear
    · rw [if_pos ht, if_pos (by omega), if_pos (by omega), if_pos (by omega), over_is _ _ _ hq.1 (by rw [List.length_take]; omega) (by omega)]
      rw [show crashN keep tear at_ i = x.toNat from by unfold crashN; rw [if_pos ht, hx]]
      rfl
    · rw [if_neg ht]
      by_cases hkl : (i : Int) < (keep.length : Int)
      · rw [if_pos hkl, if_pos (by omega)]
        obtain ⟨b, hb⟩ := some_at (show i < keep.length by omega)
        rw [rdOf_at hb]
        have hg : keep.getD i false = b := by rw [List.getD_eq_getElem?_getD, hb]; rfl
        cases b with
        | true =>
          rw [if_pos rfl, over_is _ _ _ hq.1 (by omega) (by omega)]
          rw [show crashN keep tear at_ i = 64 from by unfold crashN; rw [if_neg ht, hg]; rfl, List.take_of_length_le (by omega)]
          rfl
        | false =>
          rw [if_neg (by simp)]
          rw [show crashN keep tear at_ i = 0 from by unfold crashN; rw [if_neg ht, hg]; rfl, List.take_zero, splice_none]
      · rw [if_neg hkl]
        rw [show crashN keep tear at_ i = 0 from by unfold crashN; rw [if_neg ht, List.getD_eq_getElem?_getD, List.getElem?_eq_none (by omega)]; rfl, List.take_zero, splice_none]
  · refine Ev.last ⟨0, fun k _ => ?_⟩
    simp only [spec_DevCrash.l0]
    rw [if_neg (by omega)]
theorem spec_crash_ev (l0 : List Int) (l1 : List S101) (a2 : Int) (a3 : Bool) (keep : List Bool) (tear at_ : Int) (hl : l0.length ≤ 1048576) (h : l1.length ≤ 1048576) (hp : ∀ p ∈ l1, p.f1.length ≤ 1048576) (hk : keep.length ≤ 1048576) :
    Ev (fun k => spec_DevCrash.f k l0 l1 a2 a3 keep tear at_) (devCrashed l0 l1 a2 keep tear at_) := by
  have ev := spec_ValidDev_ev l0 l1 a2 a3 (by omega) (by omega) (fun p hq => by have := hp p hq; omega)
  simp only [spec_DevCrash.f]
  unfold devCrashed
  refine Ev.bind ev ?_
  by_cases hv : validDev l0 l1 a2 = true
  case neg =>
    rw [if_neg hv]
    exact Ev.neg hv (Ev.const rfl)
  rw [if_pos hv]
  refine Ev.pos hv ?_
  have hd := (validDev_is.1 hv).2
  have j1 : ∀ x, x = min (max at_ 0) 64 → Ev (fun k => spec_DevCrash.j1 k x l0 l1 a2 a3 keep tear at_) (crashTo l0 l1 keep tear at_ l1.length, [], -1, false) := fun x hx => by
    refine Ev.step (g := fun k => spec_DevCrash.l0 k x l0 0 l0 l1 a2 a3 keep tear at_) ⟨0, fun k _ => ?_⟩ (crash_loop_ev l0 l1 a2 a3 keep tear at_ hl h hd hk x hx)
    simp only [spec_DevCrash.j1, Option.bind_some, List.length_nil, List.nil_append]
    rw [if_pos (by omega)]
  have j0 : ∀ x, x = max at_ 0 → Ev (fun k => spec_DevCrash.j0 k x l0 l1 a2 a3 keep tear at_) (crashTo l0 l1 keep tear at_ l1.length, [], -1, false) := fun x hx => by
    by_cases h64 : x > 64
    · refine Ev.step (g := fun k => spec_DevCrash.j1 k 64 l0 l1 a2 a3 keep tear at_) ⟨0, fun k _ => ?_⟩ (j1 64 (by omega))
      simp only [spec_DevCrash.j0]
      rw [if_pos h64]
    · refine Ev.step (g := fun k => spec_DevCrash.j1 k x l0 l1 a2 a3 keep tear at_) ⟨0, fun k _ => ?_⟩ (j1 x (by omega))
      simp only [spec_DevCrash.j0]
      rw [if_neg h64]
  by_cases hn : at_ < 0
  · exact Ev.pos hn (j0 0 (by omega))
  · exact Ev.neg hn (j0 at_ (by omega))
theorem crash_small (l0 : List Int) (l1 : List S101) (a2 : Int) (keep : List Bool) (tear at_ : Int) (h0 : l0.length ≤ 1048576) :
    ∃ (m0 : List Int) (m1 : List S101) (b2 : Int) (b3 : Bool), devCrashed l0 l1 a2 keep tear at_ = (m0, m1, b2, b3) ∧ Small m0 m1 := by
  unfold devCrashed
  by_cases hv : validDev l0 l1 a2 = true
  · rw [if_pos hv]
    have hd := (validDev_is.1 hv).2
    have hlen := crashTo_length l0 l1 keep tear at_ (fun q hq => by have := hd q hq; omega) l1.length
    exact ⟨_, _, _, _, rfl, ⟨by omega, by simp, fun p hpm => by cases hpm⟩⟩
  · rw [if_neg hv]
    exact ⟨_, _, _, _, rfl, ⟨by simp, by simp, fun p hpm => by cases hpm⟩⟩
theorem FnExactDevCrash : laws_FnExactDevCrash.Pure := by
  intro x y hx hy
  obtain ⟨⟨hky, -⟩, -, -⟩ := hy
  refine Ev.ex (f := fun k => laws_FnExactDevCrash.f k x.f0 x.f1 x.f2 x.f3 y.f0 y.f1 y.f2) ?_
  simp only [laws_FnExactDevCrash.f]
  obtain ⟨t, ht, hc⟩ := devArg x hx
  refine Ev.bind ht ?_
  rcases hc with hc | ⟨hc, hc1, h0, h1, hm, hS, ev⟩
  · exact Ev.pos hc (Ev.const rfl)
  refine Ev.neg (by omega) ?_
  obtain ⟨u, hu, hcu⟩ := szBoolS_is y.f0 t hc hc1 hky
  rcases hcu with hcu | ⟨hcu, hcu0⟩
  · have hz : laws_szCrash.f y.f0 y.f1 y.f2 t = some (-1) := by
      simp only [laws_szCrash.f, hu, Option.bind_some]
      rw [if_pos hcu]
    exact Ev.bind (Ev.const hz) (Ev.pos (by decide) (Ev.const rfl))
  have hz : laws_szCrash.f y.f0 y.f1 y.f2 t = some u := by
    simp only [laws_szCrash.f, hu, Option.bind_some]
    rw [if_neg (by omega)]
  refine Ev.bind (Ev.const hz) (Ev.neg (by omega) ?_)
  have hkl : y.f0.length ≤ 1048576 := by omega
  have hlen : (x.f1.map cvPend).length ≤ 1048576 := by rw [List.length_map]; omega
  have ec : Ev (fun k => laws_toCrash.f k y.f0 y.f1 y.f2) (y.f0, y.f1, y.f2) := by
    simp only [laws_toCrash.f]
    exact Ev.bind (toBoolS_ev y.f0 (by omega)) (Ev.const rfl)
  have eqc : Ev (fun k => laws_eqCrash.f k y.f0 y.f1 y.f2 y.f0 y.f1 y.f2) true := by
    simp only [laws_eqCrash.f]
    exact Ev.bind (eqBoolS_ev y.f0 (by omega)) (Ev.pos rfl (Ev.pos trivial (Ev.pos trivial (Ev.const rfl))))
  have es := spec_crash_ev x.f0 (x.f1.map cvPend) x.f2 x.f3 y.f0 y.f1 y.f2 h0 hlen hm hkl
  have ei : impl_DevCrash.f x.f0 (x.f1.map cvPend) x.f2 x.f3 y.f0 y.f1 y.f2 = some (devCrashed x.f0 (x.f1.map cvPend) x.f2 y.f0 y.f1 y.f2) := by
    unfold impl_DevCrash.f
    exact if_pos ⟨by omega, by omega, fun p hp => by have := hm p hp; omega, by omega⟩
  obtain ⟨m0, m1, b2, b3, hr, hSr⟩ := crash_small x.f0 (x.f1.map cvPend) x.f2 y.f0 y.f1 y.f2 h0
  rw [hr] at es ei
  obtain ⟨m, emd, hm1, hm2, -⟩ := hS.mark x.f2 x.f3 1 (by decide) (by decide)
  obtain ⟨n, end_, hn1, -, ehd⟩ := hSr.mark b2 b3 1 (by decide) (by decide)
  have emc : Ev (fun k => laws_markCrash.f k y.f0 y.f1 y.f2 m.1) (m.1 + y.f0.length, mkBoolS m.1 y.f0.length) := by
    simp only [laws_markCrash.f]
    exact Ev.bind (markBoolS_ev y.f0 m.1 (by omega) (by omega)) (Ev.const rfl)
  have eq := hSr.eq b2 b3
  exact Ev.bind ev (Ev.bind ec (Ev.bind es (Ev.bind ev (Ev.bind ec (Ev.bind (Ev.const ei) (Ev.bind eq (Ev.pos rfl (Ev.bind ev (Ev.bind (hS.eq x.f2 x.f3) (Ev.pos rfl (Ev.bind ec (Ev.bind eqc (Ev.pos rfl (Ev.bind emd (Ev.bind emc (Ev.neg (by show ¬ m.1 + (y.f0.length : Int) < 0; omega) (Ev.bind eq (Ev.pos rfl (Ev.bind end_ (Ev.bind ehd (Ev.neg (by omega) (Ev.pos rfl (Ev.bind ev (Ev.bind ec (Ev.bind (Ev.const ei) (Ev.bind eq (Ev.pos rfl (Ev.const rfl))))))))))))))))))))))))))))
end Go.Proofs.Ytbdbeccaopphaaa.Pure
namespace Go.Proofs.Ytbdbeccaopphaaa.fnExactDevCrash
open Go.ChangeShapes Go.WideShapes Go.ChangeAt Go.RowKit Go.Proofs.Ytbdbeccaopphaaa.Q Go.Proofs.YtbdbeccaopphaaaW.PrintWords Go.Proofs.Ytbdbeccaopphaaa.O
open Go.ChangeMaps (open_string shut_string)
set_option linter.unusedVariables false
theorem own : ownKnob Try.prog.godebug = none := by kernel_rfl
theorem laidOut : laidOutB Try.prog = true := by kernel_rfl
set_option maxRecDepth 100000 in
theorem lifted (os : Os) (started : os.Started) (H : Type) (enc : TypeId × Value → H) :
    ReturnsInHanded {} Try.checked os 11 .any (Rows.fnExactDevCrashSpec.pre6 enc Try.prog Try.f11 Rows.fnExactDevCrashRow.domain false) (Rows.fnExactDevCrashSpec.post enc Try.prog Try.f11 false true false false) := by
  refine returnsInHanded_of_change_sized (C := Try.checked) own started (by kernel_rfl) Try.func11
    (ChangeSpec.witness6 (enc := enc) (C := Try.checked) false ⟨#[], #[.agg #[.slice none 0 0, .slice none 0 0, .int .i64 0, .bool false], .agg #[.slice none 0 0, .int .i64 0, .int .i64 0]], []⟩ 8 (by kernel_rfl) (by kernel_rfl) (by kernel_rfl) (by kernel_rfl)) ?_
  intro W base args ds gs before hval0 hW hcnd hsz0 _
  have hval : ∀ (j : Nat) t v, Try.f11.params[j]? = some t → args[j]? = some v → Value.okWide Try.prog W .any base t v := hval0
  have hW' := hW
  obtain ⟨p, q, hA0, hV, rfl, hfz, hnd⟩ := hW
  have hA : DataW.TrodAll enc Try.prog W 0 (fun _ => true) true Try.f11.params.toList args.toList ds p := hA0
  rw [Try.params11] at hA hval
  obtain ⟨v0, vs0, d0, ds0, p0, q0, hargs, rfl, rfl, h0, r0⟩ := trodAll_cons hA
  obtain ⟨v1, vs1, d1, ds1, p1, q1, rfl, rfl, rfl, h1, r1⟩ := trodAll_cons r0
  obtain ⟨rfl, rfl, rfl⟩ := trodAll_nil r1
  obtain rfl : args = #[v0, v1] := by cases args; simp_all
  obtain ⟨rfl, rfl⟩ := trodVars_none hV
  have k0 := h0
  have lt0 : ∀ x ∈ p0, x.block < W.heap.size := by obtain ⟨m, hm⟩ := k0; exact DataW.trod_lt m _ _ _ hm
  obtain ⟨cs0, rfl, _⟩ := okWide_struct Try.underlying42 (hval 0 42 v0 rfl rfl)
  obtain ⟨x0, hk0, w0⟩ : ∃ x, (k42).K W x cs0.toList ∧ W42 x := by
    obtain ⟨fuel, hf⟩ := h0
    exact opens_T42 H enc W fuel _ _ hf
  obtain ⟨cs0⟩ := cs0
  obtain ⟨A0_0, c0_0, A0_1, c0_1, h_0, m0_0, g0_0, m0_1, g0_1⟩ := k42_open hk0
  obtain rfl := (show cs0 = _ from h_0)
  have k1 := h1
  have lt1 : ∀ x ∈ p1, x.block < W.heap.size := by obtain ⟨m, hm⟩ := k1; exact DataW.trod_lt m _ _ _ hm
  obtain ⟨cs1, rfl, _⟩ := okWide_struct Try.underlying55 (hval 1 55 v1 rfl rfl)
  obtain ⟨x1, hk1, w1⟩ : ∃ x, (k55).K W x cs1.toList ∧ W55 x := by
    obtain ⟨fuel, hf⟩ := h1
    exact opens_T55 H enc W fuel _ _ hf
  obtain ⟨cs1⟩ := cs1
  obtain ⟨A1_0, c1_0, h_1, m1_0, g1_0⟩ := k55_open hk1
  obtain rfl := (show cs1 = _ from h_1)
  clear hA0 hval0 hsz0
  obtain ⟨k, hp⟩ := Pure.FnExactDevCrash x0 x1 w0 w1
  refine (laws_FnExactDevCrash.calls k _ _ x0.f0 _ _ x0.f1 x0.f2 x0.f3 _ _ x1.f0 x1.f1 x1.f2 W g0_0 m0_0 g0_1 m0_1 g1_0 m1_0 hp).mono fun e W' ⟨he, bel⟩ => ?_
  subst he
  exact ⟨_, rfl, _, _, _, [], _, [], hW', trodAll_mk1 (shut_bool Try.underlying4 _), (trodAll_cons_mk (Below.trod laidOut (by kernel_rfl) (of_decide_eq_true (by kernel_rfl)) k0 bel lt0) (trodAll_cons_mk (Below.trod laidOut (by kernel_rfl) (of_decide_eq_true (by kernel_rfl)) k1 bel lt1) trodAll_mk0)), rfl, bel.frame _, fun h => by cases h⟩
theorem over : Rows.fnExactDevCrashRow.holds Try.pinned (OpenSpec.ofChange Rows.fnExactDevCrashSpec) :=
  OpenClaim.holds_of_wide 11 Try.f11 rfl rfl rfl rfl rfl rfl rfl ⟨rfl, rfl, rfl, rfl, rfl⟩ rfl rfl rfl rfl rfl (by kernel_rfl) Try.func11 (by kernel_rfl)
    (of_decide_eq_true (by kernel_rfl)) (by unfold Func.isWrapper; first | (rw [if_pos (by decide +kernel)]; kernel_rfl) | (rw [if_neg (by decide +kernel)]; exact ⟨rfl, rfl⟩))
    (fun os started H enc _ => lifted os started H enc)
theorem proved : Rows.FnExactDevCrashSaid := over
#print axioms proved
end Go.Proofs.Ytbdbeccaopphaaa.fnExactDevCrash
namespace Go.Proofs.Ytbdbeccaopphaaa
/-- The row, under a short name, for the claim. -/
theorem fnExactDevCrash_holds : Rows.FnExactDevCrashSaid := fnExactDevCrash.proved
end Go.Proofs.Ytbdbeccaopphaaa
