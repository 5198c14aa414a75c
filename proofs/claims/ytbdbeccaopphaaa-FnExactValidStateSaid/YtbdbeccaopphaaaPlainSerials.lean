/- Lists of serials: when they are good, and what is found in them. No further condition. -/
import Derived.Test.YtbdbeccaopphaaaPlain
import Derived.Test.YtbdbeccaopphaaaQimplgoodSerials
import Derived.Test.YtbdbeccaopphaaaQspecl5Serials
import Derived.Test.YtbdbeccaopphaaaQspecl5Holds
import Derived.Test.YtbdbeccaopphaaaQslicesBinarySearchint64int64
namespace Go.Proofs.Ytbdbeccaopphaaa.P
open Go.RowKit Go.Proofs.YtbdbeccaopphaaaW.PrintWords Go.Proofs.YtbdbeccaopphaaaW.PrintMore Go.Proofs.Ytbdbeccaopphaaa.Q
set_option linter.unusedVariables false
set_option linter.unusedSimpArgs false
/-- A loop that asks one thing of every place. -/
theorem Ev.all {L : Nat → Nat → Option Bool} (P : Nat → Bool) (n : Nat) (hs : ∀ i, i < n → P i = true → ∃ K, ∀ k, K ≤ k → L (k + 1) i = L k (i + 1)) (hb : ∀ i, i < n → P i = false → ∃ K, ∀ k, K ≤ k → L (k + 1) i = some false)
    (he : ∃ K, ∀ k, K ≤ k → L (k + 1) n = some true) : ∀ m i, i + m = n → Ev (fun k => L k i) ((List.range' i m).all P)
  | 0, i, h => by
    obtain rfl : i = n := by omega
    exact Ev.last he
  | m + 1, i, h => by
    rw [List.range'_succ, List.all_cons]
    cases hp : P i with
    | true => rw [Bool.true_and]; exact Ev.step (hs i (by omega) hp) (Ev.all P n hs hb he m (i + 1) (by omega))
    | false => rw [Bool.false_and]; exact Ev.last (hb i (by omega) hp)
theorem Ev.all0 {L : Nat → Nat → Option Bool} (P : Nat → Bool) (n : Nat) (hs : ∀ i, i < n → P i = true → ∃ K, ∀ k, K ≤ k → L (k + 1) i = L k (i + 1)) (hb : ∀ i, i < n → P i = false → ∃ K, ∀ k, K ≤ k → L (k + 1) i = some false)
    (he : ∃ K, ∀ k, K ≤ k → L (k + 1) n = some true) : Ev (fun k => L k 0) ((List.range n).all P) := by
  rw [List.range_eq_range']
  exact Ev.all P n hs hb he n 0 (by omega)
/-- Place i of a good list. -/
def okAt (l : List Int) (i : Nat) : Bool := decide (0 ≤ rd l i ∧ rd l i < 256 ∧ (0 < i → rd l ((i : Int) - 1) < rd l i))
def goodS (l : List Int) : Bool := (List.range l.length).all (okAt l)
theorem impl_good_ev (l : List Int) (h : l.length ≤ 4611686018427387904) : Ev (fun k => impl_goodSerials.f k l) (goodS l) := by
  simp only [impl_goodSerials.f]
  refine Ev.all0 (L := fun k i => impl_goodSerials.l0 k l l (l.length : Int) (i : Int)) (okAt l) l.length ?_ ?_ ?_
  · intro i hi hp
    refine ⟨0, fun k _ => ?_⟩
    have hp := of_decide_eq_true hp
    simp only [impl_goodSerials.l0]
    rw [if_pos (by omega), if_pos (by omega), if_pos (by omega), if_neg (by omega), if_neg (by omega), w64s hi (by omega)]
    by_cases h0 : (i : Int) > 0
    · rw [if_pos h0, w64 (n := (i : Int) - 1) (by omega) (by omega), if_pos (by omega), if_pos (by omega), if_neg (by have := hp.2.2 (by omega); omega)]
    · rw [if_neg h0]
  · intro i hi hp
    refine ⟨0, fun k _ => ?_⟩
    have hp := of_decide_eq_false hp
    simp only [impl_goodSerials.l0]
    rw [if_pos (by omega), if_pos (by omega), if_pos (by omega)]
    by_cases c1 : rd l (i : Int) < 0
    · rw [if_pos c1]
    rw [if_neg c1]
    by_cases c2 : rd l (i : Int) ≥ 256
    · rw [if_pos c2]
    rw [if_neg c2]
    by_cases h0 : (i : Int) > 0
    · rw [if_pos h0, w64 (n := (i : Int) - 1) (by omega) (by omega), if_pos (by omega), if_pos (by omega), if_pos (by
        by_cases c3 : rd l ((i : Int) - 1) ≥ rd l (i : Int)
        · exact c3
        · exact absurd ⟨by omega, by omega, fun _ => by omega⟩ hp)]
    · exact absurd ⟨by omega, by omega, fun h => by omega⟩ hp
  · refine ⟨0, fun k _ => ?_⟩
    simp only [impl_goodSerials.l0]
    rw [if_neg (by omega)]
theorem spec_good_ev (l : List Int) (h : l.length ≤ 4611686018427387904) : Ev (fun k => spec_l5Serials.f k l) (goodS l) := by
  simp only [spec_l5Serials.f]
  refine Ev.all0 (L := fun k i => spec_l5Serials.l0 k l (i : Int)) (okAt l) l.length ?_ ?_ ?_
  · intro i hi hp
    refine ⟨0, fun k _ => ?_⟩
    have hp := of_decide_eq_true hp
    simp only [spec_l5Serials.l0]
    rw [if_pos (by omega), if_pos (by omega), if_neg (by omega), if_neg (by omega), w64s hi (by omega)]
    by_cases h0 : (i : Int) > 0
    · rw [if_pos h0, w64 (n := (i : Int) - 1) (by omega) (by omega), if_pos (by omega), if_pos (by omega), if_neg (by have := hp.2.2 (by omega); omega)]
    · rw [if_neg h0]
  · intro i hi hp
    refine ⟨0, fun k _ => ?_⟩
    have hp := of_decide_eq_false hp
    simp only [spec_l5Serials.l0]
    rw [if_pos (by omega), if_pos (by omega)]
    by_cases c1 : rd l (i : Int) < 0
    · rw [if_pos c1]
    rw [if_neg c1]
    by_cases c2 : rd l (i : Int) ≥ 256
    · rw [if_pos c2]
    rw [if_neg c2]
    by_cases h0 : (i : Int) > 0
    · rw [if_pos h0, w64 (n := (i : Int) - 1) (by omega) (by omega), if_pos (by omega), if_pos (by omega), if_pos (by
        by_cases c3 : rd l ((i : Int) - 1) ≥ rd l (i : Int)
        · exact c3
        · exact absurd ⟨by omega, by omega, fun _ => by omega⟩ hp)]
    · exact absurd ⟨by omega, by omega, fun h => by omega⟩ hp
  · refine ⟨0, fun k _ => ?_⟩
    simp only [spec_l5Serials.l0]
    rw [if_neg (by omega)]
theorem goodS_at {l : List Int} (h : goodS l = true) {i : Nat} (hi : i < l.length) : 0 ≤ rd l i ∧ rd l i < 256 ∧ (0 < i → rd l ((i : Int) - 1) < rd l i) :=
  of_decide_eq_true (List.all_eq_true.1 h i (List.mem_range.2 hi))
theorem goodS_lt {l : List Int} (h : goodS l = true) : ∀ (j i : Nat), i < j → j < l.length → rd l i < rd l j
  | 0, i, hij, _ => by omega
  | j + 1, i, hij, hj => by
    have h1 := (goodS_at h hj).2.2 (by omega)
    rw [show ((j + 1 : Nat) : Int) - 1 = (j : Int) from by omega] at h1
    by_cases e : i = j
    · subst e; exact h1
    · have h2 := goodS_lt h j i (by omega) (by omega)
      omega
theorem rd_mem {l : List Int} {i : Nat} (hi : i < l.length) : rd l i ∈ l := by
  obtain ⟨x, hx⟩ := some_at hi
  rw [rd_at hx]
  exact List.mem_of_getElem? hx
theorem mem_rd {l : List Int} {x : Int} (h : x ∈ l) : ∃ i, i < l.length ∧ rd l (i : Int) = x := by
  obtain ⟨i, hi⟩ := List.mem_iff_getElem?.1 h
  exact ⟨i, (List.getElem?_eq_some_iff.1 hi).1, rd_at hi⟩
theorem goodS_mem {l : List Int} (h : goodS l = true) {x : Int} (hx : x ∈ l) : 0 ≤ x ∧ x < 256 := by
  obtain ⟨i, hi, rfl⟩ := mem_rd hx
  exact ⟨(goodS_at h hi).1, (goodS_at h hi).2.1⟩
theorem holds_ev (l : List Int) (x : Int) (h : l.length ≤ 4611686018427387904) : Ev (fun k => spec_l5Holds.f k l x) (decide (x ∈ l)) := by
  simp only [spec_l5Holds.f]
  have hx : decide (x ∈ l) = !((List.range l.length).all fun i => decide (rd l i ≠ x)) := by
    by_cases hm : x ∈ l
    · obtain ⟨i, hi, e⟩ := mem_rd hm
      have : ((List.range l.length).all fun i => decide (rd l i ≠ x)) = false := by
        rw [List.all_eq_false]
        exact ⟨i, List.mem_range.2 hi, by simp [e]⟩
      rw [this, decide_eq_true hm]; rfl
    · have : ((List.range l.length).all fun i => decide (rd l i ≠ x)) = true := by
        rw [List.all_eq_true]
        exact fun i hi => decide_eq_true (fun e => hm (e ▸ rd_mem (List.mem_range.1 hi)))
      rw [this, decide_eq_false hm]; rfl
  have hn : ∀ m i, i + m = l.length → Ev (fun k => spec_l5Holds.l0 k l x (i : Int)) (!((List.range' i m).all fun i => decide (rd l i ≠ x))) := by
    intro m
    induction m with
    | zero =>
      intro i hi
      refine Ev.last ⟨0, fun k _ => ?_⟩
      simp only [spec_l5Holds.l0]
      rw [if_neg (by omega)]
      rfl
    | succ m ih =>
      intro i hi
      rw [List.range'_succ, List.all_cons]
      by_cases c : rd l (i : Int) = x
      · rw [decide_eq_false (by simp [c]), Bool.false_and]
        refine Ev.last ⟨0, fun k _ => ?_⟩
        simp only [spec_l5Holds.l0]
        rw [if_pos (by omega), if_pos (by omega), if_pos c]
        rfl
      · rw [decide_eq_true c, Bool.true_and]
        refine Ev.step ⟨0, fun k _ => ?_⟩ (ih (i + 1) (by omega))
        simp only [spec_l5Holds.l0]
        rw [if_pos (by omega), if_pos (by omega), if_neg c, w64s (by omega) h]
  rw [hx, List.range_eq_range']
  exact hn l.length 0 (by omega)
theorem less_is (x y : Int) : cmp_Less_int64.f x y = some (decide (x < y)) := by
  simp [cmp_Less_int64.f, cmp_isNaN_int64.f]
theorem nan_is (x : Int) : slices_isNaN_int64.f x = some false := by simp [slices_isNaN_int64.f]
/-- The first place from i on whose serial is not below x, and whether x is there. -/
theorem search_ev (l : List Int) (x : Int) (hg : goodS l = true) (h : l.length ≤ 4611686018427387904) : ∃ at_ : Nat, at_ ≤ l.length ∧ (∀ i, i < at_ → rd l (i : Int) < x) ∧ (∀ i, at_ ≤ i → i < l.length → x ≤ rd l (i : Int)) ∧ Ev (fun k => slices_BinarySearch_int64_int64.f k l x) ((at_ : Int), decide (x ∈ l)) := by
  have key : ∀ (m i j : Nat), i + m = j → j ≤ l.length → (∀ q, q < i → rd l (q : Int) < x) → (∀ q, j ≤ q → q < l.length → x ≤ rd l (q : Int)) →
      ∃ at_ : Nat, at_ ≤ l.length ∧ (∀ i, i < at_ → rd l (i : Int) < x) ∧ (∀ i, at_ ≤ i → i < l.length → x ≤ rd l (i : Int)) ∧ Ev (fun k => slices_BinarySearch_int64_int64.l0 k l x (l.length : Int) (i : Int) (j : Int)) ((at_ : Int), decide (x ∈ l)) := by
    intro m
    induction m using Nat.strongRecOn with
    | ind m ih =>
      intro i j hij hj hlo hhi
      by_cases h0 : m = 0
      · obtain rfl : i = j := by omega
        refine ⟨i, hj, hlo, hhi, Ev.last ⟨0, fun k _ => ?_⟩⟩
        simp only [slices_BinarySearch_int64_int64.l0]
        rw [if_neg (by omega)]
        by_cases hi : (i : Int) < (l.length : Int)
        · rw [if_pos hi, if_pos (by omega), if_pos hi]
          by_cases c : rd l (i : Int) = x
          · rw [if_pos c, decide_eq_true (c ▸ rd_mem (by omega))]
          · rw [if_neg c, nan_is, Option.bind_some, if_neg (by simp), decide_eq_false]
            intro hm
            obtain ⟨q, hq, e⟩ := mem_rd hm
            rcases Nat.lt_trichotomy q i with h1 | h1 | h1
            · have := hlo q h1; omega
            · subst h1; exact c e
            · have h2 := hhi i (Nat.le_refl _) (by omega)
              have h3 := goodS_lt hg q i h1 hq
              omega
        · rw [if_neg hi, decide_eq_false]
          intro hm
          obtain ⟨q, hq, e⟩ := mem_rd hm
          have := hlo q (by omega)
          omega
      · have e1 : wrap64 ((i : Int) + (j : Int)) = ((i + j : Nat) : Int) := by rw [w64 (n := (i : Int) + j) (by omega) (by omega)]; rfl
        have e2 : IntKind.u64.wrap ((i + j : Nat) : Int) = ((i + j : Nat) : Int) := by rw [IntKind.wrap_u64]; omega
        have e3 : wrap64 ((((i + j : Nat) : Int)) / 2) = (((i + j) / 2 : Nat) : Int) := by rw [w64 (n := ((i + j : Nat) : Int) / 2) (by omega) (by omega)]; omega
        obtain ⟨c, hc⟩ : ∃ c, c = (i + j) / 2 := ⟨_, rfl⟩
        rw [← hc] at e3
        by_cases hlt : rd l (c : Int) < x
        · obtain ⟨at_, a1, a2, a3, a4⟩ := ih (j - (c + 1)) (by omega) (c + 1) j (by omega) hj (fun q hq => by
            by_cases hqc : q = c
            · subst hqc; exact hlt
            · have := goodS_lt hg c q (by omega) (by omega); omega) hhi
          refine ⟨at_, a1, a2, a3, Ev.step ⟨0, fun k _ => ?_⟩ a4⟩
          simp only [slices_BinarySearch_int64_int64.l0, e1, e2, e3]
          rw [if_pos (by omega), if_pos (by omega), if_pos (by omega), less_is, Option.bind_some, decide_eq_true hlt, if_pos rfl, w64s (n := l.length) (by omega) h]
        · obtain ⟨at_, a1, a2, a3, a4⟩ := ih (c - i) (by omega) i c (by omega) (by omega) hlo (fun q hq hql => by
            by_cases hqc : q = c
            · subst hqc; omega
            · have := goodS_lt hg q c (by omega) hql; omega)
          refine ⟨at_, a1, a2, a3, Ev.step ⟨0, fun k _ => ?_⟩ a4⟩
          simp only [slices_BinarySearch_int64_int64.l0, e1, e2, e3]
          rw [if_pos (by omega), if_pos (by omega), if_pos (by omega), less_is, Option.bind_some, decide_eq_false hlt, if_neg (by simp)]
  simp only [slices_BinarySearch_int64_int64.f]
  exact key l.length 0 l.length (by omega) (Nat.le_refl _) (fun q hq => by omega) (fun q h1 h2 => by omega)
end Go.Proofs.Ytbdbeccaopphaaa.P
