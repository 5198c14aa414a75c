/- Part 3 of 6 of the proof that the law FnExactEncodeSnap returns true at every input. No further condition. -/
import Derived.Lib.LazyBuf
import Derived.Laws.BitsLemmas
import Derived.Test.YtgfadfahbhcllaaMFnExactEncodeSnap2
namespace Go.Proofs.Ytgfadfahbhcllaa.P
open Go.RowKit Go.Proofs.YtgfadfahbhcllaaW.PrintWords Go.Proofs.YtgfadfahbhcllaaW.PrintMore Go.Proofs.Ytgfadfahbhcllaa.Q
set_option linter.unusedVariables false
set_option linter.unusedSimpArgs false
/-- A loop that asks one thing of every place. -/
theorem Ev.all {L : Nat → Nat → Option Bool} (P : Nat → Bool) (n : Nat) (hs : ∀ i, i < n → P i = true → ∃ K, ∀ k, K ≤ k → L (k + 1) i = L k (i + 1)) (hb : ∀ i, i < n → P i = false → ∃ K, ∀ k, K ≤ k → L (k + 1) i = some false)
    (he : ∃ K, ∀ k, K ≤ k → L (k + 1) n = some true) : ∀ m i, i + m = n → Ev (fun k => L k i) ((List.range' i m).all P)
  | 0, i, h => by
    obtain rfl : i = n := by omega
    exact Ev.last he
  | m + 1, i, h => by
    rw [List.range'_succ, List.all_cons]
    cases hp : P i with
    | true => rw [Bool.true_and]; exact Ev.step (hs i (by omega) hp) (Ev.all P n hs hb he m (i + 1) (by omega))
    | false => rw [Bool.false_and]; exact Ev.last (hb i (by omega) hp)
theorem Ev.all0 {L : Nat → Nat → Option Bool} (P : Nat → Bool) (n : Nat) (hs : ∀ i, i < n → P i = true → ∃ K, ∀ k, K ≤ k → L (k + 1) i = L k (i + 1)) (hb : ∀ i, i < n → P i = false → ∃ K, ∀ k, K ≤ k → L (k + 1) i = some false)
    (he : ∃ K, ∀ k, K ≤ k → L (k + 1) n = some true) : Ev (fun k => L k 0) ((List.range n).all P) := by
  rw [List.range_eq_range']
  exact Ev.all P n hs hb he n 0 (by omega)
/-- Place i of a good list. -/
def okAt (l : List Int) (i : Nat) : Bool := decide (0 ≤ rd l i ∧ rd l i < 256 ∧ (0 < i → rd l ((i : Int) - 1) < rd l i))
def goodS (l : List Int) : Bool := (List.range l.length).all (okAt l)
theorem impl_good_ev (l : List Int) (h : l.length ≤ 4611686018427387904) : Ev (fun k => impl_goodSerials.f k l) (goodS l) := by
  simp only [impl_goodSerials.f]
  refine Ev.all0 (L := fun k i => impl_goodSerials.l0 k l l (l.length : Int) (i : Int)) (okAt l) l.length ?_ ?_ ?_
  · intro i hi hp
    refine ⟨0, fun k _ => ?_⟩
    have hp := of_decide_eq_true hp
    simp only [impl_goodSerials.l0]
    rw [if_pos (by omega), if_pos (by omega), if_pos (by omega), if_neg (by omega), if_neg (by omega), w64s hi (by omega)]
    by_cases h0 : (i : Int) > 0
    · rw [if_pos h0, w64 (n := (i : Int) - 1) (by omega) (by omega), if_pos (by omega), if_pos (by omega), if_neg (by have := hp.2.2 (by omega); omega)]
    · rw [if_neg h0]
  · intro i hi hp
    refine ⟨0, fun k _ => ?_⟩
    have hp := of_decide_eq_false hp
    simp only [impl_goodSerials.l0]
    rw [if_pos (by omega), if_pos (by omega), if_pos (by omega)]
    by_cases c1 : rd l (i : Int) < 0
    · rw [if_pos c1]
    rw [if_neg c1]
    by_cases c2 : rd l (i : Int) ≥ 256
    · rw [if_pos c2]
    rw [if_neg c2]
    by_cases h0 : (i : Int) > 0
    · rw [if_pos h0, w64 (n := (i : Int) - 1) (by omega) (by omega), if_pos (by omega), if_pos (by omega), if_pos (by
        by_cases c3 : rd l ((i : Int) - 1) ≥ rd l (i : Int)
        · exact c3
        · exact absurd ⟨by omega, by omega, fun _ => by omega⟩ hp)]
    · exact absurd ⟨by omega, by omega, fun h => by omega⟩ hp
  · refine ⟨0, fun k _ => ?_⟩
    simp only [impl_goodSerials.l0]
    rw [if_neg (by omega)]
theorem spec_good_ev (l : List Int) (h : l.length ≤ 4611686018427387904) : Ev (fun k => spec_l5Serials.f k l) (goodS l) := by
  simp only [spec_l5Serials.f]
  refine Ev.all0 (L := fun k i => spec_l5Serials.l0 k l (i : Int)) (okAt l) l.length ?_ ?_ ?_
  · intro i hi hp
    refine ⟨0, fun k _ => ?_⟩
    have hp := of_decide_eq_true hp
    simp only [spec_l5Serials.l0]
    rw [if_pos (by omega), if_pos (by omega), if_neg (by omega), if_neg (by omega), w64s hi (by omega)]
    by_cases h0 : (i : Int) > 0
    · rw [if_pos h0, w64 (n := (i : Int) - 1) (by omega) (by omega), if_pos (by omega), if_pos (by omega), if_neg (by have := hp.2.2 (by omega); omega)]
    · rw [if_neg h0]
  · intro i hi hp
    refine ⟨0, fun k _ => ?_⟩
    have hp := of_decide_eq_false hp
    simp only [spec_l5Serials.l0]
    rw [if_pos (by omega), if_pos (by omega)]
    by_cases c1 : rd l (i : Int) < 0
    · rw [if_pos c1]
    rw [if_neg c1]
    by_cases c2 : rd l (i : Int) ≥ 256
    · rw [if_pos c2]
    rw [if_neg c2]
    by_cases h0 : (i : Int) > 0
    · rw [if_pos h0, w64 (n := (i : Int) - 1) (by omega) (by omega), if_pos (by omega), if_pos (by omega), if_pos (by
        by_cases c3 : rd l ((i : Int) - 1) ≥ rd l (i : Int)
        · exact c3
        · exact absurd ⟨by omega, by omega, fun _ => by omega⟩ hp)]
    · exact absurd ⟨by omega, by omega, fun h => by omega⟩ hp
  · refine ⟨0, fun k _ => ?_⟩
    simp only [spec_l5Serials.l0]
    rw [if_neg (by omega)]
theorem goodS_at {l : List Int} (h : goodS l = true) {i : Nat} (hi : i < l.length) : 0 ≤ rd l i ∧ rd l i < 256 ∧ (0 < i → rd l ((i : Int) - 1) < rd l i) :=
  of_decide_eq_true (List.all_eq_true.1 h i (List.mem_range.2 hi))
theorem goodS_lt {l : List Int} (h : goodS l = true) : ∀ (j i : Nat), i < j → j < l.length → rd l i < rd l j
  | 0, i, hij, _ => by omega
  | j + 1, i, hij, hj => by
    have h1 := (goodS_at h hj).2.2 (by omega)
    rw [show ((j + 1 : Nat) : Int) - 1 = (j : Int) from by omega] at h1
    by_cases e : i = j
    · subst e; exact h1
    · have h2 := goodS_lt h j i (by omega) (by omega)
      omega
theorem rd_mem {l : List Int} {i : Nat} (hi : i < l.length) : rd l i ∈ l := by
  obtain ⟨x, hx⟩ := some_at hi
  rw [rd_at hx]
  exact List.mem_of_getElem? hx
theorem mem_rd {l : List Int} {x : Int} (h : x ∈ l) : ∃ i, i < l.length ∧ rd l (i : Int) = x := by
  obtain ⟨i, hi⟩ := List.mem_iff_getElem?.1 h
  exact ⟨i, (List.getElem?_eq_some_iff.1 hi).1, rd_at hi⟩
theorem goodS_mem {l : List Int} (h : goodS l = true) {x : Int} (hx : x ∈ l) : 0 ≤ x ∧ x < 256 := by
  obtain ⟨i, hi, rfl⟩ := mem_rd hx
  exact ⟨(goodS_at h hi).1, (goodS_at h hi).2.1⟩
theorem holds_ev (l : List Int) (x : Int) (h : l.length ≤ 4611686018427387904) : Ev (fun k => spec_l5Holds.f k l x) (decide (x ∈ l)) := by
  simp only [spec_l5Holds.f]
  have hx : decide (x ∈ l) = !((List.range l.length).all fun i => decide (rd l i ≠ x)) := by
    by_cases hm : x ∈ l
    · obtain ⟨i, hi, e⟩ := mem_rd hm
      have : ((List.range l.length).all fun i => decide (rd l i ≠ x)) = false := by
        rw [List.all_eq_false]
        exact ⟨i, List.mem_range.2 hi, by simp [e]⟩
      rw [this, decide_eq_true hm]; rfl
    · have : ((List.range l.length).all fun i => decide (rd l i ≠ x)) = true := by
        rw [List.all_eq_true]
        exact fun i hi => decide_eq_true (fun e => hm (e ▸ rd_mem (List.mem_range.1 hi)))
      rw [this, decide_eq_false hm]; rfl
  have hn : ∀ m i, i + m = l.length → Ev (fun k => spec_l5Holds.l0 k l x (i : Int)) (!((List.range' i m).all fun i => decide (rd l i ≠ x))) := by
    intro m
    induction m with
    | zero =>
      intro i hi
      refine Ev.last ⟨0, fun k _ => ?_⟩
      simp only [spec_l5Holds.l0]
      rw [if_neg (by omega)]
      rfl
    | succ m ih =>
      intro i hi
      rw [List.range'_succ, List.all_cons]
      by_cases c : rd l (i : Int) = x
      · rw [decide_eq_false (by simp [c]), Bool.false_and]
        refine Ev.last ⟨0, fun k _ => ?_⟩
        simp only [spec_l5Holds.l0]
        rw [if_pos (by omega), if_pos (by omega), if_pos c]
        rfl
      · rw [decide_eq_true c, Bool.true_and]
        refine Ev.step ⟨0, fun k _ => ?_⟩ (ih (i + 1) (by omega))
        simp only [spec_l5Holds.l0]
        rw [if_pos (by omega), if_pos (by omega), if_neg c, w64s (by omega) h]
  rw [hx, List.range_eq_range']
  exact hn l.length 0 (by omega)
theorem less_is (x y : Int) : cmp_Less_int64.f x y = some (decide (x < y)) := by
  simp [cmp_Less_int64.f, cmp_isNaN_int64.f]
theorem nan_is (x : Int) : slices_isNaN_int64.f x = some false := by simp [slices_isNaN_int64.f]
/-- The first place from i on whose serial is not below x, and whether x is there. -/
theorem search_ev (l : List Int) (x : Int) (hg : goodS l = true) (h : l.length ≤ 4611686018427387904) : ∃ at_ : Nat, at_ ≤ l.length ∧ (∀ i, i < at_ → rd l (i : Int) < x) ∧ (∀ i, at_ ≤ i → i < l.length → x ≤ rd l (i : Int)) ∧ Ev (fun k => slices_BinarySearch_int64_int64.f k l x) ((at_ : Int), decide (x ∈ l)) := by
  have key : ∀ (m i j : Nat), i + m = j → j ≤ l.length → (∀ q, q < i → rd l (q : Int) < x) → (∀ q, j ≤ q → q < l.length → x ≤ rd l (q : Int)) →
      ∃ at_ : Nat, at_ ≤ l.length ∧ (∀ i, i < at_ → rd l (i : Int) < x) ∧ (∀ i, at_ ≤ i → i < l.length → x ≤ rd l (i : Int)) ∧ Ev (fun k => slices_BinarySearch_int64_int64.l0 k l x (l.length : Int) (i : Int) (j : Int)) ((at_ : Int), decide (x ∈ l)) := by
    intro m
    induction m using Nat.strongRecOn with
    | ind m ih =>
      intro i j hij hj hlo hhi
      by_cases h0 : m = 0
      · obtain rfl : i = j := by omega
        refine ⟨i, hj, hlo, hhi, Ev.last ⟨0, fun k _ => ?_⟩⟩
        simp only [slices_BinarySearch_int64_int64.l0]
        rw [if_neg (by omega)]
        by_cases hi : (i : Int) < (l.length : Int)
        · rw [if_pos hi, if_pos (by omega), if_pos hi]
          by_cases c : rd l (i : Int) = x
          · rw [if_pos c, decide_eq_true (c ▸ rd_mem (by omega))]
          · rw [if_neg c, nan_is, Option.bind_some, if_neg (by simp), decide_eq_false]
            intro hm
            obtain ⟨q, hq, e⟩ := mem_rd hm
            rcases Nat.lt_trichotomy q i with h1 | h1 | h1
            · have := hlo q h1; omega
            · subst h1; exact c e
            · have h2 := hhi i (Nat.le_refl _) (by omega)
              have h3 := goodS_lt hg q i h1 hq
              omega
        · rw [if_neg hi, decide_eq_false]
          intro hm
          obtain ⟨q, hq, e⟩ := mem_rd hm
          have := hlo q (by omega)
          omega
      · have e1 : wrap64 ((i : Int) + (j : Int)) = ((i + j : Nat) : Int) := by rw [w64 (n := (i : Int) + j) (by omega) (by omega)]; rfl
        have e2 : IntKind.u64.wrap ((i + j : Nat) : Int) = ((i + j : Nat) : Int) := by rw [IntKind.wrap_u64]; omega
        have e3 : wrap64 ((((i + j : Nat) : Int)) / 2) = (((i + j) / 2 : Nat) : Int) := by rw [w64 (n := ((i + j : Nat) : Int) / 2) (by omega) (by omega)]; omega
        obtain ⟨c, hc⟩ : ∃ c, c = (i + j) / 2 := ⟨_, rfl⟩
        rw [← hc] at e3
        by_cases hlt : rd l (c : Int) < x
        · obtain ⟨at_, a1, a2, a3, a4⟩ := ih (j - (c + 1)) (by omega) (c + 1) j (by omega) hj (fun q hq => by
            by_cases hqc : q = c
            · subst hqc; exact hlt
            · have := goodS_lt hg c q (by omega) (by omega); omega) hhi
          refine ⟨at_, a1, a2, a3, Ev.step ⟨0, fun k _ => ?_⟩ a4⟩
          simp only [slices_BinarySearch_int64_int64.l0, e1, e2, e3]
          rw [if_pos (by omega), if_pos (by omega), if_pos (by omega), less_is, Option.bind_some, decide_eq_true hlt, if_pos rfl, w64s (n := l.length) (by omega) h]
        · obtain ⟨at_, a1, a2, a3, a4⟩ := ih (c - i) (by omega) i c (by omega) (by omega) hlo (fun q hq hql => by
            by_cases hqc : q = c
            · subst hqc; omega
            · have := goodS_lt hg q c (by omega) hql; omega)
          refine ⟨at_, a1, a2, a3, Ev.step ⟨0, fun k _ => ?_⟩ a4⟩
          simp only [slices_BinarySearch_int64_int64.l0, e1, e2, e3]
          rw [if_pos (by omega), if_pos (by omega), if_pos (by omega), less_is, Option.bind_some, decide_eq_false hlt, if_neg (by simp)]
  simp only [slices_BinarySearch_int64_int64.f]
  exact key l.length 0 l.length (by omega) (Nat.le_refl _) (fun q hq => by omega) (fun q h1 h2 => by omega)
end Go.Proofs.Ytgfadfahbhcllaa.P
namespace Go.Proofs.Ytgfadfahbhcllaa.Q
open Go.RowKit Go.Proofs.YtgfadfahbhcllaaW.PrintWords Go.Proofs.YtgfadfahbhcllaaW.PrintLast Go.Proofs.Ytgfadfahbhcllaa.LK Go.Proofs.YtgfadfahbhcllaaW.PrintMore
attribute [local go_sem] max2_int min2_int max_two min_two max_three min_three max_four min_four   -- for this text's walks alone
set_option linter.unusedVariables false
set_option linter.unusedSimpArgs false

/-! ### impl_put: function 88 -/
def impl_put.l0 : Nat → List Int → Int → Int → Int → Int → Option (List Int)
  | 0, _, _, _, _, _ => none
  | k + 1, x0, x1, x3, x9, x10 => if x10 < x9 then (if 0 ≤ (wrap64 (8 * x10)) then (if 0 ≤ (wrap64 (x1 + x10)) then (if (wrap64 (x1 + x10)) < (x0.length : Int) then (impl_put.l0 k (x0.set ((wrap64 (x1 + x10)) : Int).toNat ((shr .u64 x3 (wrap64 (8 * x10))) % 256)) x1 x3 x9 (wrap64 (x10 + 1))) else (none)) else (none)) else (none)) else (some x0)
def impl_put.f (k : Nat) (l0 : List Int) (a1 : Int) (a2 : Int) (a3 : Int) : Option (List Int) := impl_put.l0 k l0 a1 a3 a2 0
theorem impl_put.mono_l : ∀ k, (∀ y0 y1 y2 y3 y4, LeO (impl_put.l0 k y0 y1 y2 y3 y4) (impl_put.l0 (k + 1) y0 y1 y2 y3 y4))
  | 0 => fun _ _ _ _ _ r h => by simp [impl_put.l0] at h
  | k + 1 => by
    have ih0 := impl_put.mono_l k
    · intro y0 y1 y2 y3 y4
      unfold impl_put.l0
      repeat' first
      | (with_reducible exact ih0 _ _ _ _ _)
      | (with_reducible exact LeO.refl _)
      | (with_reducible exact LeO.none _)
      | (with_reducible refine LeO.ite ?_ ?_)
      | (with_reducible refine LeO.bind ?_ (fun _ => ?_))
      | exact ih0 _ _ _ _ _
      | exact LeO.none _
      | refine LeO.ite ?_ ?_
      | refine LeO.bind ?_ (fun _ => ?_)
theorem impl_put.mono : ∀ a0 a1 a2 a3 k, LeO (impl_put.f k a0 a1 a2 a3) (impl_put.f (k + 1) a0 a1 a2 a3) := by
  intro a0 a1 a2 a3 k
  have ih0 := impl_put.mono_l k
  unfold impl_put.f
  repeat' first
      | (with_reducible exact ih0 _ _ _ _ _)
      | (with_reducible exact LeO.refl _)
      | (with_reducible exact LeO.none _)
      | (with_reducible refine LeO.ite ?_ ?_)
      | (with_reducible refine LeO.bind ?_ (fun _ => ?_))
      | exact ih0 _ _ _ _ _
      | exact LeO.none _
      | refine LeO.ite ?_ ?_
      | refine LeO.bind ?_ (fun _ => ?_)
set_option maxHeartbeats 8000000 in
set_option maxRecDepth 100000 in
theorem impl_put.calls (k : Nat) (P0_ : Nat → Prop) (u9000_ : Value) (l0 : List Int) (a1 : Int) (a2 : Int) (a3 : Int) (r : List Int) (w0 w : World) (hB : Below w0.heap.size w0 w) (ho0 : Kd.R (Kd.int .u8) 5 w w0.heap.size P0_ u9000_ l0) (h : impl_put.f k l0 a1 a2 a3 = some r) :
    Calls Try.prog 88 #[u9000_, .int .i64 a1, .int .i64 a2, .int .u64 a3] w fun e w' => e = .returned (.tuple #[]) ∧ Kd.R (Kd.int .u8) 5 w' w0.heap.size (fun k_ => (P0_ k_ ∨ w.heap.size ≤ k_)) u9000_ r ∧ Below w0.heap.size w0 w' ∧ Kept w w' (fun k_ => P0_ k_) := by
  have HO0 := Aside0.mk (show Kd.R (Kd.int .u8) 5 w w0.heap.size (fun k_ => (P0_ k_ ∨ w.heap.size ≤ k_)) u9000_ l0 from Kd.R_mono ho0 (fun k_ hk => (.inl hk)))
  have HK := Aside0.mk (Kept.refl w (fun k_ => P0_ k_))
  have HW0 := Aside0.mk hB.size
  have HB := Aside0.mk hB
  clear hB
  have H : (impl_put.l0 k l0 a1 a3 a2 0) = some r := h
  clear h
  have H' := Aside0.mk H
  clear H
  go_enter Try.func88, Try.ntmps88
  go_wp2
  go_loopg [10] k (fun kq v10 w' => ∃ (x0_1 : List Int) (x10_1 : Int), v10 = .int .i64 x10_1 ∧ Aside0 (impl_put.l0 kq x0_1 a1 a3 a2 x10_1 = some r) ∧ Aside0 (kq ≤ k) ∧ Aside0 (Kd.R (Kd.int .u8) 5 w' w0.heap.size (fun k_ => (P0_ k_ ∨ w.heap.size ≤ k_)) u9000_ x0_1) ∧ Aside0 (Kept w w' (fun k_ => P0_ k_)) ∧ Aside0 (Below w0.heap.size w0 w'))
  case atStart => exact ⟨(l0), (0), (by first | rfl | (simp; done) | (simp [*]; done)), H', ⟨Nat.le_refl _⟩, ⟨by (with_reducible repeat (first | apply Kd.R_alloc | apply Kd.R_drewN | apply Kd.R_drew)); exact HO0.out⟩, ⟨by repeat (first | (with_reducible first | exact HK.out | apply Kept.alloc | apply Kept.drewN | apply Kept.drew) | exact HK.out)⟩, ⟨by repeat (first | (with_reducible first | exact HB.out | apply below_alloc | apply pw_below_drewN | apply below_drew1) | exact HB.out)⟩⟩
  case round =>
    clear H'
    try clear p2
    obtain ⟨x0_1, x10_1, rfl, HA, HK1, HO_0, HK, HB⟩ := hrel
    cases gk with
    | zero => exact absurd HA.out (by simp [impl_put.l0])
    | succ k1 =>
      have H := HA.out
      clear HA
      simp only [impl_put.l0] at H
      by_cases c5 : x10_1 < a2
      · rw [if_pos c5] at H
        have c5b0 : decide (x10_1 < a2) = true := decide_eq_true c5
        clear c5
        obtain ⟨ji6, hji6⟩ : ∃ j_ : Int, (wrap64 (8 * x10_1)) = j_ := ⟨_, rfl⟩
        replace H : (if 0 ≤ (ji6) then (if 0 ≤ (wrap64 (a1 + x10_1)) then (if (wrap64 (a1 + x10_1)) < (x0_1.length : Int) then (impl_put.l0 k1 (x0_1.set ((wrap64 (a1 + x10_1)) : Int).toNat ((shr .u64 a3 (ji6)) % 256)) a1 a3 a2 (wrap64 (x10_1 + 1))) else (none)) else (none)) else (none)) = some r := by first | (rw [hji6] at H; exact H) | (simp only [hji6] at H ⊢; exact H)
        have hji6w : (IntKind.i64.wrap (8 * x10_1)) = ji6 := (i64_w _).trans hji6
        by_cases c7 : 0 ≤ (ji6)
        · rw [if_pos c7] at H
          have c7b0 := eq_true c7
          have c7b1 : decide (0 ≤ (ji6)) = true := decide_eq_true c7
          clear c7
          obtain ⟨ji8, hji8⟩ : ∃ j_ : Int, (shr .u64 a3 (ji6)) = j_ := ⟨_, rfl⟩
          replace H : (if 0 ≤ (wrap64 (a1 + x10_1)) then (if (wrap64 (a1 + x10_1)) < (x0_1.length : Int) then (impl_put.l0 k1 (x0_1.set ((wrap64 (a1 + x10_1)) : Int).toNat ((ji8) % 256)) a1 a3 a2 (wrap64 (x10_1 + 1))) else (none)) else (none)) = some r := by first | (rw [hji8] at H; exact H) | (simp only [hji8] at H ⊢; exact H)
          have hji8_ : (a3 / 2 ^ min (ji6).toNat 64) = ji8 := hji8
          have hji8z : (ji6) ≤ 64 → (a3 / 2 ^ (ji6).toNat) = ji8 := shr_small hji8
          obtain ⟨ji9, hji9⟩ : ∃ j_ : Int, (wrap64 (a1 + x10_1)) = j_ := ⟨_, rfl⟩
          replace H : (if 0 ≤ (ji9) then (if (ji9) < (x0_1.length : Int) then (impl_put.l0 k1 (x0_1.set ((ji9) : Int).toNat ((ji8) % 256)) a1 a3 a2 (wrap64 (x10_1 + 1))) else (none)) else (none)) = some r := by first | (rw [hji9] at H; exact H) | (simp only [hji9] at H ⊢; exact H)
          have hji9w : (IntKind.i64.wrap (a1 + x10_1)) = ji9 := (i64_w _).trans hji9
          by_cases c10 : 0 ≤ (ji9)
          · rw [if_pos c10] at H
            have c10b0 : decide (0 ≤ (ji9)) = true := decide_eq_true c10
            clear c10
            by_cases c11 : (ji9) < (x0_1.length : Int)
            · rw [if_pos c11] at H
              have c11b0 : decide ((ji9) < (x0_1.length : Int)) = true := decide_eq_true c11
              clear c11
              obtain ⟨y101, hy101⟩ : ∃ y_ : List Int, y_ = (x0_1.set ((ji9) : Int).toNat ((ji8) % 256)) := ⟨_, rfl⟩
              replace H : (impl_put.l0 k1 y101 a1 a3 a2 (wrap64 (x10_1 + 1))) = some r := by first | (rw [hy101]; with_reducible exact H) | (have H2_ := (Option.bind_some _ _).symm.trans H; rw [hy101]; with_reducible exact H2_) | (have H2_ := (Option.bind_some _ _).symm.trans H; with_reducible exact H2_) | with_reducible exact H | (rw [hy101]; exact H) | exact H
              have Ny101 := Aside0.mk hy101
              clear hy101
              have H' := Aside0.mk H
              clear H
              have p12 : 0 ≤ ((ji9) : Int) := of_decide_eq_true (by first | (with_reducible assumption) | assumption)
              have q12 : ((ji9) : Int) < ((x0_1.length : Int) : Int) := of_decide_eq_true (by first | (with_reducible assumption) | assumption)
              obtain ⟨go12, co12, eo12, gb12, gl12, cl12, HG12⟩ := Kd.R_form HO_0.out (by omega)
              (first | cases eo12 | (injection eo12 with ea_ en_ ec_; (first | subst ea_ | (injection ea_ with ea_; subst ea_)); subst ec_; clear en_))
              have GB12 := Aside0.mk gb12
              have GG12 := Aside0.mk HG12
              clear gb12 gl12 HG12
              have HMgo12 := Aside0.mk (show (P0_ go12 ∨ w.heap.size ≤ go12) from (HO_0.out.1 _ rfl))
              obtain ⟨hx12_0, hf12_0⟩ := Kd.R_celln 0 HO_0.out ((ji9) : Int) p12 q12
              replace p12 := eq_true p12
              replace q12 := eq_true q12
              have HP13 := Kd.R_putg HO_0.out ((ji9) : Int) ((ji8) % 256)
              go_wp2_with (first | ((with_reducible refine gate_store (t := 5) (p := 22) rfl ?_); refine store_event (t := 5) (p := 22) (v := ?vo_w14) (w1 := (wr.setCell ⟨go12, ((ji9) : Int).toNat, none⟩ (.int .u8 ((ji8) % 256)))) ?hg ?ho ?hn ?hr ?_; (case ho => rfl); (case hg => rfl); (case hn => rfl); (case hr => first | (go_simp; done) | (go_simp; rfl)); intro w14 hw; have hg : wr.grownBy w14 (some go12) := (by rw [hw]; exact HP13.2); have hp_ : Kd.R (Kd.int .u8) 5 w14 w0.heap.size (fun k_ => (P0_ k_ ∨ w.heap.size ≤ k_)) (.slice (some ⟨go12, 0, none⟩) x0_1.length co12) y101 := (by rw [hw, Ny101.out]; exact HP13.1); clear HP13; have n0_ := Aside0.mk (hp_); have n1_ := Aside0.mk ((by rw [hw]; exact below_set (HB.out) GB12.out : Below w0.heap.size w0 w14)); have n2_ := Aside0.mk (Kept.of_grown (S := (fun k_ => P0_ k_)) hg (by repeat (first | (with_reducible first | exact HK.out | apply Kept.alloc | apply Kept.drewN | apply Kept.drew) | exact HK.out)) (fun k_ e_ => (HO_0.out.1 k_ e_))); clear HO_0; clear HB; clear HK; have HO_0 := n0_; have HB := n1_; have HK := n2_; clear n0_ n1_ n2_; clear hg hw hp_))
              go_roundg k1
              case measure => have := HK1.out; omega
              case rel => exact ⟨(y101), (wrap64 (x10_1 + 1)), (by first | rfl | (simp; done) | (simp [*]; done)), H', ⟨by have := HK1.out; omega⟩, ⟨by (with_reducible repeat (first | apply Kd.R_alloc | apply Kd.R_drewN | apply Kd.R_drew)); exact HO_0.out⟩, ⟨by repeat (first | (with_reducible first | exact HK.out | apply Kept.alloc | apply Kept.drewN | apply Kept.drew) | exact HK.out)⟩, ⟨by repeat (first | (with_reducible first | exact HB.out | apply below_alloc | apply pw_below_drewN | apply below_drew1) | exact HB.out)⟩⟩
            · rw [if_neg c11] at H
              exact absurd H (by simp)
          · rw [if_neg c10] at H
            exact absurd H (by simp)
        · rw [if_neg c7] at H
          exact absurd H (by simp)
      · rw [if_neg c5] at H
        have c5b0 : decide (x10_1 < a2) = false := decide_eq_false c5
        clear c5
        obtain rfl := Option.some.inj H
        go_wp2
        first | go_end0 | ((try simp only [Exit.inBlock, Exit.then]); refine bodyPost_ret (results_none rfl _ _ _) rfl ?_)
        exact ⟨by first | rfl | (simp [errW_none, errW_some] <;> rfl) | (simp [*, errW_none, errW_some] <;> rfl), by (with_reducible repeat (first | apply Kd.R_alloc | apply Kd.R_drewN | apply Kd.R_drew)); exact HO_0.out, by repeat (first | (with_reducible first | exact HB.out | apply below_alloc | apply pw_below_drewN | apply below_drew1) | exact HB.out), by repeat (first | (with_reducible first | exact HK.out | apply Kept.alloc | apply Kept.drewN | apply Kept.drew) | exact HK.out)⟩

end Go.Proofs.Ytgfadfahbhcllaa.Q
namespace Go.Proofs.Ytgfadfahbhcllaa.Q
open Go.RowKit Go.Proofs.YtgfadfahbhcllaaW.PrintWords Go.Proofs.YtgfadfahbhcllaaW.PrintLast Go.Proofs.Ytgfadfahbhcllaa.LK Go.Proofs.YtgfadfahbhcllaaW.PrintMore
attribute [local go_sem] max2_int min2_int max_two min_two max_three min_three max_four min_four   -- for this text's walks alone
set_option linter.unusedVariables false
set_option linter.unusedSimpArgs false

set_option maxHeartbeats 8000000 in
set_option maxRecDepth 100000 in
theorem impl_put.callsE {e_ : Nat} (k : Nat) (P0_ : Nat → Prop) (u9000_ : Value) (l0 : List Int) (a1 : Int) (a2 : Int) (a3 : Int) (r : List Int) (w0 w : World) (hB : Below w0.heap.size w0 w) (ho0 : Kd.R (Kd.int .u8) e_ w w0.heap.size P0_ u9000_ l0) (h : impl_put.f k l0 a1 a2 a3 = some r) :
    Calls Try.prog 88 #[u9000_, .int .i64 a1, .int .i64 a2, .int .u64 a3] w fun e w' => e = .returned (.tuple #[]) ∧ Kd.R (Kd.int .u8) e_ w' w0.heap.size (fun k_ => (P0_ k_ ∨ w.heap.size ≤ k_)) u9000_ r ∧ Below w0.heap.size w0 w' ∧ Kept w w' (fun k_ => P0_ k_) := by
  have HO0 := Aside0.mk (show Kd.R (Kd.int .u8) e_ w w0.heap.size (fun k_ => (P0_ k_ ∨ w.heap.size ≤ k_)) u9000_ l0 from Kd.R_mono ho0 (fun k_ hk => (.inl hk)))
  have HK := Aside0.mk (Kept.refl w (fun k_ => P0_ k_))
  have HW0 := Aside0.mk hB.size
  have HB := Aside0.mk hB
  clear hB
  have H : (impl_put.l0 k l0 a1 a3 a2 0) = some r := h
  clear h
  have H' := Aside0.mk H
  clear H
  go_enter Try.func88, Try.ntmps88
  go_wp2
  go_loopg [10] k (fun kq v10 w' => ∃ (x0_1 : List Int) (x10_1 : Int), v10 = .int .i64 x10_1 ∧ Aside0 (impl_put.l0 kq x0_1 a1 a3 a2 x10_1 = some r) ∧ Aside0 (kq ≤ k) ∧ Aside0 (Kd.R (Kd.int .u8) e_ w' w0.heap.size (fun k_ => (P0_ k_ ∨ w.heap.size ≤ k_)) u9000_ x0_1) ∧ Aside0 (Kept w w' (fun k_ => P0_ k_)) ∧ Aside0 (Below w0.heap.size w0 w'))
  case atStart => exact ⟨(l0), (0), (by first | rfl | (simp; done) | (simp [*]; done)), H', ⟨Nat.le_refl _⟩, ⟨by (with_reducible repeat (first | apply Kd.R_alloc | apply Kd.R_drewN | apply Kd.R_drew)); exact HO0.out⟩, ⟨by repeat (first | (with_reducible first | exact HK.out | apply Kept.alloc | apply Kept.drewN | apply Kept.drew) | exact HK.out)⟩, ⟨by repeat (first | (with_reducible first | exact HB.out | apply below_alloc | apply pw_below_drewN | apply below_drew1) | exact HB.out)⟩⟩
  case round =>
    clear H'
    try clear p2
    obtain ⟨x0_1, x10_1, rfl, HA, HK1, HO_0, HK, HB⟩ := hrel
    cases gk with
    | zero => exact absurd HA.out (by simp [impl_put.l0])
    | succ k1 =>
      have H := HA.out
      clear HA
      simp only [impl_put.l0] at H
      by_cases c5 : x10_1 < a2
      · rw [if_pos c5] at H
        have c5b0 : decide (x10_1 < a2) = true := decide_eq_true c5
        clear c5
        obtain ⟨ji6, hji6⟩ : ∃ j_ : Int, (wrap64 (8 * x10_1)) = j_ := ⟨_, rfl⟩
        replace H : (if 0 ≤ (ji6) then (if 0 ≤ (wrap64 (a1 + x10_1)) then (if (wrap64 (a1 + x10_1)) < (x0_1.length : Int) then (impl_put.l0 k1 (x0_1.set ((wrap64 (a1 + x10_1)) : Int).toNat ((shr .u64 a3 (ji6)) % 256)) a1 a3 a2 (wrap64 (x10_1 + 1))) else (none)) else (none)) else (none)) = some r := by first | (rw [hji6] at H; exact H) | (simp only [hji6] at H ⊢; exact H)
        have hji6w : (IntKind.i64.wrap (8 * x10_1)) = ji6 := (i64_w _).trans hji6
        by_cases c7 : 0 ≤ (ji6)
        · rw [if_pos c7] at H
          have c7b0 := eq_true c7
          have c7b1 : decide (0 ≤ (ji6)) = true := decide_eq_true c7
          clear c7
          obtain ⟨ji8, hji8⟩ : ∃ j_ : Int, (shr .u64 a3 (ji6)) = j_ := ⟨_, rfl⟩
          replace H : (if 0 ≤ (wrap64 (a1 + x10_1)) then (if (wrap64 (a1 + x10_1)) < (x0_1.length : Int) then (impl_put.l0 k1 (x0_1.set ((wrap64 (a1 + x10_1)) : Int).toNat ((ji8) % 256)) a1 a3 a2 (wrap64 (x10_1 + 1))) else (none)) else (none)) = some r := by first | (rw [hji8] at H; exact H) | (simp only [hji8] at H ⊢; exact H)
          have hji8_ : (a3 / 2 ^ min (ji6).toNat 64) = ji8 := hji8
          have hji8z : (ji6) ≤ 64 → (a3 / 2 ^ (ji6).toNat) = ji8 := shr_small hji8
          obtain ⟨ji9, hji9⟩ : ∃ j_ : Int, (wrap64 (a1 + x10_1)) = j_ := ⟨_, rfl⟩
          replace H : (if 0 ≤ (ji9) then (if (ji9) < (x0_1.length : Int) then (impl_put.l0 k1 (x0_1.set ((ji9) : Int).toNat ((ji8) % 256)) a1 a3 a2 (wrap64 (x10_1 + 1))) else (none)) else (none)) = some r := by first | (rw [hji9] at H; exact H) | (simp only [hji9] at H ⊢; exact H)
          have hji9w : (IntKind.i64.wrap (a1 + x10_1)) = ji9 := (i64_w _).trans hji9
          by_cases c10 : 0 ≤ (ji9)
          · rw [if_pos c10] at H
            have c10b0 : decide (0 ≤ (ji9)) = true := decide_eq_true c10
            clear c10
            by_cases c11 : (ji9) < (x0_1.length : Int)
            · rw [if_pos c11] at H
              have c11b0 : decide ((ji9) < (x0_1.length : Int)) = true := decide_eq_true c11
              clear c11
              obtain ⟨y101, hy101⟩ : ∃ y_ : List Int, y_ = (x0_1.set ((ji9) : Int).toNat ((ji8) % 256)) := ⟨_, rfl⟩
              replace H : (impl_put.l0 k1 y101 a1 a3 a2 (wrap64 (x10_1 + 1))) = some r := by first | (rw [hy101]; with_reducible exact H) | (have H2_ := (Option.bind_some _ _).symm.trans H; rw [hy101]; with_reducible exact H2_) | (have H2_ := (Option.bind_some _ _).symm.trans H; with_reducible exact H2_) | with_reducible exact H | (rw [hy101]; exact H) | exact H
              have Ny101 := Aside0.mk hy101
              clear hy101
              have H' := Aside0.mk H
              clear H
              have p12 : 0 ≤ ((ji9) : Int) := of_decide_eq_true (by first | (with_reducible assumption) | assumption)
              have q12 : ((ji9) : Int) < ((x0_1.length : Int) : Int) := of_decide_eq_true (by first | (with_reducible assumption) | assumption)
              obtain ⟨go12, co12, eo12, gb12, gl12, cl12, HG12⟩ := Kd.R_form HO_0.out (by omega)
              (first | cases eo12 | (injection eo12 with ea_ en_ ec_; (first | subst ea_ | (injection ea_ with ea_; subst ea_)); subst ec_; clear en_))
              have GB12 := Aside0.mk gb12
              have GG12 := Aside0.mk HG12
              clear gb12 gl12 HG12
              have HMgo12 := Aside0.mk (show (P0_ go12 ∨ w.heap.size ≤ go12) from (HO_0.out.1 _ rfl))
              obtain ⟨hx12_0, hf12_0⟩ := Kd.R_celln 0 HO_0.out ((ji9) : Int) p12 q12
              replace p12 := eq_true p12
              replace q12 := eq_true q12
              have HP13 := Kd.R_putg HO_0.out ((ji9) : Int) ((ji8) % 256)
              go_wp2_with (first | ((with_reducible refine gate_store (t := 5) (p := 22) rfl ?_); refine store_event (t := 5) (p := 22) (v := ?vo_w14) (w1 := (wr.setCell ⟨go12, ((ji9) : Int).toNat, none⟩ (.int .u8 ((ji8) % 256)))) ?hg ?ho ?hn ?hr ?_; (case ho => rfl); (case hg => rfl); (case hn => rfl); (case hr => first | (go_simp; done) | (go_simp; rfl)); intro w14 hw; have hg : wr.grownBy w14 (some go12) := (by rw [hw]; exact HP13.2); have hp_ : Kd.R (Kd.int .u8) e_ w14 w0.heap.size (fun k_ => (P0_ k_ ∨ w.heap.size ≤ k_)) (.slice (some ⟨go12, 0, none⟩) x0_1.length co12) y101 := (by rw [hw, Ny101.out]; exact HP13.1); clear HP13; have n0_ := Aside0.mk (hp_); have n1_ := Aside0.mk ((by rw [hw]; exact below_set (HB.out) GB12.out : Below w0.heap.size w0 w14)); have n2_ := Aside0.mk (Kept.of_grown (S := (fun k_ => P0_ k_)) hg (by repeat (first | (with_reducible first | exact HK.out | apply Kept.alloc | apply Kept.drewN | apply Kept.drew) | exact HK.out)) (fun k_ e_ => (HO_0.out.1 k_ e_))); clear HO_0; clear HB; clear HK; have HO_0 := n0_; have HB := n1_; have HK := n2_; clear n0_ n1_ n2_; clear hg hw hp_))
              go_roundg k1
              case measure => have := HK1.out; omega
              case rel => exact ⟨(y101), (wrap64 (x10_1 + 1)), (by first | rfl | (simp; done) | (simp [*]; done)), H', ⟨by have := HK1.out; omega⟩, ⟨by (with_reducible repeat (first | apply Kd.R_alloc | apply Kd.R_drewN | apply Kd.R_drew)); exact HO_0.out⟩, ⟨by repeat (first | (with_reducible first | exact HK.out | apply Kept.alloc | apply Kept.drewN | apply Kept.drew) | exact HK.out)⟩, ⟨by repeat (first | (with_reducible first | exact HB.out | apply below_alloc | apply pw_below_drewN | apply below_drew1) | exact HB.out)⟩⟩
            · rw [if_neg c11] at H
              exact absurd H (by simp)
          · rw [if_neg c10] at H
            exact absurd H (by simp)
        · rw [if_neg c7] at H
          exact absurd H (by simp)
      · rw [if_neg c5] at H
        have c5b0 : decide (x10_1 < a2) = false := decide_eq_false c5
        clear c5
        obtain rfl := Option.some.inj H
        go_wp2
        first | go_end0 | ((try simp only [Exit.inBlock, Exit.then]); refine bodyPost_ret (results_none rfl _ _ _) rfl ?_)
        exact ⟨by first | rfl | (simp [errW_none, errW_some] <;> rfl) | (simp [*, errW_none, errW_some] <;> rfl), by (with_reducible repeat (first | apply Kd.R_alloc | apply Kd.R_drewN | apply Kd.R_drew)); exact HO_0.out, by repeat (first | (with_reducible first | exact HB.out | apply below_alloc | apply pw_below_drewN | apply below_drew1) | exact HB.out), by repeat (first | (with_reducible first | exact HK.out | apply Kept.alloc | apply Kept.drewN | apply Kept.drew) | exact HK.out)⟩

end Go.Proofs.Ytgfadfahbhcllaa.Q
namespace Go.Proofs.Ytgfadfahbhcllaa.P
open Go.RowKit Go.Proofs.YtgfadfahbhcllaaW.PrintWords Go.Proofs.Ytgfadfahbhcllaa.Q
set_option linter.unusedVariables false
set_option linter.unusedSimpArgs false
/-- The n lowest bytes of x, lowest first. -/
def leB (n : Nat) (x : Int) : List Int := (List.range n).map fun i => x / 2 ^ (8 * i) % 256
theorem leB_length (n : Nat) (x : Int) : (leB n x).length = n := by unfold leB; rw [List.length_map, List.length_range]
theorem leB_succ (n : Nat) (x : Int) : leB (n + 1) x = leB n x ++ [x / 2 ^ (8 * n) % 256] := by unfold leB; rw [List.range_succ, List.map_append]; rfl
theorem splice_set {l m : List Int} {o : Nat} (v : Int) (h : o + m.length < l.length) : (splice l o m).set (o + m.length) v = splice l o (m ++ [v]) := by
  unfold splice
  have ht : (l.take o).length = o := by rw [List.length_take]; omega
  rw [List.set_append_right _ _ (by rw [ht]; omega), ht, Nat.add_sub_cancel_left, List.set_append_right _ _ (Nat.le_refl _), Nat.sub_self, List.drop_eq_getElem_cons h, List.set_cons_zero, List.length_append, List.length_singleton, Nat.add_assoc, List.append_assoc]
  rfl
theorem splice_nil {l : List Int} {o : Nat} : splice l o [] = l := by unfold splice; simp
theorem shr_byte {x : Int} (h0 : 0 ≤ x) (i : Nat) (hi : i < 8) : (shr .u64 x (wrap64 (8 * (i : Int)))) % 256 = x / 2 ^ (8 * i) % 256 := by
  have e : wrap64 (8 * (i : Int)) = ((8 * i : Nat) : Int) := by rw [w64 (n := 8 * (i : Int)) (by omega) (by omega)]; omega
  rw [e]
  have hh := shr_small (k := .u64) (x := x) (y := ((8 * i : Nat) : Int)) (j := shr .u64 x ((8 * i : Nat) : Int)) rfl (by show ((8 * i : Nat) : Int) ≤ 64; omega)
  rw [← hh, Int.toNat_natCast]
theorem put_ev (l : List Int) (a n : Nat) (x : Int) (h0 : 0 ≤ x) (hn : n ≤ 8) (ha : a + n ≤ l.length) (hl : l.length ≤ 4611686018427387904) : Ev (fun k => impl_put.f k l a n x) (splice l a (leB n x)) := by
  simp only [impl_put.f]
  have h := Ev.loop0 (fun k (s : List Int × Int) => impl_put.l0 k s.1 a x n s.2) (fun i => (splice l a (leB i x), (i : Int))) n (splice l a (leB n x)) ?_ ?_
  · have e : splice l a (leB 0 x) = l := splice_nil
    simp only [e] at h
    exact h
  · intro i hi
    refine ⟨0, fun k _ => ?_⟩
    have e1 : wrap64 (8 * (i : Int)) = 8 * (i : Int) := w64 (n := 8 * (i : Int)) (by omega) (by omega)
    have e2 : wrap64 ((a : Int) + (i : Int)) = ((a + i : Nat) : Int) := by rw [w64 (n := (a : Int) + (i : Int)) (by omega) (by omega)]; omega
    have hs : (splice l a (leB i x)).length = l.length := length_splice _ _ _ (by rw [leB_length]; omega)
    have e3 := shr_byte h0 i (by omega)
    simp only [impl_put.l0]
    rw [e2, e3]
    rw [if_pos (by omega), if_pos (by rw [e1]; omega), if_pos (by omega), if_pos (by rw [hs]; omega), Int.toNat_natCast, w64s hi (by omega)]
    have := splice_set (l := l) (m := leB i x) (o := a) (x / 2 ^ (8 * i) % 256) (by rw [leB_length]; omega)
    rw [leB_length] at this
    rw [this, leB_succ]
  · refine Ev.last ⟨0, fun k _ => ?_⟩
    simp only [impl_put.l0]
    rw [if_neg (by omega)]
end Go.Proofs.Ytgfadfahbhcllaa.P
namespace Go.Proofs.Ytgfadfahbhcllaa.Q
open Go.RowKit Go.Proofs.YtgfadfahbhcllaaW.PrintWords Go.Proofs.YtgfadfahbhcllaaW.PrintLast Go.Proofs.YtgfadfahbhcllaaW.PrintMore Go.Proofs.Ytgfadfahbhcllaa.LK
set_option linter.unusedVariables false
theorem bytesV_inj {l m : List Int} (h : bytesV l = bytesV m) : l = m := by
  unfold bytesV at h
  exact (List.map_inj_right (fun x y hxy => by injection hxy)).1 h
/-- put into an array's slice. -/
theorem put_box {g T : Nat} {l : List Int} (a n : Nat) {x : Int} {w0 w : World} (hB : Below w0.heap.size w0 w) (hg : w0.heap.size ≤ g) (hb : w.heap[g]? = some (.cells (bytesV l).toArray T (0, 0))) (h0 : 0 ≤ x) (hn : n ≤ 8) (ha : a + n ≤ l.length) (hl : l.length ≤ 4611686018427387904) (hp : 0 < l.length) :
    Calls Try.prog 88 #[.slice (some ⟨g, 0, none⟩) l.length l.length, .int .i64 a, .int .i64 n, .int .u64 x] w fun e w' => e = .returned (.tuple #[]) ∧ w'.heap[g]? = some (.cells (bytesV (splice l a (P.leB n x))).toArray T (0, 0)) ∧ Stp (fun k => k = g) w w' := by
  obtain ⟨k, hk⟩ := (P.put_ev l a n x h0 hn ha hl).ex
  have hs : (splice l a (P.leB n x)).length = l.length := length_splice _ _ _ (by rw [P.leB_length]; omega)
  have hR := R_of_block (base := w0.heap.size) (tl := []) (by rw [List.append_nil]; exact hb) hg (by rw [List.length_nil]; omega)
  rw [List.length_nil, Nat.add_zero] at hR
  refine (impl_put.callsE k _ _ l a n x _ w0 w hB hR hk).mono ?_
  rintro e w' ⟨rfl, hR', hB', hK⟩
  obtain ⟨B, tl, e1, e2, e3, e4, e5, e6, e7, e8⟩ := R_block hR' (by rw [hs]; exact hp)
  injection e1 with e1
  injection e1 with e1
  subst e1
  have : tl = [] := List.eq_nil_of_length_eq_zero (by omega)
  subst this
  rw [List.append_nil] at e7
  exact ⟨rfl, e7, hB'.os.trans hB.os.symm, hB'.tape.trans hB.tape.symm, hB'.output.trans hB.output.symm, hK.1, fun i hi hne => hK.2 i hi (fun he => hne he)⟩
/-- copy of a string into a block, in a plain region. -/
theorem copy_str {P : Program} {ops : Array Oper} {o : Oper} {rest : List Oper} {a : Act} {W : World} {Q : Exit → Act → World → Prop} (hgd : o.guard = none) (d x : Operand) (dT sT : TypeId)
    (ho : o.op = .call { callee := .builtin .copy, args := #[d, x], argTypes := #[dT, sT] }) (elem : TypeId) (hu : P.underlying dT = some (.slice elem)) (hz : ∀ w, (Go.sizeOf elem).run P w = .ok 1 w)
    (g off dLen dCap : Nat) (hd : a.eval d = .slice (some ⟨g, off, none⟩) dLen dCap) (s : ByteArray) (hx : a.eval x = .string s) (hle : s.size ≤ dLen)
    (cur : List Value) (t : TypeId) (hg : W.heap[g]? = some (.cells cur.toArray t (0, 0))) (m : List Int) (hm : (s.data.toList.map fun x => Value.int .u8 (x.toNat : Int)) = bytesV m) (hs : s.size = m.length) (hfit : off + m.length ≤ cur.length)
    (h : ∀ w', w'.heap[g]? = some (.cells (splice cur off (bytesV m)).toArray t (0, 0)) → Stp (fun k => k = g) W w' → wpList P ops Q rest (a.put o.dst (goInt s.size)) w') :
    wpList P ops Q (o :: rest) a W := by
  refine wpList_plain hgd fun K hK => ?_
  have hrun := run_copy_string (P := P) W dT sT o.type elem g off dLen dCap s hu hz hle (fun j hj => by rw [blk_cell hg (off + j)]; simp; omega) (fun j hj => blk_frozen hg (off + j))
  rw [hm] at hrun
  obtain ⟨cur', h3, _, h5⟩ := setCells_row (bytesV m) off W cur.toArray hg (by rw [bytesV_length]; simpa using hfit)
  obtain ⟨s1, s2, s3, s4⟩ := setCells_same g (bytesV m) off W
  unfold Oper.wp
  simp [execOp, ho, resolve, invoke, builtin, hd, hx, hrun, Result.andThen]
  refine hK _ _ (h _ ?_ ⟨s1, s2, s3, Nat.le_of_eq s4.symm, fun i _ hi => setCells_far (bytesV m) off i hi⟩)
  have e : cur'.toList = splice cur off (bytesV m) := by
    unfold splice
    rw [← List.append_assoc]
    first | exact h5 | simpa using h5
  rw [← e]
  exact h3
end Go.Proofs.Ytgfadfahbhcllaa.Q
namespace Go.Proofs.Ytgfadfahbhcllaa.Q
open Go.RowKit Go.Proofs.YtgfadfahbhcllaaW.PrintWords Go.Proofs.YtgfadfahbhcllaaW.PrintLast Go.Proofs.Ytgfadfahbhcllaa.LK Go.Proofs.YtgfadfahbhcllaaW.PrintMore
attribute [local go_sem] max2_int min2_int max_two min_two max_three min_three max_four min_four   -- for this text's walks alone
set_option linter.unusedVariables false
set_option linter.unusedSimpArgs false

/-! ### spec_Crc32: function 50 -/
mutual
def spec_Crc32.l0 : Nat → List Int → Int → Int → Option (Int)
  | 0, _, _, _ => none
  | k + 1, x0, x3, x4 => if x4 < (x0.length : Int) then (if 0 ≤ x4 then (spec_Crc32.l1 k x0 (Go.bits .xor .u32 x3 ((rd x0 x4) % 4294967296)) x4 0) else (none)) else (some (Go.bits .xor .u32 x3 4294967295))
def spec_Crc32.l1 : Nat → List Int → Int → Int → Int → Option (Int)
  | 0, _, _, _, _ => none
  | k + 1, x0, x3, x4, x5 => if x5 < 8 then (if (Int.tmod x3 2) = 1 then (spec_Crc32.l1 k x0 (Go.bits .xor .u32 ((Int.tdiv x3 2) % 4294967296) 3988292384) x4 (wrap64 (x5 + 1))) else (spec_Crc32.l1 k x0 ((Int.tdiv x3 2) % 4294967296) x4 (wrap64 (x5 + 1)))) else (spec_Crc32.l0 k x0 x3 (wrap64 (x4 + 1)))
end
def spec_Crc32.f (k : Nat) (l0 : List Int) : Option (Int) := spec_Crc32.l0 k l0 4294967295 0
theorem spec_Crc32.mono_l : ∀ k, (∀ y0 y1 y2, LeO (spec_Crc32.l0 k y0 y1 y2) (spec_Crc32.l0 (k + 1) y0 y1 y2)) ∧ (∀ y0 y1 y2 y3, LeO (spec_Crc32.l1 k y0 y1 y2 y3) (spec_Crc32.l1 (k + 1) y0 y1 y2 y3))
  | 0 => ⟨fun _ _ _ r h => by simp [spec_Crc32.l0] at h, fun _ _ _ _ r h => by simp [spec_Crc32.l1] at h⟩
  | k + 1 => by
    obtain ⟨ih0, ih1⟩ := spec_Crc32.mono_l k
    refine ⟨?_, ?_⟩
    · intro y0 y1 y2
      unfold spec_Crc32.l0
      repeat' first
      | (with_reducible exact ih0 _ _ _)
      | (with_reducible exact ih1 _ _ _ _)
      | (with_reducible exact LeO.refl _)
      | (with_reducible exact LeO.none _)
      | (with_reducible refine LeO.ite ?_ ?_)
      | (with_reducible refine LeO.bind ?_ (fun _ => ?_))
      | exact ih0 _ _ _
      | exact ih1 _ _ _ _
      | exact LeO.none _
      | refine LeO.ite ?_ ?_
      | refine LeO.bind ?_ (fun _ => ?_)
    · intro y0 y1 y2 y3
      unfold spec_Crc32.l1
      repeat' first
      | (with_reducible exact ih0 _ _ _)
      | (with_reducible exact ih1 _ _ _ _)
      | (with_reducible exact LeO.refl _)
      | (with_reducible exact LeO.none _)
      | (with_reducible refine LeO.ite ?_ ?_)
      | (with_reducible refine LeO.bind ?_ (fun _ => ?_))
      | exact ih0 _ _ _
      | exact ih1 _ _ _ _
      | exact LeO.none _
      | refine LeO.ite ?_ ?_
      | refine LeO.bind ?_ (fun _ => ?_)
theorem spec_Crc32.mono : ∀ a0 k, LeO (spec_Crc32.f k a0) (spec_Crc32.f (k + 1) a0) := by
  intro a0 k
  obtain ⟨ih0, ih1⟩ := spec_Crc32.mono_l k
  unfold spec_Crc32.f
  repeat' first
      | (with_reducible exact ih0 _ _ _)
      | (with_reducible exact ih1 _ _ _ _)
      | (with_reducible exact LeO.refl _)
      | (with_reducible exact LeO.none _)
      | (with_reducible refine LeO.ite ?_ ?_)
      | (with_reducible refine LeO.bind ?_ (fun _ => ?_))
      | exact ih0 _ _ _
      | exact ih1 _ _ _ _
      | exact LeO.none _
      | refine LeO.ite ?_ ?_
      | refine LeO.bind ?_ (fun _ => ?_)
set_option maxHeartbeats 8000000 in
set_option maxRecDepth 100000 in
theorem spec_Crc32.calls (k : Nat) (A0 : Option Addr) (c0 : Nat) (l0 : List Int) (r : Int) (w : World) (hr0 : Kd.C (Kd.int .u8) w A0 l0.length l0) (hc0 : l0.length ≤ c0) (h : spec_Crc32.f k l0 = some r) :
    Calls Try.prog 50 #[.slice A0 l0.length c0] w fun e w' => e = .returned (.int .u32 r) ∧ Drawn0 w w' := by
  have HR0 := Aside0.mk hr0
  have HC0 := Aside0.mk hc0
  clear hr0 hc0
  have H : (spec_Crc32.l0 k l0 4294967295 0) = some r := h
  clear h
  have H' := Aside0.mk H
  clear H
  go_enter Try.func50, Try.ntmps50
  go_wp2
  go_loopg [3, 4] k (fun kq v3 v4 w' => ∃ (x3_1 : Int) (x4_1 : Int), v3 = .int .u32 x3_1 ∧ v4 = .int .i64 x4_1 ∧ Aside0 (spec_Crc32.l0 kq l0 x3_1 x4_1 = some r) ∧ Aside0 (kq ≤ k) ∧ Drawn0 w w')
  case atStart => exact ⟨(4294967295), (0), (by first | rfl | (simp; done) | (simp [*]; done)), (by first | rfl | (simp; done) | (simp [*]; done)), H', ⟨Nat.le_refl _⟩, by repeat (first | exact Drawn0.refl _ | apply Drawn0.step)⟩
  case round =>
    clear H'
    obtain ⟨x3_1, x4_1, rfl, rfl, HA, HK1, ⟨m1, rfl⟩⟩ := hrel
    cases gk with
    | zero => exact absurd HA.out (by simp [spec_Crc32.l0])
    | succ k1 =>
      have H := HA.out
      clear HA
      simp only [spec_Crc32.l0] at H
      by_cases c2 : x4_1 < (l0.length : Int)
      · rw [if_pos c2] at H
        have c2b0 : decide (x4_1 < (l0.length : Int)) = true := decide_eq_true c2
        clear c2
        by_cases c3 : 0 ≤ x4_1
        · rw [if_pos c3] at H
          have c3b0 : decide (0 ≤ x4_1) = true := decide_eq_true c3
          clear c3
          have H' := Aside0.mk H
          clear H
          have p101 : 0 ≤ (x4_1 : Int) := of_decide_eq_true (by first | (with_reducible assumption) | assumption)
          have q101 : x4_1 < (l0.length : Int) := of_decide_eq_true (by first | (with_reducible assumption) | assumption)
          obtain ⟨ad101, e101, hx101_0⟩ := Kd.at_int HR0.out x4_1 p101 q101
          cases e101
          replace p101 := eq_true p101
          replace q101 := eq_true q101
          go_wp2
          go_loopg [3, 5] k1 (fun kq v3 v5 w' => ∃ (x3_2 : Int) (x5_2 : Int), v3 = .int .u32 x3_2 ∧ v5 = .int .i64 x5_2 ∧ Aside0 (spec_Crc32.l1 kq l0 x3_2 x4_1 x5_2 = some r) ∧ Aside0 (kq ≤ k1) ∧ Drawn0 w w')
          case atStart => exact ⟨(Go.bits .xor .u32 x3_1 ((rd l0 x4_1) % 4294967296)), (0), (by first | rfl | (simp; done) | (simp [*]; done)), (by first | rfl | (simp; done) | (simp [*]; done)), H', ⟨Nat.le_refl _⟩, by repeat (first | exact Drawn0.refl _ | apply Drawn0.step)⟩
          case round =>
            clear H'
            try clear p1
            try clear q1
            try clear hx1
            try clear c2
            try clear c2b0
            try clear p2
            try clear c3
            try clear c3b0
            try clear hx101_0
            try clear p101
            try clear q101
            obtain ⟨x3_2, x5_2, rfl, rfl, HA, HK2, ⟨m2, rfl⟩⟩ := hrel
            cases gk with
            | zero => exact absurd HA.out (by simp [spec_Crc32.l1])
            | succ k2 =>
              have H := HA.out
              clear HA
              simp only [spec_Crc32.l1] at H
              by_cases c4 : x5_2 < 8
              · rw [if_pos c4] at H
                have c4b0 : decide (x5_2 < 8) = true := decide_eq_true c4
                clear c4
                by_cases c5 : (Int.tmod x3_2 2) = 1
                · rw [if_pos c5] at H
                  have c5b0 : ((Int.tmod x3_2 2) == 1) = true := beq_iff_eq.mpr c5
                  have c5b1 : ((Int.tmod x3_2 2) != 1) = false := bne_eq_false_iff_eq.mpr c5
                  clear c5
                  have H' := Aside0.mk H
                  clear H
                  go_wp2
                  go_roundg k2
                  case measure => have := HK1.out; have := HK2.out; omega
                  case rel => exact ⟨(Go.bits .xor .u32 ((Int.tdiv x3_2 2) % 4294967296) 3988292384), (wrap64 (x5_2 + 1)), (by first | rfl | (simp; done) | (simp [*]; done)), (by first | rfl | (simp; done) | (simp [*]; done)), H', ⟨by have := HK1.out; have := HK2.out; omega⟩, by repeat (first | exact Drawn0.refl _ | apply Drawn0.step)⟩
                · rw [if_neg c5] at H
                  have c5b0 : ((Int.tmod x3_2 2) == 1) = false := beq_eq_false_iff_ne.mpr c5
                  have c5b1 : ((Int.tmod x3_2 2) != 1) = true := bne_iff_ne.mpr c5
                  have H' := Aside0.mk H
                  clear H
                  go_wp2
                  go_roundg k2
                  case measure => have := HK1.out; have := HK2.out; omega
                  case rel => exact ⟨((Int.tdiv x3_2 2) % 4294967296), (wrap64 (x5_2 + 1)), (by first | rfl | (simp; done) | (simp [*]; done)), (by first | rfl | (simp; done) | (simp [*]; done)), H', ⟨by have := HK1.out; have := HK2.out; omega⟩, by repeat (first | exact Drawn0.refl _ | apply Drawn0.step)⟩
              · rw [if_neg c4] at H
                have c4b0 : decide (x5_2 < 8) = false := decide_eq_false c4
                clear c4
                have H' := Aside0.mk H
                clear H
                go_wp2
                go_roundg k2
                case measure => have := HK1.out; have := HK2.out; omega
                case rel => exact ⟨(x3_2), (wrap64 (x4_1 + 1)), (by first | rfl | (simp; done) | (simp [*]; done)), (by first | rfl | (simp; done) | (simp [*]; done)), H', ⟨by have := HK1.out; have := HK2.out; omega⟩, by repeat (first | exact Drawn0.refl _ | apply Drawn0.step)⟩
        · rw [if_neg c3] at H
          exact absurd H (by simp)
      · rw [if_neg c2] at H
        have c2b0 : decide (x4_1 < (l0.length : Int)) = false := decide_eq_false c2
        clear c2
        obtain rfl := Option.some.inj H
        go_wp2
        go_ret
        exact ⟨by first | rfl | (simp; done) | (simp [*]; done), by repeat (first | exact Drawn0.refl _ | apply Drawn0.step)⟩

end Go.Proofs.Ytgfadfahbhcllaa.Q
namespace Go.Proofs.Ytgfadfahbhcllaa.Q
open Go.RowKit Go.Proofs.YtgfadfahbhcllaaW.PrintWords Go.Proofs.YtgfadfahbhcllaaW.PrintLast Go.Proofs.Ytgfadfahbhcllaa.LK Go.Proofs.YtgfadfahbhcllaaW.PrintMore
attribute [local go_sem] max2_int min2_int max_two min_two max_three min_three max_four min_four   -- for this text's walks alone
set_option linter.unusedVariables false
set_option linter.unusedSimpArgs false

/-! ### impl_Crc32: function 89 -/
mutual
def impl_Crc32.l0 : Nat → Int → List Int → Int → Int → Option (Int)
  | 0, _, _, _, _ => none
  | k + 1, x3, x6, x7, x8 => if x8 < x7 then (if 0 ≤ x8 then (if x8 < (x6.length : Int) then (impl_Crc32.l1 k (Go.bits .xor .u32 x3 ((rd x6 x8) % 4294967296)) x6 x7 x8 0) else (none)) else (none)) else (some (Go.bits .xor .u32 (4294967295) x3))
def impl_Crc32.l1 : Nat → Int → List Int → Int → Int → Int → Option (Int)
  | 0, _, _, _, _, _ => none
  | k + 1, x3, x6, x7, x8, x16 => if x16 < 8 then (impl_Crc32.l1 k (Go.bits .xor .u32 (x3 / 2) (Go.bits .and .u32 3988292384 ((-(Go.bits .and .u32 x3 1)) % 4294967296))) x6 x7 x8 (wrap64 (x16 + 1))) else (impl_Crc32.l0 k x3 x6 x7 (wrap64 (x8 + 1)))
end
def impl_Crc32.f (k : Nat) (l0 : List Int) : Option (Int) := impl_Crc32.l0 k 4294967295 l0 (l0.length : Int) 0
theorem impl_Crc32.mono_l : ∀ k, (∀ y0 y1 y2 y3, LeO (impl_Crc32.l0 k y0 y1 y2 y3) (impl_Crc32.l0 (k + 1) y0 y1 y2 y3)) ∧ (∀ y0 y1 y2 y3 y4, LeO (impl_Crc32.l1 k y0 y1 y2 y3 y4) (impl_Crc32.l1 (k + 1) y0 y1 y2 y3 y4))
  | 0 => ⟨fun _ _ _ _ r h => by simp [impl_Crc32.l0] at h, fun _ _ _ _ _ r h => by simp [impl_Crc32.l1] at h⟩
  | k + 1 => by
    obtain ⟨ih0, ih1⟩ := impl_Crc32.mono_l k
    refine ⟨?_, ?_⟩
    · intro y0 y1 y2 y3
      unfold impl_Crc32.l0
      repeat' first
      | (with_reducible exact ih0 _ _ _ _)
      | (with_reducible exact ih1 _ _ _ _ _)
      | (with_reducible exact LeO.refl _)
      | (with_reducible exact LeO.none _)
      | (with_reducible refine LeO.ite ?_ ?_)
      | (with_reducible refine LeO.bind ?_ (fun _ => ?_))
      | exact ih0 _ _ _ _
      | exact ih1 _ _ _ _ _
      | exact LeO.none _
      | refine LeO.ite ?_ ?_
      | refine LeO.bind ?_ (fun _ => ?_)
    · intro y0 y1 y2 y3 y4
      unfold impl_Crc32.l1
      repeat' first
      | (with_reducible exact ih0 _ _ _ _)
      | (with_reducible exact ih1 _ _ _ _ _)
      | (with_reducible exact LeO.refl _)
      | (with_reducible exact LeO.none _)
      | (with_reducible refine LeO.ite ?_ ?_)
      | (with_reducible refine LeO.bind ?_ (fun _ => ?_))
      | exact ih0 _ _ _ _
      | exact ih1 _ _ _ _ _
      | exact LeO.none _
      | refine LeO.ite ?_ ?_
      | refine LeO.bind ?_ (fun _ => ?_)
theorem impl_Crc32.mono : ∀ a0 k, LeO (impl_Crc32.f k a0) (impl_Crc32.f (k + 1) a0) := by
  intro a0 k
  obtain ⟨ih0, ih1⟩ := impl_Crc32.mono_l k
  unfold impl_Crc32.f
  repeat' first
      | (with_reducible exact ih0 _ _ _ _)
      | (with_reducible exact ih1 _ _ _ _ _)
      | (with_reducible exact LeO.refl _)
      | (with_reducible exact LeO.none _)
      | (with_reducible refine LeO.ite ?_ ?_)
      | (with_reducible refine LeO.bind ?_ (fun _ => ?_))
      | exact ih0 _ _ _ _
      | exact ih1 _ _ _ _ _
      | exact LeO.none _
      | refine LeO.ite ?_ ?_
      | refine LeO.bind ?_ (fun _ => ?_)
set_option maxHeartbeats 8000000 in
set_option maxRecDepth 100000 in
theorem impl_Crc32.calls (k : Nat) (A0 : Option Addr) (c0 : Nat) (l0 : List Int) (r : Int) (w : World) (hr0 : Kd.C (Kd.int .u8) w A0 l0.length l0) (hc0 : l0.length ≤ c0) (h : impl_Crc32.f k l0 = some r) :
    Calls Try.prog 89 #[.slice A0 l0.length c0] w fun e w' => e = .returned (.int .u32 r) ∧ Drawn0 w w' := by
  have HR0 := Aside0.mk hr0
  have HC0 := Aside0.mk hc0
  clear hr0 hc0
  have H : (impl_Crc32.l0 k 4294967295 l0 (l0.length : Int) 0) = some r := h
  clear h
  have H' := Aside0.mk H
  clear H
  go_enter Try.func89, Try.ntmps89
  go_wp2
  go_loopg [3, 8] k (fun kq v3 v8 w' => ∃ (x3_1 : Int) (x8_1 : Int), v3 = .int .u32 x3_1 ∧ v8 = .int .i64 x8_1 ∧ Aside0 (impl_Crc32.l0 kq x3_1 l0 (l0.length : Int) x8_1 = some r) ∧ Aside0 (kq ≤ k) ∧ Drawn0 w w')
  case atStart => exact ⟨(4294967295), (0), (by first | rfl | (simp; done) | (simp [*]; done)), (by first | rfl | (simp; done) | (simp [*]; done)), H', ⟨Nat.le_refl _⟩, by repeat (first | exact Drawn0.refl _ | apply Drawn0.step)⟩
  case round =>
    clear H'
    obtain ⟨x3_1, x8_1, rfl, rfl, HA, HK1, ⟨m1, rfl⟩⟩ := hrel
    cases gk with
    | zero => exact absurd HA.out (by simp [impl_Crc32.l0])
    | succ k1 =>
      have H := HA.out
      clear HA
      simp only [impl_Crc32.l0] at H
      by_cases c2 : x8_1 < (l0.length : Int)
      · rw [if_pos c2] at H
        have c2b0 : decide (x8_1 < (l0.length : Int)) = true := decide_eq_true c2
        clear c2
        by_cases c3 : 0 ≤ x8_1
        · rw [if_pos c3] at H
          have c3b0 : decide (0 ≤ x8_1) = true := decide_eq_true c3
          clear c3
          by_cases c4 : x8_1 < (l0.length : Int)
          · rw [if_pos c4] at H
            have c4b0 : decide (x8_1 < (l0.length : Int)) = true := decide_eq_true c4
            clear c4
            have H' := Aside0.mk H
            clear H
            have p101 : 0 ≤ (x8_1 : Int) := of_decide_eq_true (by first | (with_reducible assumption) | assumption)
            have q101 : x8_1 < (l0.length : Int) := of_decide_eq_true (by first | (with_reducible assumption) | assumption)
            obtain ⟨ad101, e101, hx101_0⟩ := Kd.at_int HR0.out x8_1 p101 q101
            cases e101
            replace p101 := eq_true p101
            replace q101 := eq_true q101
            go_wp2
            go_loopg [3, 16] k1 (fun kq v3 v16 w' => ∃ (x3_2 : Int) (x16_2 : Int), v3 = .int .u32 x3_2 ∧ v16 = .int .i64 x16_2 ∧ Aside0 (impl_Crc32.l1 kq x3_2 l0 (l0.length : Int) x8_1 x16_2 = some r) ∧ Aside0 (kq ≤ k1) ∧ Drawn0 w w')
            case atStart => exact ⟨(Go.bits .xor .u32 x3_1 ((rd l0 x8_1) % 4294967296)), (0), (by first | rfl | (simp; done) | (simp [*]; done)), (by first | rfl | (simp; done) | (simp [*]; done)), H', ⟨Nat.le_refl _⟩, by repeat (first | exact Drawn0.refl _ | apply Drawn0.step)⟩
            case round =>
              clear H'
              try clear p1
              try clear q1
              try clear hx1
              try clear c2
              try clear c2b0
              try clear p2
              try clear c3
              try clear c3b0
              try clear c4
              try clear c4b0
              try clear hx101_0
              try clear p101
              try clear q101
              obtain ⟨x3_2, x16_2, rfl, rfl, HA, HK2, ⟨m2, rfl⟩⟩ := hrel
              cases gk with
              | zero => exact absurd HA.out (by simp [impl_Crc32.l1])
              | succ k2 =>
                have H := HA.out
                clear HA
                simp only [impl_Crc32.l1] at H
                by_cases c5 : x16_2 < 8
                · rw [if_pos c5] at H
                  have c5b0 : decide (x16_2 < 8) = true := decide_eq_true c5
                  clear c5
                  have H' := Aside0.mk H
                  clear H
                  go_wp2
                  go_roundg k2
                  case measure => have := HK1.out; have := HK2.out; omega
                  case rel => exact ⟨(Go.bits .xor .u32 (x3_2 / 2) (Go.bits .and .u32 3988292384 ((-(Go.bits .and .u32 x3_2 1)) % 4294967296))), (wrap64 (x16_2 + 1)), (by first | rfl | (simp; done) | (simp [*]; done)), (by first | rfl | (simp; done) | (simp [*]; done)), H', ⟨by have := HK1.out; have := HK2.out; omega⟩, by repeat (first | exact Drawn0.refl _ | apply Drawn0.step)⟩
                · rw [if_neg c5] at H
                  have c5b0 : decide (x16_2 < 8) = false := decide_eq_false c5
                  clear c5
                  have H' := Aside0.mk H
                  clear H
                  go_wp2
                  go_roundg k2
                  case measure => have := HK1.out; have := HK2.out; omega
                  case rel => exact ⟨(x3_2), (wrap64 (x8_1 + 1)), (by first | rfl | (simp; done) | (simp [*]; done)), (by first | rfl | (simp; done) | (simp [*]; done)), H', ⟨by have := HK1.out; have := HK2.out; omega⟩, by repeat (first | exact Drawn0.refl _ | apply Drawn0.step)⟩
          · rw [if_neg c4] at H
            exact absurd H (by simp)
        · rw [if_neg c3] at H
          exact absurd H (by simp)
      · rw [if_neg c2] at H
        have c2b0 : decide (x8_1 < (l0.length : Int)) = false := decide_eq_false c2
        clear c2
        obtain rfl := Option.some.inj H
        go_wp2
        go_ret
        exact ⟨by first | rfl | (simp; done) | (simp [*]; done), by repeat (first | exact Drawn0.refl _ | apply Drawn0.step)⟩

end Go.Proofs.Ytgfadfahbhcllaa.Q
namespace Go.Proofs.Ytgfadfahbhcllaa.P
open Go.RowKit Go.Proofs.YtgfadfahbhcllaaW.PrintWords Go.Proofs.Ytgfadfahbhcllaa.Q
set_option linter.unusedVariables false
set_option linter.unusedSimpArgs false

def U32 (x : Int) : Prop := 0 ≤ x ∧ x ≤ 4294967295
theorem u32_wrap (n : Int) (h : U32 n) : IntKind.u32.wrap n = n := by rw [IntKind.wrap_u32]; unfold U32 at h; omega
theorem bits_u32 (op : BinOp) (x y : Int) : U32 (Go.bits op .u32 x y) := by
  unfold Go.bits U32
  rw [IntKind.wrap_u32]
  omega
theorem xor32 (a b : Nat) (ha : a < 4294967296) (hb : b < 4294967296) : Go.bits .xor .u32 (a : Int) (b : Int) = ((a ^^^ b : Nat) : Int) := by
  have h : a ^^^ b < 2 ^ 32 := Nat.xor_lt_two_pow (by simpa using ha) (by simpa using hb)
  unfold Go.bits
  simp only [BitVec.ofInt_natCast, BitVec.toNat_xor, BitVec.toNat_ofNat]
  rw [show IntKind.u32.bits = 32 from rfl, Nat.mod_eq_of_lt (by simpa using ha), Nat.mod_eq_of_lt (by simpa using hb)]
  exact u32_wrap _ ⟨by omega, by omega⟩
theorem and32 (a b : Nat) (ha : a < 4294967296) (hb : b < 4294967296) : Go.bits .and .u32 (a : Int) (b : Int) = ((a &&& b : Nat) : Int) := by
  have h : a &&& b < 2 ^ 32 := Nat.and_lt_two_pow _ (by simpa using hb)
  unfold Go.bits
  simp only [BitVec.ofInt_natCast, BitVec.toNat_and, BitVec.toNat_ofNat]
  rw [show IntKind.u32.bits = 32 from rfl, Nat.mod_eq_of_lt (by simpa using ha), Nat.mod_eq_of_lt (by simpa using hb)]
  exact u32_wrap _ ⟨by omega, by omega⟩
theorem xor32_comm (x y : Int) (hx : U32 x) (hy : U32 y) : Go.bits .xor .u32 x y = Go.bits .xor .u32 y x := by
  obtain ⟨a, rfl⟩ := Int.eq_ofNat_of_zero_le hx.1
  obtain ⟨b, rfl⟩ := Int.eq_ofNat_of_zero_le hy.1
  have h1 := hx.2
  have h2 := hy.2
  rw [xor32 a b (by omega) (by omega), xor32 b a (by omega) (by omega), Nat.xor_comm]
/-- One bit of the checksum. -/
def bit (x : Int) : Int := if x % 2 = 1 then Go.bits .xor .u32 (x / 2) 3988292384 else x / 2
theorem bit_range {x : Int} (h : U32 x) : U32 (bit x) := by
  unfold bit
  split
  · exact bits_u32 _ _ _
  · unfold U32 at *
    omega
theorem bit_spec {x : Int} (h : U32 x) : (if Int.tmod x 2 = 1 then Go.bits .xor .u32 ((Int.tdiv x 2) % 4294967296) 3988292384 else (Int.tdiv x 2) % 4294967296) = bit x := by
  unfold U32 at h
  have e1 : Int.tmod x 2 = x % 2 := Int.tmod_eq_emod_of_nonneg h.1
  have e2 : Int.tdiv x 2 = x / 2 := Int.tdiv_eq_ediv_of_nonneg h.1
  have e3 : (x / 2) % 4294967296 = x / 2 := by omega
  rw [e1, e2, e3]
  rfl
theorem bit_impl {x : Int} (h : U32 x) : Go.bits .xor .u32 (x / 2) (Go.bits .and .u32 3988292384 ((-(Go.bits .and .u32 x 1)) % 4294967296)) = bit x := by
  obtain ⟨n, rfl⟩ := Int.eq_ofNat_of_zero_le h.1
  have h1 := h.2
  have e : Go.bits .and .u32 (n : Int) 1 = ((n % 2 : Nat) : Int) := by
    have := and32 n 1 (by omega) (by omega)
    rw [Nat.and_one_is_mod] at this
    exact this
  unfold bit
  rw [e]
  rcases Nat.mod_two_eq_zero_or_one n with h2 | h2
  · rw [h2, if_neg (by omega)]
    rw [show (-((0 : Nat) : Int)) % 4294967296 = 0 from by decide, show Go.bits .and .u32 3988292384 0 = 0 from by decide]
    have := xor32 (n / 2) 0 (by omega) (by omega)
    rw [Nat.xor_zero] at this
    exact this
  · rw [h2, if_pos (by omega)]
    rw [show (-((1 : Nat) : Int)) % 4294967296 = 4294967295 from by decide, show Go.bits .and .u32 3988292384 4294967295 = 3988292384 from by decide]
def bitN : Nat → Int → Int
  | 0, x => x
  | n + 1, x => bitN n (bit x)
theorem bitN_range : ∀ n {x : Int}, U32 x → U32 (bitN n x)
  | 0, _, h => h
  | n + 1, _, h => bitN_range n (bit_range h)
def crcByte (c b : Int) : Int := bitN 8 (Go.bits .xor .u32 c (b % 4294967296))
def crcOf (l : List Int) (c : Int) : Int := l.foldl crcByte c
theorem crcOf_range : ∀ (l : List Int) {c : Int}, U32 c → U32 (crcOf l c)
  | [], _, h => h
  | b :: l, _, _ => crcOf_range l (bitN_range 8 (bits_u32 _ _ _))
def crc32 (l : List Int) : Int := Go.bits .xor .u32 (crcOf l 4294967295) 4294967295
theorem crc32_range (l : List Int) : U32 (crc32 l) := bits_u32 _ _ _
theorem spec_inner (l : List Int) (i4 : Int) {r : Int} : ∀ (j i : Nat) (x : Int), i + j = 8 → U32 x → Ev (fun k => spec_Crc32.l0 k l (bitN j x) (wrap64 (i4 + 1))) r → Ev (fun k => spec_Crc32.l1 k l x i4 (i : Int)) r
  | 0, i, x, h, _, e => by
    refine Ev.step ⟨0, fun k _ => ?_⟩ e
    simp only [spec_Crc32.l1]
    rw [if_neg (by omega)]
    rfl
  | j + 1, i, x, h, hx, e => by
    refine Ev.step ⟨0, fun k _ => ?_⟩ (spec_inner l i4 j (i + 1) (bit x) (by omega) (bit_range hx) e)
    simp only [spec_Crc32.l1]
    rw [if_pos (by omega), w64s (i := i) (n := 8) (by omega) (by omega), ← bit_spec hx]
    split <;> rfl
theorem spec_Crc32_ev (l : List Int) (h : l.length ≤ 4611686018427387904) : Ev (fun k => spec_Crc32.f k l) (crc32 l) := by
  have key : ∀ (rest done : List Int) (c : Int), done ++ rest = l → U32 c → Ev (fun k => spec_Crc32.l0 k l c (done.length : Int)) (Go.bits .xor .u32 (crcOf rest c) 4294967295) := by
    intro rest
    induction rest with
    | nil =>
      intro done c hl hc
      refine Ev.last ⟨0, fun k _ => ?_⟩
      have : l.length = done.length := by rw [← hl, List.append_nil]
      simp only [spec_Crc32.l0]
      rw [if_neg (by omega)]
      rfl
    | cons b rest ih =>
      intro done c hl hc
      have hlen : done.length + (rest.length + 1) = l.length := by rw [← hl, List.length_append, List.length_cons]
      have hat : l[done.length]? = some b := by rw [← hl]; simp
      have h1 := ih (done ++ [b]) (crcByte c b) (by rw [← hl]; simp) (bitN_range 8 (bits_u32 _ _ _))
      rw [List.length_append, List.length_singleton] at h1
      refine Ev.step ⟨0, fun k _ => ?_⟩ (spec_inner l (done.length : Int) 8 0 (Go.bits .xor .u32 c (b % 4294967296)) rfl (bits_u32 _ _ _) ?_)
      · simp only [spec_Crc32.l0]
        rw [if_pos (by omega), if_pos (by omega), rd_at hat]
        rfl
      · rw [w64s (i := done.length) (n := l.length) (by omega) (by omega)]
        exact h1
  exact key l [] 4294967295 rfl ⟨by decide, by decide⟩
theorem impl_inner (l : List Int) (n i4 : Int) {r : Int} : ∀ (j i : Nat) (x : Int), i + j = 8 → U32 x → Ev (fun k => impl_Crc32.l0 k (bitN j x) l n (wrap64 (i4 + 1))) r → Ev (fun k => impl_Crc32.l1 k x l n i4 (i : Int)) r
  | 0, i, x, h, _, e => by
    refine Ev.step ⟨0, fun k _ => ?_⟩ e
    simp only [impl_Crc32.l1]
    rw [if_neg (by omega)]
    rfl
  | j + 1, i, x, h, hx, e => by
    refine Ev.step ⟨0, fun k _ => ?_⟩ (impl_inner l n i4 j (i + 1) (bit x) (by omega) (bit_range hx) e)
    simp only [impl_Crc32.l1]
    rw [if_pos (by omega), w64s (i := i) (n := 8) (by omega) (by omega), bit_impl hx]
theorem impl_Crc32_ev (l : List Int) (h : l.length ≤ 4611686018427387904) : Ev (fun k => impl_Crc32.f k l) (crc32 l) := by
  have key : ∀ (rest done : List Int) (c : Int), done ++ rest = l → U32 c → Ev (fun k => impl_Crc32.l0 k c l (l.length : Int) (done.length : Int)) (Go.bits .xor .u32 4294967295 (crcOf rest c)) := by
    intro rest
    induction rest with
    | nil =>
      intro done c hl hc
      refine Ev.last ⟨0, fun k _ => ?_⟩
      have : l.length = done.length := by rw [← hl, List.append_nil]
      simp only [impl_Crc32.l0]
      rw [if_neg (by omega)]
      rfl
    | cons b rest ih =>
      intro done c hl hc
      have hlen : done.length + (rest.length + 1) = l.length := by rw [← hl, List.length_append, List.length_cons]
      have hat : l[done.length]? = some b := by rw [← hl]; simp
      have h1 := ih (done ++ [b]) (crcByte c b) (by rw [← hl]; simp) (bitN_range 8 (bits_u32 _ _ _))
      rw [List.length_append, List.length_singleton] at h1
      refine Ev.step ⟨0, fun k _ => ?_⟩ (impl_inner l (l.length : Int) (done.length : Int) 8 0 (Go.bits .xor .u32 c (b % 4294967296)) rfl (bits_u32 _ _ _) ?_)
      · simp only [impl_Crc32.l0]
        rw [if_pos (by omega), if_pos (by omega), if_pos (by omega), rd_at hat]
        rfl
      · rw [w64s (i := done.length) (n := l.length) (by omega) (by omega)]
        exact h1
  have h1 := key l [] 4294967295 rfl ⟨by decide, by decide⟩
  rw [xor32_comm _ _ ⟨by decide, by decide⟩ (crcOf_range l ⟨by decide, by decide⟩)] at h1
  exact h1
end Go.Proofs.Ytgfadfahbhcllaa.P
namespace Go.Proofs.Ytgfadfahbhcllaa.Q
open Go.RowKit Go.Proofs.YtgfadfahbhcllaaW.PrintWords Go.Proofs.YtgfadfahbhcllaaW.PrintLast Go.Proofs.Ytgfadfahbhcllaa.LK Go.Proofs.YtgfadfahbhcllaaW.PrintMore
attribute [local go_sem] max2_int min2_int max_two min_two max_three min_three max_four min_four   -- for this text's walks alone
set_option linter.unusedVariables false
set_option linter.unusedSimpArgs false

/-! ### impl_get: function 90 -/
def impl_get.l0 : Nat → List Int → Int → Int → Int → Option (Int)
  | 0, _, _, _, _ => none
  | k + 1, x0, x1, x7, x8 => if x8 ≥ 0 then (if 0 ≤ (wrap64 (x1 + x8)) then (if (wrap64 (x1 + x8)) < (x0.length : Int) then (impl_get.l0 k x0 x1 (Go.bits .or .u64 (IntKind.u64.wrap (x7 * 256)) (IntKind.u64.wrap (rd x0 (wrap64 (x1 + x8))))) (wrap64 (x8 - 1))) else (none)) else (none)) else (some x7)
def impl_get.f (k : Nat) (l0 : List Int) (a1 : Int) (a2 : Int) : Option (Int) := impl_get.l0 k l0 a1 0 (wrap64 (a2 - 1))
theorem impl_get.mono_l : ∀ k, (∀ y0 y1 y2 y3, LeO (impl_get.l0 k y0 y1 y2 y3) (impl_get.l0 (k + 1) y0 y1 y2 y3))
  | 0 => fun _ _ _ _ r h => by simp [impl_get.l0] at h
  | k + 1 => by
    have ih0 := impl_get.mono_l k
    · intro y0 y1 y2 y3
      unfold impl_get.l0
      repeat' first
      | (with_reducible exact ih0 _ _ _ _)
      | (with_reducible exact LeO.refl _)
      | (with_reducible exact LeO.none _)
      | (with_reducible refine LeO.ite ?_ ?_)
      | (with_reducible refine LeO.bind ?_ (fun _ => ?_))
      | exact ih0 _ _ _ _
      | exact LeO.none _
      | refine LeO.ite ?_ ?_
      | refine LeO.bind ?_ (fun _ => ?_)
theorem impl_get.mono : ∀ a0 a1 a2 k, LeO (impl_get.f k a0 a1 a2) (impl_get.f (k + 1) a0 a1 a2) := by
  intro a0 a1 a2 k
  have ih0 := impl_get.mono_l k
  unfold impl_get.f
  repeat' first
      | (with_reducible exact ih0 _ _ _ _)
      | (with_reducible exact LeO.refl _)
      | (with_reducible exact LeO.none _)
      | (with_reducible refine LeO.ite ?_ ?_)
      | (with_reducible refine LeO.bind ?_ (fun _ => ?_))
      | exact ih0 _ _ _ _
      | exact LeO.none _
      | refine LeO.ite ?_ ?_
      | refine LeO.bind ?_ (fun _ => ?_)
set_option maxHeartbeats 8000000 in
set_option maxRecDepth 100000 in
theorem impl_get.calls (k : Nat) (A0 : Option Addr) (c0 : Nat) (l0 : List Int) (a1 : Int) (a2 : Int) (r : Int) (w : World) (hr0 : Kd.C (Kd.int .u8) w A0 l0.length l0) (hc0 : l0.length ≤ c0) (h : impl_get.f k l0 a1 a2 = some r) :
    Calls Try.prog 90 #[.slice A0 l0.length c0, .int .i64 a1, .int .i64 a2] w fun e w' => e = .returned (.int .u64 r) ∧ Drawn0 w w' := by
  have HR0 := Aside0.mk hr0
  have HC0 := Aside0.mk hc0
  clear hr0 hc0
  have H : (impl_get.l0 k l0 a1 0 (wrap64 (a2 - 1))) = some r := h
  clear h
  have H' := Aside0.mk H
  clear H
  go_enter Try.func90, Try.ntmps90
  go_wp2
  go_loopg [7, 8] k (fun kq v7 v8 w' => ∃ (x7_1 : Int) (x8_1 : Int), v7 = .int .u64 x7_1 ∧ v8 = .int .i64 x8_1 ∧ Aside0 (impl_get.l0 kq l0 a1 x7_1 x8_1 = some r) ∧ Aside0 (kq ≤ k) ∧ Drawn0 w w')
  case atStart => exact ⟨(0), (wrap64 (a2 - 1)), (by first | rfl | (simp; done) | (simp [*]; done)), (by first | rfl | (simp; done) | (simp [*]; done)), H', ⟨Nat.le_refl _⟩, by repeat (first | exact Drawn0.refl _ | apply Drawn0.step)⟩
  case round =>
    clear H'
    try clear p2
    obtain ⟨x7_1, x8_1, rfl, rfl, HA, HK1, ⟨m1, rfl⟩⟩ := hrel
    cases gk with
    | zero => exact absurd HA.out (by simp [impl_get.l0])
    | succ k1 =>
      have H := HA.out
      clear HA
      simp only [impl_get.l0] at H
      by_cases c4 : x8_1 ≥ 0
      · rw [if_pos c4] at H
        have c4b0 : decide (0 ≤ x8_1) = true := decide_eq_true c4
        clear c4
        obtain ⟨ji5, hji5⟩ : ∃ j_ : Int, (wrap64 (a1 + x8_1)) = j_ := ⟨_, rfl⟩
        replace H : (if 0 ≤ (ji5) then (if (ji5) < (l0.length : Int) then (impl_get.l0 k1 l0 a1 (Go.bits .or .u64 (IntKind.u64.wrap (x7_1 * 256)) (IntKind.u64.wrap (rd l0 (ji5)))) (wrap64 (x8_1 - 1))) else (none)) else (none)) = some r := by first | (rw [hji5] at H; exact H) | (simp only [hji5] at H ⊢; exact H)
        have hji5w : (IntKind.i64.wrap (a1 + x8_1)) = ji5 := (i64_w _).trans hji5
        by_cases c6 : 0 ≤ (ji5)
        · rw [if_pos c6] at H
          have c6b0 : decide (0 ≤ (ji5)) = true := decide_eq_true c6
          clear c6
          by_cases c7 : (ji5) < (l0.length : Int)
          · rw [if_pos c7] at H
            have c7b0 : decide ((ji5) < (l0.length : Int)) = true := decide_eq_true c7
            clear c7
            have H' := Aside0.mk H
            clear H
            have p101 : 0 ≤ ((ji5) : Int) := of_decide_eq_true (by first | (with_reducible assumption) | assumption)
            have q101 : (ji5) < (l0.length : Int) := of_decide_eq_true (by first | (with_reducible assumption) | assumption)
            obtain ⟨ad101, e101, hx101_0⟩ := Kd.at_int HR0.out (ji5) p101 q101
            cases e101
            replace p101 := eq_true p101
            replace q101 := eq_true q101
            go_wp2
            go_roundg k1
            case measure => have := HK1.out; omega
            case rel => exact ⟨(Go.bits .or .u64 (IntKind.u64.wrap (x7_1 * 256)) (IntKind.u64.wrap (rd l0 (ji5)))), (wrap64 (x8_1 - 1)), (by first | rfl | (simp; done) | (simp only [← hji5] <;> (first | rfl | simp)) | (simp [*]; done)), (by first | rfl | (simp; done) | (simp [*]; done)), H', ⟨by have := HK1.out; omega⟩, by repeat (first | exact Drawn0.refl _ | apply Drawn0.step)⟩
          · rw [if_neg c7] at H
            exact absurd H (by simp)
        · rw [if_neg c6] at H
          exact absurd H (by simp)
      · rw [if_neg c4] at H
        have c4b0 : decide (0 ≤ x8_1) = false := decide_eq_false c4
        clear c4
        obtain rfl := Option.some.inj H
        go_wp2
        go_ret
        exact ⟨by first | rfl | (simp; done) | (simp [*]; done), by repeat (first | exact Drawn0.refl _ | apply Drawn0.step)⟩

end Go.Proofs.Ytgfadfahbhcllaa.Q
namespace Go.Proofs.Ytgfadfahbhcllaa.Q
open Go.RowKit Go.Proofs.YtgfadfahbhcllaaW.PrintWords Go.Proofs.YtgfadfahbhcllaaW.PrintLast Go.Proofs.Ytgfadfahbhcllaa.LK Go.Proofs.YtgfadfahbhcllaaW.PrintMore
attribute [local go_sem] max2_int min2_int max_two min_two max_three min_three max_four min_four   -- for this text's walks alone
set_option linter.unusedVariables false
set_option linter.unusedSimpArgs false

/-! ### spec_l2Get: function 53 -/
def spec_l2Get.f (l0 : List Int) (a1 : Int) : Option (Int) := if 0 ≤ a1 then (if a1 < (l0.length : Int) then (if 0 ≤ (wrap64 (a1 + 1)) then (if (wrap64 (a1 + 1)) < (l0.length : Int) then (if 0 ≤ (wrap64 (a1 + 2)) then (if (wrap64 (a1 + 2)) < (l0.length : Int) then (if 0 ≤ (wrap64 (a1 + 3)) then (if (wrap64 (a1 + 3)) < (l0.length : Int) then (some ((((((((rd l0 a1) % 4294967296) + ((256 * ((rd l0 (wrap64 (a1 + 1))) % 4294967296)) % 4294967296)) % 4294967296) + ((65536 * ((rd l0 (wrap64 (a1 + 2))) % 4294967296)) % 4294967296)) % 4294967296) + ((16777216 * ((rd l0 (wrap64 (a1 + 3))) % 4294967296)) % 4294967296)) % 4294967296)) else (none)) else (none)) else (none)) else (none)) else (none)) else (none)) else (none)) else (none)
set_option maxHeartbeats 8000000 in
set_option maxRecDepth 100000 in
theorem spec_l2Get.calls (A0 : Option Addr) (c0 : Nat) (l0 : List Int) (a1 : Int) (r : Int) (w : World) (hr0 : Kd.C (Kd.int .u8) w A0 l0.length l0) (hc0 : l0.length ≤ c0) (h : spec_l2Get.f l0 a1 = some r) :
    Calls Try.prog 53 #[.slice A0 l0.length c0, .int .i64 a1] w fun e w' => e = .returned (.int .u32 r) ∧ Drawn0 w w' := by
  have HR0 := Aside0.mk hr0
  have HC0 := Aside0.mk hc0
  clear hr0 hc0
  have H : (if 0 ≤ a1 then (if a1 < (l0.length : Int) then (if 0 ≤ (wrap64 (a1 + 1)) then (if (wrap64 (a1 + 1)) < (l0.length : Int) then (if 0 ≤ (wrap64 (a1 + 2)) then (if (wrap64 (a1 + 2)) < (l0.length : Int) then (if 0 ≤ (wrap64 (a1 + 3)) then (if (wrap64 (a1 + 3)) < (l0.length : Int) then (some ((((((((rd l0 a1) % 4294967296) + ((256 * ((rd l0 (wrap64 (a1 + 1))) % 4294967296)) % 4294967296)) % 4294967296) + ((65536 * ((rd l0 (wrap64 (a1 + 2))) % 4294967296)) % 4294967296)) % 4294967296) + ((16777216 * ((rd l0 (wrap64 (a1 + 3))) % 4294967296)) % 4294967296)) % 4294967296)) else (none)) else (none)) else (none)) else (none)) else (none)) else (none)) else (none)) else (none)) = some r := h
  clear h
  by_cases c3 : 0 ≤ a1
  · rw [if_pos c3] at H
    have c3b0 : decide (0 ≤ a1) = true := decide_eq_true c3
    clear c3
    by_cases c4 : a1 < (l0.length : Int)
    · rw [if_pos c4] at H
      have c4b0 : decide (a1 < (l0.length : Int)) = true := decide_eq_true c4
      clear c4
      obtain ⟨ji5, hji5⟩ : ∃ j_ : Int, (wrap64 (a1 + 1)) = j_ := ⟨_, rfl⟩
      replace H : (if 0 ≤ (ji5) then (if (ji5) < (l0.length : Int) then (if 0 ≤ (wrap64 (a1 + 2)) then (if (wrap64 (a1 + 2)) < (l0.length : Int) then (if 0 ≤ (wrap64 (a1 + 3)) then (if (wrap64 (a1 + 3)) < (l0.length : Int) then (some ((((((((rd l0 a1) % 4294967296) + ((256 * ((rd l0 (ji5)) % 4294967296)) % 4294967296)) % 4294967296) + ((65536 * ((rd l0 (wrap64 (a1 + 2))) % 4294967296)) % 4294967296)) % 4294967296) + ((16777216 * ((rd l0 (wrap64 (a1 + 3))) % 4294967296)) % 4294967296)) % 4294967296)) else (none)) else (none)) else (none)) else (none)) else (none)) else (none)) = some r := by first | (rw [hji5] at H; exact H) | (simp only [hji5] at H ⊢; exact H)
      have hji5w : (IntKind.i64.wrap (a1 + 1)) = ji5 := (i64_w _).trans hji5
      by_cases c6 : 0 ≤ (ji5)
      · rw [if_pos c6] at H
        have c6b0 : decide (0 ≤ (ji5)) = true := decide_eq_true c6
        clear c6
        by_cases c7 : (ji5) < (l0.length : Int)
        · rw [if_pos c7] at H
          have c7b0 : decide ((ji5) < (l0.length : Int)) = true := decide_eq_true c7
          clear c7
          obtain ⟨ji8, hji8⟩ : ∃ j_ : Int, (wrap64 (a1 + 2)) = j_ := ⟨_, rfl⟩
          replace H : (if 0 ≤ (ji8) then (if (ji8) < (l0.length : Int) then (if 0 ≤ (wrap64 (a1 + 3)) then (if (wrap64 (a1 + 3)) < (l0.length : Int) then (some ((((((((rd l0 a1) % 4294967296) + ((256 * ((rd l0 (ji5)) % 4294967296)) % 4294967296)) % 4294967296) + ((65536 * ((rd l0 (ji8)) % 4294967296)) % 4294967296)) % 4294967296) + ((16777216 * ((rd l0 (wrap64 (a1 + 3))) % 4294967296)) % 4294967296)) % 4294967296)) else (none)) else (none)) else (none)) else (none)) = some r := by first | (rw [hji8] at H; exact H) | (simp only [hji8] at H ⊢; exact H)
          have hji8w : (IntKind.i64.wrap (a1 + 2)) = ji8 := (i64_w _).trans hji8
          by_cases c9 : 0 ≤ (ji8)
          · rw [if_pos c9] at H
            have c9b0 : decide (0 ≤ (ji8)) = true := decide_eq_true c9
            clear c9
            by_cases c10 : (ji8) < (l0.length : Int)
            · rw [if_pos c10] at H
              have c10b0 : decide ((ji8) < (l0.length : Int)) = true := decide_eq_true c10
              clear c10
              obtain ⟨ji11, hji11⟩ : ∃ j_ : Int, (wrap64 (a1 + 3)) = j_ := ⟨_, rfl⟩
              replace H : (if 0 ≤ (ji11) then (if (ji11) < (l0.length : Int) then (some ((((((((rd l0 a1) % 4294967296) + ((256 * ((rd l0 (ji5)) % 4294967296)) % 4294967296)) % 4294967296) + ((65536 * ((rd l0 (ji8)) % 4294967296)) % 4294967296)) % 4294967296) + ((16777216 * ((rd l0 (ji11)) % 4294967296)) % 4294967296)) % 4294967296)) else (none)) else (none)) = some r := by first | (rw [hji11] at H; exact H) | (simp only [hji11] at H ⊢; exact H)
              have hji11w : (IntKind.i64.wrap (a1 + 3)) = ji11 := (i64_w _).trans hji11
              by_cases c12 : 0 ≤ (ji11)
              · rw [if_pos c12] at H
                have c12b0 : decide (0 ≤ (ji11)) = true := decide_eq_true c12
                clear c12
                by_cases c13 : (ji11) < (l0.length : Int)
                · rw [if_pos c13] at H
                  have c13b0 : decide ((ji11) < (l0.length : Int)) = true := decide_eq_true c13
                  clear c13
                  obtain rfl := Option.some.inj H
                  have p101 : 0 ≤ (a1 : Int) := of_decide_eq_true (by first | (with_reducible assumption) | assumption)
                  have q101 : a1 < (l0.length : Int) := of_decide_eq_true (by first | (with_reducible assumption) | assumption)
                  obtain ⟨ad101, e101, hx101_0⟩ := Kd.at_int HR0.out a1 p101 q101
                  cases e101
                  replace p101 := eq_true p101
                  replace q101 := eq_true q101
                  have p102 : 0 ≤ ((ji5) : Int) := of_decide_eq_true (by first | (with_reducible assumption) | assumption)
                  have q102 : (ji5) < (l0.length : Int) := of_decide_eq_true (by first | (with_reducible assumption) | assumption)
                  obtain ⟨ad102, e102, hx102_0⟩ := Kd.at_int HR0.out (ji5) p102 q102
                  obtain rfl : ad101 = ad102 := (by injection e102)
                  replace p102 := eq_true p102
                  replace q102 := eq_true q102
                  have p103 : 0 ≤ ((ji8) : Int) := of_decide_eq_true (by first | (with_reducible assumption) | assumption)
                  have q103 : (ji8) < (l0.length : Int) := of_decide_eq_true (by first | (with_reducible assumption) | assumption)
                  obtain ⟨ad103, e103, hx103_0⟩ := Kd.at_int HR0.out (ji8) p103 q103
                  obtain rfl : ad101 = ad103 := (by injection e103)
                  replace p103 := eq_true p103
                  replace q103 := eq_true q103
                  have p104 : 0 ≤ ((ji11) : Int) := of_decide_eq_true (by first | (with_reducible assumption) | assumption)
                  have q104 : (ji11) < (l0.length : Int) := of_decide_eq_true (by first | (with_reducible assumption) | assumption)
                  obtain ⟨ad104, e104, hx104_0⟩ := Kd.at_int HR0.out (ji11) p104 q104
                  obtain rfl : ad101 = ad104 := (by injection e104)
                  replace p104 := eq_true p104
                  replace q104 := eq_true q104
                  go_enter Try.func53, Try.ntmps53
                  go_wp2
                  repeat (go_quiet (fail); try go_wp2)
                  go_ret
                  exact ⟨by first | rfl | (simp; done) | (simp only [← hji5, ← hji8, ← hji11] <;> (first | rfl | simp)) | (simp [*]; done), by repeat (first | exact Drawn0.refl _ | apply Drawn0.step)⟩
                · rw [if_neg c13] at H
                  exact absurd H (by simp)
              · rw [if_neg c12] at H
                exact absurd H (by simp)
            · rw [if_neg c10] at H
              exact absurd H (by simp)
          · rw [if_neg c9] at H
            exact absurd H (by simp)
        · rw [if_neg c7] at H
          exact absurd H (by simp)
      · rw [if_neg c6] at H
        exact absurd H (by simp)
    · rw [if_neg c4] at H
      exact absurd H (by simp)
  · rw [if_neg c3] at H
    exact absurd H (by simp)

end Go.Proofs.Ytgfadfahbhcllaa.Q
namespace Go.Proofs.Ytgfadfahbhcllaa.P
open Go.RowKit Go.Proofs.YtgfadfahbhcllaaW.PrintWords Go.Proofs.Ytgfadfahbhcllaa.Q
set_option linter.unusedVariables false
set_option linter.unusedSimpArgs false

/-- The number that bytes tell, the lowest first. -/
def le : List Int → Int
  | [] => 0
  | b :: bs => b + 256 * le bs
def U8s (l : List Int) : Prop := ∀ z ∈ l, 0 ≤ z ∧ z ≤ 255
theorem u8_of {l : List Int} (h : ∀ z ∈ l, (Lit.int .u8 z).wf = true) : U8s l := by
  intro z hz
  have := h z hz
  simp [Lit.wf, IntKind.min, IntKind.max, IntKind.signed, IntKind.bits] at this
  omega
theorem U8s.drop {l : List Int} (h : U8s l) (n : Nat) : U8s (l.drop n) := fun z hz => h z (List.mem_of_mem_drop hz)
theorem U8s.take {l : List Int} (h : U8s l) (n : Nat) : U8s (l.take n) := fun z hz => h z (List.mem_of_mem_take hz)
theorem U8s.at_ {l : List Int} (h : U8s l) {i : Nat} {b : Int} (hb : l[i]? = some b) : 0 ≤ b ∧ b ≤ 255 := h b (List.mem_of_getElem? hb)
theorem le_range : ∀ {l : List Int}, U8s l → 0 ≤ le l ∧ le l < 256 ^ l.length
  | [], _ => ⟨by decide, by decide⟩
  | b :: bs, h => by
    have h1 := le_range (l := bs) (fun z hz => h z (List.mem_cons_of_mem _ hz))
    have h2 := h b (List.mem_cons_self ..)
    have e : (256 : Int) ^ (b :: bs).length = 256 * 256 ^ bs.length := by rw [List.length_cons, Int.pow_succ, Int.mul_comm]
    rw [e]
    unfold le
    omega
theorem le_snoc : ∀ (l : List Int) (b : Int), le (l ++ [b]) = le l + 256 ^ l.length * b
  | [], b => by simp [le]
  | a :: l, b => by
    simp only [List.cons_append, le, le_snoc l b, List.length_cons, Int.pow_succ]
    rw [Int.mul_add, ← Int.add_assoc, Int.mul_comm (256 ^ l.length) 256, Int.mul_assoc]
theorem u64_wrap {n : Int} (h0 : 0 ≤ n) (h : n < 18446744073709551616) : IntKind.u64.wrap n = n := by
  simp [IntKind.wrap, IntKind.bits, IntKind.signed]
  omega
theorem or_byte (x b : Int) (hx : 0 ≤ x) (hx1 : x < 72057594037927936) (hb : 0 ≤ b ∧ b ≤ 255) : Go.bits .or .u64 (IntKind.u64.wrap (x * 256)) (IntKind.u64.wrap b) = b + 256 * x := by
  rw [u64_wrap (by omega) (by omega), u64_wrap (by omega) (by omega)]
  rw [bits_join .u64 64 (Nat.le_refl _) (fun n h h2 => u64_wrap h h2) 8 (x * 256) b (by omega) (by omega) (by omega) hb.1 (by omega) (by omega)]
  omega
/-- The program's own reading of n bytes at a. -/
theorem get_loop (l : List Int) (a : Int) (hb : U8s l) (h0 : 0 ≤ a) (hl : l.length ≤ 4611686018427387904) : ∀ (i : Nat) (m : List Int), i + m.length ≤ 8 → a.toNat + i + m.length ≤ l.length → (l.drop (a.toNat + i)).take m.length = m →
    Ev (fun k => impl_get.l0 k l a (le m) ((i : Int) - 1)) (le ((l.drop a.toNat).take (i + m.length)))
  | 0, m, h8, hal, hm => by
    refine Ev.last ⟨0, fun k _ => ?_⟩
    simp only [impl_get.l0]
    rw [if_neg (by omega)]
    rw [Nat.zero_add]
    rw [Nat.add_zero] at hm
    rw [hm]
  | i + 1, m, h8, hal, hm => by
    obtain ⟨b, hbt⟩ := some_at (show a.toNat + i < l.length by omega)
    have hmb : U8s m := hm ▸ (hb.drop _).take _
    have hr := le_range hmb
    have hp : (256 : Int) ^ m.length ≤ 256 ^ 7 := by
      have : (256 : Nat) ^ m.length ≤ 256 ^ 7 := Nat.pow_le_pow_right (by decide) (by omega)
      have h := Int.ofNat_le.mpr this
      rw [Int.natCast_pow, Int.natCast_pow] at h
      exact h
    have hlt : le m < 72057594037927936 := by
      have : (256 : Int) ^ 7 = 72057594037927936 := by rfl
      omega
    have hc : (l.drop (a.toNat + i)).take (b :: m).length = b :: m := by
      rw [List.length_cons, List.drop_eq_getElem_cons (by omega), List.take_succ_cons]
      congr 1
      exact (List.getElem?_eq_some_iff.1 hbt).2
    have h1 := get_loop l a hb h0 hl i (b :: m) (by rw [List.length_cons]; omega) (by rw [List.length_cons]; omega) hc
    rw [List.length_cons, show i + (m.length + 1) = i + 1 + m.length from by omega] at h1
    refine Ev.step ⟨0, fun k _ => ?_⟩ h1
    have e1 : wrap64 (a + (((i + 1 : Nat) : Int) - 1)) = ((a.toNat + i : Nat) : Int) := by rw [w64 (by omega) (by omega)]; omega
    have e2 : wrap64 (((i + 1 : Nat) : Int) - 1 - 1) = (i : Int) - 1 := by rw [w64 (by omega) (by omega)]; omega
    simp only [impl_get.l0]
    rw [e1, e2, rd_at hbt, or_byte (le m) b hr.1 hlt (hb.at_ hbt), if_pos (by clear e1 e2; omega), if_pos (by clear e1 e2; omega), if_pos (by clear e1 e2; omega)]
    rfl
theorem impl_get_ev (l : List Int) (a n : Int) (hb : U8s l) (h0 : 0 ≤ a) (hn : 0 ≤ n) (h8 : n ≤ 8) (h : a + n ≤ l.length) (hl : l.length ≤ 4611686018427387904) : Ev (fun k => impl_get.f k l a n) (le ((l.drop a.toNat).take n.toNat)) := by
  have h1 := get_loop l a hb h0 hl n.toNat [] (by simp; omega) (by simp; omega) rfl
  rw [List.length_nil, Nat.add_zero, show ((n.toNat : Nat) : Int) = n from by omega] at h1
  simp only [impl_get.f]
  rw [w64 (by omega) (by omega)]
  exact h1
theorem take4 {l : List Int} {i : Nat} {b0 b1 b2 b3 : Int} (h0 : l[i]? = some b0) (h1 : l[i + 1]? = some b1) (h2 : l[i + 2]? = some b2) (h3 : l[i + 3]? = some b3) : (l.drop i).take 4 = [b0, b1, b2, b3] := by
  apply List.ext_getElem?
  intro j
  match j with
  | 0 => simpa using h0
  | 1 => simpa using h1
  | 2 => simpa using h2
  | 3 => simpa using h3
  | j + 4 =>
    simp
    omega
theorem spec_get (l : List Int) (a : Int) (hb : U8s l) (h0 : 0 ≤ a) (h : a + 4 ≤ l.length) (hl : l.length ≤ 4611686018427387904) : spec_l2Get.f l a = some (le ((l.drop a.toNat).take 4)) := by
  obtain ⟨b0, e0⟩ := some_at (show a.toNat < l.length by omega)
  obtain ⟨b1, e1⟩ := some_at (show a.toNat + 1 < l.length by omega)
  obtain ⟨b2, e2⟩ := some_at (show a.toNat + 2 < l.length by omega)
  obtain ⟨b3, e3⟩ := some_at (show a.toNat + 3 < l.length by omega)
  rw [take4 e0 e1 e2 e3]
  have r0 := hb.at_ e0
  have r1 := hb.at_ e1
  have r2 := hb.at_ e2
  have r3 := hb.at_ e3
  have f0 : rd l a = b0 := by have := rd_at e0; rwa [show ((a.toNat : Nat) : Int) = a from by omega] at this
  have f1 : rd l (a + 1) = b1 := by have := rd_at e1; rwa [show ((a.toNat + 1 : Nat) : Int) = a + 1 from by omega] at this
  have f2 : rd l (a + 2) = b2 := by have := rd_at e2; rwa [show ((a.toNat + 2 : Nat) : Int) = a + 2 from by omega] at this
  have f3 : rd l (a + 3) = b3 := by have := rd_at e3; rwa [show ((a.toNat + 3 : Nat) : Int) = a + 3 from by omega] at this
  simp only [spec_l2Get.f]
  rw [w64 (n := a + 1) (by omega) (by omega), w64 (n := a + 2) (by omega) (by omega), w64 (n := a + 3) (by omega) (by omega), f0, f1, f2, f3]
  rw [if_pos (by omega), if_pos (by omega), if_pos (by omega), if_pos (by omega), if_pos (by omega), if_pos (by omega), if_pos (by omega), if_pos (by omega)]
  congr 1
  simp only [le]
  omega
end Go.Proofs.Ytgfadfahbhcllaa.P
namespace Go.Proofs.Ytgfadfahbhcllaa.Q
open Go.RowKit Go.Proofs.YtgfadfahbhcllaaW.PrintWords Go.Proofs.YtgfadfahbhcllaaW.PrintLast Go.Proofs.Ytgfadfahbhcllaa.LK Go.Proofs.YtgfadfahbhcllaaW.PrintMore
attribute [local go_sem] max2_int min2_int max_two min_two max_three min_three max_four min_four   -- for this text's walks alone
set_option linter.unusedVariables false
set_option linter.unusedSimpArgs false

/-! ### impl_denyAt: function 95 -/
def impl_denyAt.f (a0 : Int) : Option (Int) := if a0 < 8 then (some (wrap64 (44 + (wrap64 (2 * a0))))) else (some (wrap64 (72 + (wrap64 (2 * (wrap64 (a0 - 8)))))))
set_option maxHeartbeats 8000000 in
set_option maxRecDepth 100000 in
theorem impl_denyAt.calls (a0 : Int) (r : Int) (w : World) (h : impl_denyAt.f a0 = some r) :
    Calls Try.prog 95 #[.int .i64 a0] w fun e w' => e = .returned (.int .i64 r) ∧ Drawn0 w w' := by
  have H : (if a0 < 8 then (some (wrap64 (44 + (wrap64 (2 * a0))))) else (some (wrap64 (72 + (wrap64 (2 * (wrap64 (a0 - 8)))))))) = some r := h
  clear h
  by_cases c2 : a0 < 8
  · rw [if_pos c2] at H
    have c2b0 : decide (a0 < 8) = true := decide_eq_true c2
    clear c2
    obtain rfl := Option.some.inj H
    go_enter Try.func95, Try.ntmps95
    go_wp2
    go_ret
    exact ⟨by first | rfl | (simp; done) | (simp [*]; done), by repeat (first | exact Drawn0.refl _ | apply Drawn0.step)⟩
  · rw [if_neg c2] at H
    have c2b0 : decide (a0 < 8) = false := decide_eq_false c2
    clear c2
    obtain rfl := Option.some.inj H
    go_enter Try.func95, Try.ntmps95
    go_wp2
    go_ret
    exact ⟨by first | rfl | (simp; done) | (simp [*]; done), by repeat (first | exact Drawn0.refl _ | apply Drawn0.step)⟩

end Go.Proofs.Ytgfadfahbhcllaa.Q
namespace Go.Proofs.Ytgfadfahbhcllaa.P
open Go.RowKit Go.Proofs.YtgfadfahbhcllaaW.PrintWords Go.Proofs.YtgfadfahbhcllaaW.PrintMore Go.Proofs.Ytgfadfahbhcllaa.Q
set_option linter.unusedVariables false
set_option maxRecDepth 100000
set_option linter.unusedSimpArgs false
/-- A slot's bytes of its parts. -/
def snapP (g0 g60 g64 g124 s1 s2 : List Int) (n : Int) (tl bits d0 d8 cr : List Int) : List Int :=
  g0 ++ (s1 ++ ([n, 0] ++ (tl ++ (bits ++ (d0 ++ (g60 ++ (g64 ++ (s2 ++ ([0, 0] ++ (d8 ++ (List.replicate 32 0 ++ (cr ++ g124))))))))))))
theorem splice_mid {p m r x : List Int} {n : Nat} (o : Nat) (hn : n = p.length + o) (h : o + x.length ≤ m.length) : splice (p ++ (m ++ r)) n x = p ++ (splice m o x ++ r) := by
  unfold splice
  subst hn
  have e1 : (p ++ (m ++ r)).take (p.length + o) = p ++ m.take o := by
    rw [List.take_length_add_append, List.take_append_of_le_length (by omega)]
  have e2 : (p ++ (m ++ r)).drop (p.length + o + x.length) = m.drop (o + x.length) ++ r := by
    rw [Nat.add_assoc, List.drop_length_add_append, List.drop_append_of_le_length (by omega)]
  rw [e1, e2]
  simp only [List.append_assoc]
theorem set_mid {p m r : List Int} {n k : Nat} (hn : n = p.length + k) (h : k < m.length) (v : Int) : (p ++ (m ++ r)).set n v = p ++ (m.set k v ++ r) := by
  subst hn
  rw [List.set_append_right _ _ (by omega), Nat.add_sub_cancel_left, List.set_append_left _ _ h]
theorem get_mid {p m r : List Int} {n k : Nat} (hn : n = p.length + k) (h : k < m.length) : (p ++ (m ++ r))[n]? = m[k]? := by
  subst hn
  rw [List.getElem?_append_right (by omega), Nat.add_sub_cancel_left, List.getElem?_append_left h]
/-! The serials that are used, as bits. -/
def mB (u : List Int) (x : Int) : Int := if x ∈ u then 1 else 0
theorem mB_01 (u : List Int) (x : Int) : 0 ≤ mB u x ∧ mB u x ≤ 1 := by unfold mB; split <;> simp
def bitB (u : List Int) (k : Int) : Int := mB u (8 * k) + 2 * mB u (8 * k + 1) + 4 * mB u (8 * k + 2) + 8 * mB u (8 * k + 3) + 16 * mB u (8 * k + 4) + 32 * mB u (8 * k + 5) + 64 * mB u (8 * k + 6) + 128 * mB u (8 * k + 7)
theorem bitB_range (u : List Int) (k : Int) : 0 ≤ bitB u k ∧ bitB u k ≤ 255 := by
  unfold bitB
  have h0 := mB_01 u (8 * k)
  have h1 := mB_01 u (8 * k + 1)
  have h2 := mB_01 u (8 * k + 2)
  have h3 := mB_01 u (8 * k + 3)
  have h4 := mB_01 u (8 * k + 4)
  have h5 := mB_01 u (8 * k + 5)
  have h6 := mB_01 u (8 * k + 6)
  have h7 := mB_01 u (8 * k + 7)
  omega
/-- Bit r of byte k tells whether 8k + r is in u. -/
theorem bitB_bit (u : List Int) (k : Int) (r : Nat) (hr : r < 8) : (bitB u k / 2 ^ r) % 2 = mB u (8 * k + r) := by
  unfold bitB
  have h0 := mB_01 u (8 * k)
  have h1 := mB_01 u (8 * k + 1)
  have h2 := mB_01 u (8 * k + 2)
  have h3 := mB_01 u (8 * k + 3)
  have h4 := mB_01 u (8 * k + 4)
  have h5 := mB_01 u (8 * k + 5)
  have h6 := mB_01 u (8 * k + 6)
  have h7 := mB_01 u (8 * k + 7)
  rcases (show r = 0 ∨ r = 1 ∨ r = 2 ∨ r = 3 ∨ r = 4 ∨ r = 5 ∨ r = 6 ∨ r = 7 from by omega) with rfl | rfl | rfl | rfl | rfl | rfl | rfl | rfl
  · rw [show (2 : Int) ^ 0 = 1 from rfl, show 8 * k + ((0 : Nat) : Int) = 8 * k from by omega]; omega
  · rw [show (2 : Int) ^ 1 = 2 from rfl, show 8 * k + ((1 : Nat) : Int) = 8 * k + 1 from rfl]; omega
  · rw [show (2 : Int) ^ 2 = 4 from rfl, show 8 * k + ((2 : Nat) : Int) = 8 * k + 2 from rfl]; omega
  · rw [show (2 : Int) ^ 3 = 8 from rfl, show 8 * k + ((3 : Nat) : Int) = 8 * k + 3 from rfl]; omega
  · rw [show (2 : Int) ^ 4 = 16 from rfl, show 8 * k + ((4 : Nat) : Int) = 8 * k + 4 from rfl]; omega
  · rw [show (2 : Int) ^ 5 = 32 from rfl, show 8 * k + ((5 : Nat) : Int) = 8 * k + 5 from rfl]; omega
  · rw [show (2 : Int) ^ 6 = 64 from rfl, show 8 * k + ((6 : Nat) : Int) = 8 * k + 6 from rfl]; omega
  · rw [show (2 : Int) ^ 7 = 128 from rfl, show 8 * k + ((7 : Nat) : Int) = 8 * k + 7 from rfl]; omega
theorem mB_app (u : List Int) (v x : Int) : mB (u ++ [v]) x = if x = v then 1 else mB u x := by
  unfold mB
  by_cases h : x = v
  · rw [if_pos h, if_pos (by simp [h])]
  · rw [if_neg h]
    by_cases h2 : x ∈ u
    · rw [if_pos h2, if_pos (by simp [h2])]
    · rw [if_neg h2, if_neg (by simp [h, h2])]
theorem bitB_other (u : List Int) (v k : Int) (h : k ≠ v / 8) : bitB (u ++ [v]) k = bitB u k := by
  unfold bitB
  simp only [mB_app]
  rw [if_neg (by omega), if_neg (by omega), if_neg (by omega), if_neg (by omega), if_neg (by omega), if_neg (by omega), if_neg (by omega), if_neg (by omega)]
theorem or_small : ∀ x, x < 256 → ∀ r, r < 8 → (x / 2 ^ r) % 2 = 0 → x ||| 2 ^ r = x + 2 ^ r := by decide +kernel
theorem or8 (a b : Nat) (ha : a < 256) (hb : b < 256) : Go.bits .or .u8 (a : Int) (b : Int) = ((a ||| b : Nat) : Int) := by
  have h : a ||| b < 2 ^ 8 := Nat.or_lt_two_pow (by simpa using ha) (by simpa using hb)
  unfold Go.bits
  simp only [BitVec.ofInt_natCast, BitVec.toNat_or, BitVec.toNat_ofNat]
  rw [show IntKind.u8.bits = 8 from rfl, Nat.mod_eq_of_lt (by simpa using ha), Nat.mod_eq_of_lt (by simpa using hb), IntKind.wrap_u8]
  omega
theorem bitB_new {u : List Int} {v : Int} (h0 : 0 ≤ v) (hn : v ∉ u) : bitB (u ++ [v]) (v / 8) = bitB u (v / 8) + 2 ^ (v % 8).toNat := by
  obtain ⟨k, hk⟩ : ∃ k, k = v / 8 := ⟨_, rfl⟩
  have hr : v % 8 = 0 ∨ v % 8 = 1 ∨ v % 8 = 2 ∨ v % 8 = 3 ∨ v % 8 = 4 ∨ v % 8 = 5 ∨ v % 8 = 6 ∨ v % 8 = 7 := by omega
  have hz : mB u v = 0 := by unfold mB; rw [if_neg hn]
  rw [← hk]
  unfold bitB
  simp only [mB_app]
  rcases hr with h | h | h | h | h | h | h | h
  · obtain rfl : v = 8 * k := by omega
    rw [if_pos rfl, if_neg (by omega), if_neg (by omega), if_neg (by omega), if_neg (by omega), if_neg (by omega), if_neg (by omega), if_neg (by omega), hz, h]; show _ = _ + 1; omega
  · obtain rfl : v = 8 * k + 1 := by omega
    rw [if_neg (by omega), if_pos rfl, if_neg (by omega), if_neg (by omega), if_neg (by omega), if_neg (by omega), if_neg (by omega), if_neg (by omega), hz, h]; show _ = _ + 2; omega
  · obtain rfl : v = 8 * k + 2 := by omega
    rw [if_neg (by omega), if_neg (by omega), if_pos rfl, if_neg (by omega), if_neg (by omega), if_neg (by omega), if_neg (by omega), if_neg (by omega), hz, h]; show _ = _ + 4; omega
  · obtain rfl : v = 8 * k + 3 := by omega
    rw [if_neg (by omega), if_neg (by omega), if_neg (by omega), if_pos rfl, if_neg (by omega), if_neg (by omega), if_neg (by omega), if_neg (by omega), hz, h]; show _ = _ + 8; omega
  · obtain rfl : v = 8 * k + 4 := by omega
    rw [if_neg (by omega), if_neg (by omega), if_neg (by omega), if_neg (by omega), if_pos rfl, if_neg (by omega), if_neg (by omega), if_neg (by omega), hz, h]; show _ = _ + 16; omega
  · obtain rfl : v = 8 * k + 5 := by omega
    rw [if_neg (by omega), if_neg (by omega), if_neg (by omega), if_neg (by omega), if_neg (by omega), if_pos rfl, if_neg (by omega), if_neg (by omega), hz, h]; show _ = _ + 32; omega
  · obtain rfl : v = 8 * k + 6 := by omega
    rw [if_neg (by omega), if_neg (by omega), if_neg (by omega), if_neg (by omega), if_neg (by omega), if_neg (by omega), if_pos rfl, if_neg (by omega), hz, h]; show _ = _ + 64; omega
  · obtain rfl : v = 8 * k + 7 := by omega
    rw [if_neg (by omega), if_neg (by omega), if_neg (by omega), if_neg (by omega), if_neg (by omega), if_neg (by omega), if_neg (by omega), if_pos rfl, hz, h]; show _ = _ + 128; omega
/-- Byte v / 8, with the bit of v set. -/
theorem bit_or {u : List Int} {v : Int} (h0 : 0 ≤ v) (hn : v ∉ u) : Go.bits .or .u8 (bitB u (v / 8)) (2 ^ (v % 8).toNat) = bitB (u ++ [v]) (v / 8) := by
  have hb := bitB_range u (v / 8)
  have hbit := bitB_bit u (v / 8) (v % 8).toNat (by omega)
  rw [show 8 * (v / 8) + (((v % 8).toNat : Nat) : Int) = v from by omega, show mB u v = 0 from by unfold mB; rw [if_neg hn]] at hbit
  rw [bitB_new h0 hn]
  obtain ⟨x, hx⟩ := Int.eq_ofNat_of_zero_le hb.1
  rw [hx] at hbit hb ⊢
  have hr : (v % 8).toNat < 8 := by omega
  generalize (v % 8).toNat = r at *
  have hp : (2 : Nat) ^ r < 256 := by
    have := Nat.pow_lt_pow_right (a := 2) (by decide) hr
    omega
  have e := or8 x (2 ^ r) (by omega) hp
  rw [show ((2 : Int) ^ r) = (((2 ^ r : Nat)) : Int) from by norm_cast] at *
  rw [e, or_small x (by omega) r hr (by exact_mod_cast hbit)]
  norm_cast
def bitsL (u : List Int) : List Int := (List.range 32).map fun k => bitB u (k : Nat)
theorem bitsL_length (u : List Int) : (bitsL u).length = 32 := by unfold bitsL; rw [List.length_map, List.length_range]
theorem bitsL_at (u : List Int) {k : Nat} (hk : k < 32) : (bitsL u)[k]? = some (bitB u k) := by unfold bitsL; rw [List.getElem?_map, List.getElem?_range hk]; rfl
theorem bitsL_nil : bitsL [] = List.replicate 32 0 := by decide +kernel
theorem bitsL_set {u : List Int} {v : Int} (h0 : 0 ≤ v) (h1 : v < 256) (hn : v ∉ u) : (bitsL u).set (v / 8).toNat (Go.bits .or .u8 (bitB u (v / 8)) (2 ^ (v % 8).toNat)) = bitsL (u ++ [v]) := by
  rw [bit_or h0 hn]
  refine List.ext_getElem? (fun j => ?_)
  by_cases hj : j < 32
  · by_cases he : (v / 8).toNat = j
    · subst he
      rw [List.getElem?_set_self (by rw [bitsL_length]; omega), bitsL_at _ hj, show (((v / 8).toNat : Nat) : Int) = v / 8 from by omega]
    · rw [List.getElem?_set_ne he, bitsL_at _ hj, bitsL_at _ hj, bitB_other _ _ _ (by omega)]
  · rw [List.getElem?_eq_none (by rw [List.length_set, bitsL_length]; omega), List.getElem?_eq_none (by rw [bitsL_length]; omega)]
/-! The denied serials, two bytes each, eight from place a on. -/
def denB (xs : List Int) (i j : Nat) : List Int := if j < i then leB 2 (rd xs j) else [0, 0]
def denL (xs : List Int) (i a : Nat) : List Int := denB xs i a ++ (denB xs i (a + 1) ++ (denB xs i (a + 2) ++ (denB xs i (a + 3) ++ (denB xs i (a + 4) ++ (denB xs i (a + 5) ++ (denB xs i (a + 6) ++ denB xs i (a + 7)))))))
theorem denB_length (xs : List Int) (i j : Nat) : (denB xs i j).length = 2 := by
  unfold denB
  split
  · exact leB_length _ _
  · rfl
theorem denL_length (xs : List Int) (i a : Nat) : (denL xs i a).length = 16 := by unfold denL; simp only [List.length_append, denB_length]
theorem denB_two (xs : List Int) (i j : Nat) : ∃ p q, denB xs i j = [p, q] := by
  have h := denB_length xs i j
  match hd : denB xs i j with
  | [p, q] => exact ⟨p, q, rfl⟩
  | [] => rw [hd] at h; cases h
  | [_] => rw [hd] at h; cases h
  | _ :: _ :: _ :: _ => rw [hd] at h; simp at h
theorem denB_on (xs : List Int) (i j : Nat) (h : j ≠ i) : denB xs (i + 1) j = denB xs i j := by
  unfold denB
  by_cases c : j < i
  · rw [if_pos c, if_pos (by omega)]
  · rw [if_neg c, if_neg (by omega)]
theorem denB_new (xs : List Int) (i : Nat) : denB xs (i + 1) i = leB 2 (rd xs i) := by unfold denB; rw [if_pos (by omega)]
theorem denL_other (xs : List Int) (i a : Nat) (h : i < a ∨ a + 8 ≤ i) : denL xs (i + 1) a = denL xs i a := by
  unfold denL
  rw [denB_on _ _ _ (by omega), denB_on _ _ _ (by omega), denB_on _ _ _ (by omega), denB_on _ _ _ (by omega), denB_on _ _ _ (by omega), denB_on _ _ _ (by omega), denB_on _ _ _ (by omega), denB_on _ _ _ (by omega)]
theorem denL_set (xs : List Int) (i a : Nat) (h0 : a ≤ i) (h1 : i < a + 8) : splice (denL xs i a) (2 * (i - a)) (leB 2 (rd xs i)) = denL xs (i + 1) a := by
  have key : ∀ j, j < 8 → i = a + j → splice (denL xs i a) (2 * j) (leB 2 (rd xs i)) = denL xs (i + 1) a := by
    intro j hj hi
    obtain ⟨p0, q0, e0⟩ := denB_two xs i a
    obtain ⟨p1, q1, e1⟩ := denB_two xs i (a + 1)
    obtain ⟨p2, q2, e2⟩ := denB_two xs i (a + 2)
    obtain ⟨p3, q3, e3⟩ := denB_two xs i (a + 3)
    obtain ⟨p4, q4, e4⟩ := denB_two xs i (a + 4)
    obtain ⟨p5, q5, e5⟩ := denB_two xs i (a + 5)
    obtain ⟨p6, q6, e6⟩ := denB_two xs i (a + 6)
    obtain ⟨p7, q7, e7⟩ := denB_two xs i (a + 7)
    obtain ⟨x, y, ex⟩ : ∃ x y, leB 2 (rd xs i) = [x, y] := ⟨_, _, rfl⟩
    have en := denB_new xs i
    rw [ex] at en ⊢
    unfold denL
    rw [e0, e1, e2, e3, e4, e5, e6, e7]
    rcases (show j = 0 ∨ j = 1 ∨ j = 2 ∨ j = 3 ∨ j = 4 ∨ j = 5 ∨ j = 6 ∨ j = 7 from by omega) with rfl | rfl | rfl | rfl | rfl | rfl | rfl | rfl
    · have en' : denB xs (i + 1) a = [x, y] := by rw [show a = i from by omega]; exact en
      rw [en', denB_on xs i (a + 1) (by omega), e1, denB_on xs i (a + 2) (by omega), e2, denB_on xs i (a + 3) (by omega), e3, denB_on xs i (a + 4) (by omega), e4, denB_on xs i (a + 5) (by omega), e5, denB_on xs i (a + 6) (by omega), e6, denB_on xs i (a + 7) (by omega), e7]; rfl
    · have en' : denB xs (i + 1) (a + 1) = [x, y] := by rw [show a + 1 = i from by omega]; exact en
      rw [denB_on xs i a (by omega), e0, en', denB_on xs i (a + 2) (by omega), e2, denB_on xs i (a + 3) (by omega), e3, denB_on xs i (a + 4) (by omega), e4, denB_on xs i (a + 5) (by omega), e5, denB_on xs i (a + 6) (by omega), e6, denB_on xs i (a + 7) (by omega), e7]; rfl
    · have en' : denB xs (i + 1) (a + 2) = [x, y] := by rw [show a + 2 = i from by omega]; exact en
      rw [denB_on xs i a (by omega), e0, denB_on xs i (a + 1) (by omega), e1, en', denB_on xs i (a + 3) (by omega), e3, denB_on xs i (a + 4) (by omega), e4, denB_on xs i (a + 5) (by omega), e5, denB_on xs i (a + 6) (by omega), e6, denB_on xs i (a + 7) (by omega), e7]; rfl
    · have en' : denB xs (i + 1) (a + 3) = [x, y] := by rw [show a + 3 = i from by omega]; exact en
      rw [denB_on xs i a (by omega), e0, denB_on xs i (a + 1) (by omega), e1, denB_on xs i (a + 2) (by omega), e2, en', denB_on xs i (a + 4) (by omega), e4, denB_on xs i (a + 5) (by omega), e5, denB_on xs i (a + 6) (by omega), e6, denB_on xs i (a + 7) (by omega), e7]; rfl
    · have en' : denB xs (i + 1) (a + 4) = [x, y] := by rw [show a + 4 = i from by omega]; exact en
      rw [denB_on xs i a (by omega), e0, denB_on xs i (a + 1) (by omega), e1, denB_on xs i (a + 2) (by omega), e2, denB_on xs i (a + 3) (by omega), e3, en', denB_on xs i (a + 5) (by omega), e5, denB_on xs i (a + 6) (by omega), e6, denB_on xs i (a + 7) (by omega), e7]; rfl
    · have en' : denB xs (i + 1) (a + 5) = [x, y] := by rw [show a + 5 = i from by omega]; exact en
      rw [denB_on xs i a (by omega), e0, denB_on xs i (a + 1) (by omega), e1, denB_on xs i (a + 2) (by omega), e2, denB_on xs i (a + 3) (by omega), e3, denB_on xs i (a + 4) (by omega), e4, en', denB_on xs i (a + 6) (by omega), e6, denB_on xs i (a + 7) (by omega), e7]; rfl
    · have en' : denB xs (i + 1) (a + 6) = [x, y] := by rw [show a + 6 = i from by omega]; exact en
      rw [denB_on xs i a (by omega), e0, denB_on xs i (a + 1) (by omega), e1, denB_on xs i (a + 2) (by omega), e2, denB_on xs i (a + 3) (by omega), e3, denB_on xs i (a + 4) (by omega), e4, denB_on xs i (a + 5) (by omega), e5, en', denB_on xs i (a + 7) (by omega), e7]; rfl
    · have en' : denB xs (i + 1) (a + 7) = [x, y] := by rw [show a + 7 = i from by omega]; exact en
      rw [denB_on xs i a (by omega), e0, denB_on xs i (a + 1) (by omega), e1, denB_on xs i (a + 2) (by omega), e2, denB_on xs i (a + 3) (by omega), e3, denB_on xs i (a + 4) (by omega), e4, denB_on xs i (a + 5) (by omega), e5, denB_on xs i (a + 6) (by omega), e6, en']; rfl
  exact key (i - a) (by omega) (by omega)
/-! The states of the slot while it is written. -/
def gi (g : Int) (i j : Nat) : List Int := if j < i then leB 4 g else [0, 0, 0, 0]
def Z32 : List Int := List.replicate 32 0
def Z16 : List Int := List.replicate 16 0
def sA (g : Int) (i : Nat) : List Int := snapP (gi g i 0) (gi g i 1) (gi g i 2) (gi g i 3) [0, 0] [0, 0] 0 [0, 0, 0, 0] Z32 Z16 Z16 [0, 0, 0, 0]
def sB (g : Int) (s1 s2 : List Int) (n : Int) (tl : List Int) : List Int := snapP (leB 4 g) (leB 4 g) (leB 4 g) (leB 4 g) s1 s2 n tl Z32 Z16 Z16 [0, 0, 0, 0]
def sE (g n t : Int) (u xs : List Int) (i : Nat) (cr : List Int) : List Int := snapP (leB 4 g) (leB 4 g) (leB 4 g) (leB 4 g) [83, 49] [83, 50] n (leB 4 t) (bitsL u) (denL xs i 0) (denL xs i 8) cr
/-- The first 120 bytes. -/
def snapHead (g n t : Int) (u xs : List Int) : List Int := leB 4 g ++ ([83, 49] ++ ([n, 0] ++ (leB 4 t ++ (bitsL u ++ (denL xs xs.length 0 ++ (leB 4 g ++ (leB 4 g ++ ([83, 50] ++ ([0, 0] ++ (denL xs xs.length 8 ++ List.replicate 32 0))))))))))
def snapCode (g t : Int) (xs u : List Int) : List Int := snapHead g ((xs.length : Int) % 256) t u xs ++ (leB 4 (crc32 (snapHead g ((xs.length : Int) % 256) t u xs)) ++ leB 4 g)
def ats (i : Nat) : Nat := [0, 60, 64, 124].getD i 0
theorem sA_0 (g : Int) : sA g 0 = List.replicate 128 0 := rfl
theorem sA_step (g : Int) (i : Nat) (hi : i < 4) : splice (sA g i) (ats i) (leB 4 g) = sA g (i + 1) := by
  rcases (show i = 0 ∨ i = 1 ∨ i = 2 ∨ i = 3 from by omega) with rfl | rfl | rfl | rfl <;> rfl
theorem sA_4 (g : Int) : sA g 4 = sB g [0, 0] [0, 0] 0 [0, 0, 0, 0] := rfl
theorem sB_1 (g : Int) : splice (sB g [0, 0] [0, 0] 0 [0, 0, 0, 0]) 4 [83, 49] = sB g [83, 49] [0, 0] 0 [0, 0, 0, 0] := rfl
theorem sB_2 (g : Int) : splice (sB g [83, 49] [0, 0] 0 [0, 0, 0, 0]) 68 [83, 50] = sB g [83, 49] [83, 50] 0 [0, 0, 0, 0] := rfl
theorem sB_3 (g n : Int) : (sB g [83, 49] [83, 50] 0 [0, 0, 0, 0]).set 6 n = sB g [83, 49] [83, 50] n [0, 0, 0, 0] := rfl
theorem sB_4 (g n t : Int) : splice (sB g [83, 49] [83, 50] n [0, 0, 0, 0]) 8 (leB 4 t) = sB g [83, 49] [83, 50] n (leB 4 t) := rfl
theorem denL_0 (xs : List Int) (a : Nat) : denL xs 0 a = Z16 := by
  unfold denL denB
  rw [if_neg (by omega), if_neg (by omega), if_neg (by omega), if_neg (by omega), if_neg (by omega), if_neg (by omega), if_neg (by omega), if_neg (by omega)]
  rfl
theorem sE_0 (g n t : Int) (xs : List Int) : sB g [83, 49] [83, 50] n (leB 4 t) = sE g n t [] xs 0 [0, 0, 0, 0] := by unfold sB sE; rw [bitsL_nil, denL_0, denL_0]; rfl
theorem sE_length (g n t : Int) (u xs : List Int) (i : Nat) (cr : List Int) (hc : cr.length = 4) : (sE g n t u xs i cr).length = 128 := by
  unfold sE snapP
  simp only [List.length_append, leB_length, bitsL_length, denL_length, hc, List.length_cons, List.length_nil, List.length_replicate]
def sPre (g n t : Int) : List Int := leB 4 g ++ ([83, 49] ++ ([n, 0] ++ leB 4 t))
theorem sPre_length (g n t : Int) : (sPre g n t).length = 12 := rfl
theorem sE_bits (g n t : Int) (u xs : List Int) (i : Nat) (cr : List Int) : sE g n t u xs i cr = sPre g n t ++ (bitsL u ++ (denL xs i 0 ++ (leB 4 g ++ (leB 4 g ++ ([83, 50] ++ ([0, 0] ++ (denL xs i 8 ++ (List.replicate 32 0 ++ (cr ++ leB 4 g))))))))) := by
  unfold sE snapP sPre
  simp only [List.append_assoc]
theorem sE_at (g n t : Int) (u xs : List Int) (i : Nat) (cr : List Int) {v : Int} (h0 : 0 ≤ v) (h1 : v < 256) : (sE g n t u xs i cr)[(12 + v / 8).toNat]? = some (bitB u (v / 8)) := by
  rw [sE_bits, get_mid (k := (v / 8).toNat) (by rw [sPre_length]; omega) (by rw [bitsL_length]; omega), bitsL_at _ (by omega), show (((v / 8).toNat : Nat) : Int) = v / 8 from by omega]
theorem sE_bit (g n t : Int) (u xs : List Int) (i : Nat) (cr : List Int) {v : Int} (h0 : 0 ≤ v) (h1 : v < 256) (hn : v ∉ u) : (sE g n t u xs i cr).set (12 + v / 8).toNat (Go.bits .or .u8 (bitB u (v / 8)) (2 ^ (v % 8).toNat)) = sE g n t (u ++ [v]) xs i cr := by
  rw [sE_bits, set_mid (k := (v / 8).toNat) (by rw [sPre_length]; omega) (by rw [bitsL_length]; omega), bitsL_set h0 h1 hn, ← sE_bits]
/-- Where place i of the denied serials lies. -/
def denAt (i : Nat) : Nat := if i < 8 then 44 + 2 * i else 72 + 2 * (i - 8)
theorem denAt_fit {i : Nat} (hi : i < 16) : denAt i + 2 ≤ 128 := by unfold denAt; split <;> omega
theorem denyAt_is {i : Nat} (hi : i < 16) : impl_denyAt.f (i : Int) = some ((denAt i : Nat) : Int) := by
  unfold impl_denyAt.f denAt
  by_cases h : (i : Int) < 8
  · rw [if_pos h, if_pos (by omega), w64 (n := 2 * (i : Int)) (by omega) (by omega), w64 (n := 44 + 2 * (i : Int)) (by omega) (by omega)]
    congr 1
  · rw [if_neg h, if_neg (by omega), w64 (n := (i : Int) - 8) (by omega) (by omega), w64 (n := 2 * ((i : Int) - 8)) (by omega) (by omega), w64 (n := 72 + 2 * ((i : Int) - 8)) (by omega) (by omega)]
    congr 1
    omega
theorem sE_deny (g n t : Int) (u xs : List Int) (i : Nat) (hi : i < 16) (cr : List Int) : splice (sE g n t u xs i cr) (denAt i) (leB 2 (rd xs i)) = sE g n t u xs (i + 1) cr := by
  by_cases h : i < 8
  · have e : sE g n t u xs i cr = (sPre g n t ++ bitsL u) ++ (denL xs i 0 ++ (leB 4 g ++ (leB 4 g ++ ([83, 50] ++ ([0, 0] ++ (denL xs i 8 ++ (List.replicate 32 0 ++ (cr ++ leB 4 g)))))))) := by rw [sE_bits]; simp only [List.append_assoc]
    rw [e, splice_mid (2 * i) (by rw [List.length_append, sPre_length, bitsL_length]; unfold denAt; rw [if_pos h]) (by rw [leB_length, denL_length]; omega)]
    have e2 := denL_set xs i 0 (Nat.zero_le _) (by omega)
    rw [Nat.sub_zero] at e2
    rw [e2, ← denL_other xs i 8 (by omega), sE_bits]
    simp only [List.append_assoc]
  · have e : sE g n t u xs i cr = (sPre g n t ++ (bitsL u ++ (denL xs i 0 ++ (leB 4 g ++ (leB 4 g ++ ([83, 50] ++ [0, 0])))))) ++ (denL xs i 8 ++ (List.replicate 32 0 ++ (cr ++ leB 4 g))) := by rw [sE_bits]; simp only [List.append_assoc]
    rw [e, splice_mid (2 * (i - 8)) (by simp only [List.length_append, sPre_length, bitsL_length, denL_length, leB_length, List.length_cons, List.length_nil]; unfold denAt; rw [if_neg h]) (by rw [leB_length, denL_length]; omega)]
    rw [denL_set xs i 8 (by omega) (by omega), ← denL_other xs i 0 (by omega), sE_bits]
    simp only [List.append_assoc]
theorem sE_head (g n t : Int) (u xs : List Int) (cr : List Int) : sE g n t u xs xs.length cr = snapHead g n t u xs ++ (cr ++ leB 4 g) := by
  unfold sE snapP snapHead
  simp only [List.append_assoc]
theorem snapHead_length (g n t : Int) (u xs : List Int) : (snapHead g n t u xs).length = 120 := by
  unfold snapHead
  simp only [List.length_append, leB_length, bitsL_length, denL_length, List.length_cons, List.length_nil, List.length_replicate]
theorem sE_take (g n t : Int) (u xs : List Int) (cr : List Int) : (sE g n t u xs xs.length cr).take 120 = snapHead g n t u xs := by
  rw [sE_head, List.take_append_of_le_length (Nat.le_of_eq (snapHead_length ..).symm), List.take_of_length_le (Nat.le_of_eq (snapHead_length ..))]
theorem sE_crc (g n t : Int) (u xs : List Int) (c : Int) : splice (sE g n t u xs xs.length [0, 0, 0, 0]) 120 (leB 4 c) = snapHead g n t u xs ++ (leB 4 c ++ leB 4 g) := by
  rw [sE_head, splice_mid 0 (by rw [snapHead_length]) (by rw [leB_length]; decide)]
  rfl
theorem snapCode_length (g t : Int) (xs u : List Int) : (snapCode g t xs u).length = 128 := by
  unfold snapCode
  rw [List.length_append, List.length_append, snapHead_length, leB_length, leB_length]
end Go.Proofs.Ytgfadfahbhcllaa.P
namespace Go.Proofs.Ytgfadfahbhcllaa.Q
open Go.RowKit Go.Proofs.YtgfadfahbhcllaaW.PrintWords Go.Proofs.YtgfadfahbhcllaaW.PrintLast Go.Proofs.Ytgfadfahbhcllaa.LK Go.Proofs.YtgfadfahbhcllaaW.PrintMore
attribute [local go_sem] max2_int min2_int max_two min_two max_three min_three max_four min_four   -- for this text's walks alone
set_option linter.unusedVariables false
set_option linter.unusedSimpArgs false

/-! ### impl_Frame_good: function 51 -/
def impl_Frame_good.f (a0_0 : Int) (a0_1 : Int) (a0_2 : Int) (a0_3 : Int) : Option (Bool) := if a0_1 ≥ 1 then (some (decide (a0_1 ≤ 3))) else (some false)
set_option maxHeartbeats 8000000 in
set_option maxRecDepth 100000 in
theorem impl_Frame_good.calls (a0_0 : Int) (a0_1 : Int) (a0_2 : Int) (a0_3 : Int) (r : Bool) (w : World) (h : impl_Frame_good.f a0_0 a0_1 a0_2 a0_3 = some r) :
    Calls Try.prog 51 #[.agg #[.int .u32 a0_0, .int .i64 a0_1, .int .u32 a0_2, .int .u32 a0_3]] w fun e w' => e = .returned (.bool r) ∧ Below w.heap.size w w' := by
  have hu27 := Try.underlying27
  have HB := Aside0.mk (Below.refl w.heap.size w)
  have H : (if a0_1 ≥ 1 then (some (decide (a0_1 ≤ 3))) else (some false)) = some r := h
  clear h
  by_cases c2 : a0_1 ≥ 1
  · rw [if_pos c2] at H
    have c2b0 : decide (1 ≤ a0_1) = true := decide_eq_true c2
    clear c2
    obtain rfl := Option.some.inj H
    go_enter Try.func51, Try.ntmps51
    go_wp2_with (first | ((with_reducible refine gate_dst (N := 1) rfl ?_); refine box_event ?hg (N := 1) ?hd (cs := #[.int .u32 a0_0, .int .i64 a0_1, .int .u32 a0_2, .int .u32 a0_3]) (t := 27) ?hr ?_; (case hd => rfl); (case hg => rfl); (case hr => first | (go_simp; done) | (go_simp; rfl)); intro gb101 hg w3 hbox hb; have n0_ := Aside0.mk (below_step (by repeat (first | (with_reducible first | exact HB.out | apply below_alloc | apply pw_below_drewN | apply below_drew1) | exact HB.out)) hb); have n1_ := Aside0.mk (hbox); have n2_ := Aside0.mk ((by rw [hg]; exact (below_size (by repeat (first | (with_reducible first | exact HB.out | apply below_alloc | apply pw_below_drewN | apply below_drew1) | exact HB.out))) : w.heap.size ≤ gb101)); have n3_ := Aside0.mk ((by rw [hg]; exact (below_size (by repeat (first | (with_reducible first | exact HB.out | apply below_alloc | apply pw_below_drewN | apply below_drew1) | exact HB.out))) : w.heap.size ≤ gb101)); clear HB; have HB := n0_; have BK101 := n1_; have GW101 := n2_; have GE101 := n3_; clear n0_ n1_ n2_ n3_; clear hb hbox hg; have hcz4_0 : w3.cell? ⟨gb101, 0, none⟩ = some (.int .u32 a0_0) := (blk_cell BK101.out 0).trans rfl; have hcz4_1 : w3.cell? ⟨gb101, 1, none⟩ = some (.int .i64 a0_1) := (blk_cell BK101.out 1).trans rfl; have hcz4_2 : w3.cell? ⟨gb101, 2, none⟩ = some (.int .u32 a0_2) := (blk_cell BK101.out 2).trans rfl; have hcz4_3 : w3.cell? ⟨gb101, 3, none⟩ = some (.int .u32 a0_3) := (blk_cell BK101.out 3).trans rfl; have hfz4_0 := blk_frozen BK101.out 0; have hfz4_1 := blk_frozen BK101.out 1; have hfz4_2 := blk_frozen BK101.out 2; have hfz4_3 := blk_frozen BK101.out 3))
    go_ret
    exact ⟨by first | rfl | (simp [errW_none, errW_some] <;> rfl) | (simp [*, errW_none, errW_some] <;> rfl), by repeat (first | (with_reducible first | exact HB.out | apply below_alloc | apply pw_below_drewN | apply below_drew1 | refine below_set ?_ GE101.out) | exact HB.out)⟩
  · rw [if_neg c2] at H
    have c2b0 : decide (1 ≤ a0_1) = false := decide_eq_false c2
    clear c2
    obtain rfl := Option.some.inj H
    go_enter Try.func51, Try.ntmps51
    go_wp2_with (first | ((with_reducible refine gate_dst (N := 1) rfl ?_); refine box_event ?hg (N := 1) ?hd (cs := #[.int .u32 a0_0, .int .i64 a0_1, .int .u32 a0_2, .int .u32 a0_3]) (t := 27) ?hr ?_; (case hd => rfl); (case hg => rfl); (case hr => first | (go_simp; done) | (go_simp; rfl)); intro gb101 hg w5 hbox hb; have n0_ := Aside0.mk (below_step (by repeat (first | (with_reducible first | exact HB.out | apply below_alloc | apply pw_below_drewN | apply below_drew1) | exact HB.out)) hb); have n1_ := Aside0.mk (hbox); have n2_ := Aside0.mk ((by rw [hg]; exact (below_size (by repeat (first | (with_reducible first | exact HB.out | apply below_alloc | apply pw_below_drewN | apply below_drew1) | exact HB.out))) : w.heap.size ≤ gb101)); have n3_ := Aside0.mk ((by rw [hg]; exact (below_size (by repeat (first | (with_reducible first | exact HB.out | apply below_alloc | apply pw_below_drewN | apply below_drew1) | exact HB.out))) : w.heap.size ≤ gb101)); clear HB; have HB := n0_; have BK101 := n1_; have GW101 := n2_; have GE101 := n3_; clear n0_ n1_ n2_ n3_; clear hb hbox hg; have hcz6_0 : w5.cell? ⟨gb101, 0, none⟩ = some (.int .u32 a0_0) := (blk_cell BK101.out 0).trans rfl; have hcz6_1 : w5.cell? ⟨gb101, 1, none⟩ = some (.int .i64 a0_1) := (blk_cell BK101.out 1).trans rfl; have hcz6_2 : w5.cell? ⟨gb101, 2, none⟩ = some (.int .u32 a0_2) := (blk_cell BK101.out 2).trans rfl; have hcz6_3 : w5.cell? ⟨gb101, 3, none⟩ = some (.int .u32 a0_3) := (blk_cell BK101.out 3).trans rfl; have hfz6_0 := blk_frozen BK101.out 0; have hfz6_1 := blk_frozen BK101.out 1; have hfz6_2 := blk_frozen BK101.out 2; have hfz6_3 := blk_frozen BK101.out 3))
    go_ret
    exact ⟨by first | rfl | (simp [errW_none, errW_some] <;> rfl) | (simp [*, errW_none, errW_some] <;> rfl), by repeat (first | (with_reducible first | exact HB.out | apply below_alloc | apply pw_below_drewN | apply below_drew1 | refine below_set ?_ GE101.out) | exact HB.out)⟩

end Go.Proofs.Ytgfadfahbhcllaa.Q
namespace Go.Proofs.Ytgfadfahbhcllaa.Q
open Go.RowKit Go.Proofs.YtgfadfahbhcllaaW.PrintWords Go.Proofs.YtgfadfahbhcllaaW.PrintLast Go.Proofs.YtgfadfahbhcllaaW.PrintMore Go.Proofs.Ytgfadfahbhcllaa.LK
set_option linter.unusedVariables false
set_option linter.unusedSimpArgs false
/-- The first 56 bytes of a frame's sector, and the rest. -/
def frameHead (q kd a b : Int) : List Int := P.leB 4 q ++ ([74, 49, kd % 256, 0] ++ (P.leB 4 a ++ (P.leB 4 b ++ List.replicate 40 0)))
def frameCode (q kd a b : Int) : List Int := frameHead q kd a b ++ (P.leB 4 (P.crc32 (frameHead q kd a b)) ++ P.leB 4 q)
theorem frameHead_length (q kd a b : Int) : (frameHead q kd a b).length = 56 := rfl
theorem frameCode_length (q kd a b : Int) : (frameCode q kd a b).length = 64 := rfl
def fc0 : List Int := List.replicate 64 0
def fc1 (q : Int) : List Int := splice fc0 0 (P.leB 4 q)
def fc2 (q : Int) : List Int := splice (fc1 q) 4 [74, 49]
def fc3 (q kd : Int) : List Int := (fc2 q).set 6 (kd % 256)
def fc4 (q kd a : Int) : List Int := splice (fc3 q kd) 8 (P.leB 4 a)
def fc5 (q kd a b : Int) : List Int := splice (fc4 q kd a) 12 (P.leB 4 b)
def fc6 (q kd a b c : Int) : List Int := splice (fc5 q kd a b) 56 (P.leB 4 c)
def fc7 (q kd a b c : Int) : List Int := splice (fc6 q kd a b c) 60 (P.leB 4 q)
theorem fc5_head (q kd a b : Int) : (fc5 q kd a b).take 56 = frameHead q kd a b := rfl
theorem fc7_code (q kd a b : Int) : fc7 q kd a b (P.crc32 (frameHead q kd a b)) = frameCode q kd a b := rfl
theorem fc0_v : bytesV fc0 = List.replicate 64 (Value.int .u8 0) := rfl
theorem bytesV_set (l : List Int) (i : Nat) (x : Int) : (bytesV l).set i (.int .u8 x) = bytesV (l.set i x) := by unfold bytesV; exact List.map_set.symm
theorem set_seg {l : List Int} {i : Nat} {x : Int} (h : i < l.length) : (bytesV l).take i ++ [.int .u8 x] ++ (bytesV l).drop (i + 1) = bytesV (l.set i x) := by
  rw [← bytesV_set, List.set_eq_take_append_cons_drop, if_pos (by rw [bytesV_length]; exact h), List.append_assoc]
  rfl
set_option maxHeartbeats 8000000 in
set_option maxRecDepth 100000 in
theorem code_calls {q kd a b : Int} {w : World} (hq : 0 ≤ q ∧ q ≤ 4294967295) (ha : 0 ≤ a ∧ a ≤ 4294967295) (hb : 0 ≤ b ∧ b ≤ 4294967295) :
    Calls Try.prog 52 #[.agg #[.int .u32 q, .int .i64 kd, .int .u32 a, .int .u32 b]] w fun e w' => e = .returned (.agg (bytesV (frameCode q kd a b)).toArray) ∧ Below w.heap.size w w' := by
  have jq : IntKind.u64.wrap q = q := by rw [IntKind.wrap_u64]; omega
  have ja : IntKind.u64.wrap a = a := by rw [IntKind.wrap_u64]; omega
  have jb : IntKind.u64.wrap b = b := by rw [IntKind.wrap_u64]; omega
  have jk : IntKind.u8.wrap kd = kd % 256 := by rw [IntKind.wrap_u8]
  have hcr := P.crc32_range (frameHead q kd a b)
  obtain ⟨c, hc⟩ : ∃ c, c = P.crc32 (frameHead q kd a b) := ⟨_, rfl⟩
  rw [← hc] at hcr
  unfold P.U32 at hcr
  have jc : IntKind.u64.wrap c = c := by rw [IntKind.wrap_u64]; omega
  obtain ⟨kc, hkc⟩ := (P.impl_Crc32_ev (frameHead q kd a b) (by rw [frameHead_length]; decide)).ex
  rw [← hc] at hkc
  have HKC := Aside0.mk hkc
  have HC := Aside0.mk hc
  have HCr := Aside0.mk hcr
  have HQ := Aside0.mk hq
  have HA := Aside0.mk ha
  have HBb := Aside0.mk hb
  have H0 := Aside0.mk (Bx.refl w)
  clear hq ha hb hkc hc hcr
  go_enter Try.func52, Try.ntmps52
  go_wp2_with (first | ((with_reducible refine gate_dst (N := 1) rfl ?_); refine Aside0.out ?_))
  refine Aside0.mk ?_
  refine mk ?hw1 (N := 1) ?hd1 (cs := #[.int .u32 q, .int .i64 kd, .int .u32 a, .int .u32 b]) (t := 27) ?hr1 ?_
  case hd1 => rfl
  case hw1 => rfl
  case hr1 => first | (go_simp; done) | (go_simp; rfl)
  intro g1 hg1_ w101 hb1 hB1
  have H102 := Aside0.mk (H0.out.new hg1_ hb1 hB1)
  clear hg1_ hb1 hB1 H0
  go_wp2_with (first | ((with_reducible refine gate_dst (N := 2) rfl ?_); refine Aside0.out ?_))
  refine Aside0.mk ?_
  refine mk ?hw3 (N := 2) ?hd3 (cs := (bytesV fc0).toArray) (t := 79) ?hr3 ?_
  case hd3 => rfl
  case hw3 => rfl
  case hr3 => first | (go_simp; done) | (go_simp; rfl)
  intro g2 hg2_ w103 hb3 hB3
  have H104 := Aside0.mk (H102.out.new hg2_ hb3 hB3)
  clear hg2_ hb3 hB3 H102
  go_wp2_with (first | ((with_reducible refine gate_dst (N := 3) rfl ?_); refine Aside0.out ?_))
  refine Aside0.mk ?_
  refine mk ?hw5 (N := 3) ?hd5 (cs := (bytesV fc0).toArray) (t := 79) ?hr5 ?_
  case hd5 => rfl
  case hw5 => rfl
  case hr5 => first | (go_simp; done) | (go_simp; rfl)
  intro g3 hg3_ w105 hb5 hB5
  have H106 := Aside0.mk (H104.out.new hg3_ hb5 hB5)
  clear hg3_ hb5 hB5 H104
  try go_wp2
  have H108 := Aside0.mk H106.out.drew
  refine start_ (n := 5) (S := fun w' => w'.cell? ⟨g1, 0, none⟩ = some (.int .u32 q)) (ds := [4]) #[false, false, false, false, false] (by kernel_rfl) rfl rfl ((blk_cell H108.out.gt2 0).trans rfl) (fun hHeld => ?_)
  clear H106
  generalize w105.drew = w107 at H108 hHeld ⊢
  refine pure_ (i := 0) (N := some 4) (v := ?_) (a' := ?_) #[true, false, false, false, false] rfl rfl (by kernel_rfl) (fun _ _ _ h => h) (Or.inl ⟨by rfl, ?_⟩) ?_ ?_
  rotate_left
  · intro w'
    go_simp
    with_reducible rfl
  rotate_left
  · simp only [Act.put, List.setIfInBounds_toArray, List.set_cons_zero, List.set_cons_succ, i64_w, i32_w]
    rfl
  refine pure_ (i := 1) (N := some 5) (v := ?_) (a' := ?_) #[true, true, false, false, false] rfl rfl (by kernel_rfl) (fun _ _ _ h => h) (Or.inl ⟨by rfl, ?_⟩) ?_ ?_
  rotate_left
  · intro w'
    go_simp
    with_reducible rfl
  rotate_left
  · simp only [Act.put, List.setIfInBounds_toArray, List.set_cons_zero, List.set_cons_succ, i64_w, i32_w]
    rfl
  refine take_ (i := 2) (N := some 6) (v := ?_) (a' := ?_) #[true, true, true, false, false] rfl rfl (by kernel_rfl) (fun _ _ _ h => h) (Or.inl ⟨by rfl, ?_⟩) hHeld ?_ ?_
  rotate_left
  · rintro w' s0
    go_simp
    with_reducible rfl
  rotate_left
  · simp only [Act.put, List.setIfInBounds_toArray, List.set_cons_zero, List.set_cons_succ, i64_w, i32_w]
    rfl
  refine pure_ (i := 3) (N := some 7) (v := ?_) (a' := ?_) #[true, true, true, true, false] rfl rfl (by kernel_rfl) (fun _ _ _ h => h) (Or.inl ⟨by rfl, ?_⟩) ?_ ?_
  rotate_left
  · intro w'
    go_simp
    with_reducible rfl
  rotate_left
  · simp only [Act.put, List.setIfInBounds_toArray, List.set_cons_zero, List.set_cons_succ, i64_w, i32_w]
    rfl
  refine last_ (i := 4) (N := some 8) #[true, true, true, true, true] rfl rfl (by kernel_rfl) (by decide) (fun K hK => ?_)
  refine goes_ Try.func88 (by kernel_rfl) rfl #[.slice (some ⟨g3, 0, none⟩) 64 64, .int .i64 0, .int .i64 4, .int .u64 q] (by rfl) rfl rfl (by (try simp only [List.map_toArray, List.map_cons, List.map_nil]); first | done | rfl) ?_
  refine (put_box (l := fc0) 0 4 H108.out.below (H108.out.at_ _ (List.mem_cons_self ..)).1 H108.out.gt0 (by have := HQ.out; omega) (by decide) (by show 0 + 4 ≤ 64; decide) (by show 64 ≤ 4611686018427387904; decide) (by show 0 < 64; decide)).mono ?_
  rintro e w109 ⟨rfl, hb9, hS9⟩
  refine ⟨_, rfl, ?_⟩
  have H110 := Aside0.mk (H108.out.wr0 (cs' := (bytesV (fc1 q)).toArray) hb9 hS9)
  clear hb9 hS9 H108
  refine hK.out _ _ ?_
  clear hK K
  refine done_ (by kernel_rfl) ?_
  try dsimp only
  go_wp2_with (first | ((with_reducible refine gate_builtin (b := .copy) (xs := #[.tmp 9, .const (.string ⟨#[74, 49]⟩)]) rfl ?_); refine Aside0.out ?_))
  refine Aside0.mk ?_
  obtain ⟨i5, hi5, _, hsz5, _⟩ := info_parts info5
  refine copy_str rfl (.tmp 9) _ 25 _ rfl 5 Try.underlying25 (fun w_ => by simp [sizeOf, typeInfo, hi5, hsz5, Result.andThen]) g3 4 60 60 rfl _ rfl (by decide) (bytesV (fc1 q)) 79 H110.out.gt0 [74, 49] rfl rfl (by rw [bytesV_length]; show 6 ≤ 64; decide) ?_
  intro w111 hb11 hS11
  rw [show splice (bytesV (fc1 q)) 4 (bytesV [74, 49]) = bytesV (fc2 q) from rfl] at hb11
  clear hi5 hsz5
  have H112 := Aside0.mk (H110.out.wr0 (cs' := (bytesV (fc2 q)).toArray) hb11 hS11)
  clear hb11 hS11 H110
  have hk1 : w111.cell? ⟨g1, 1, none⟩ = some (.int .i64 kd) := (blk_cell H112.out.gt2 1).trans rfl
  go_wp2_with (first | ((with_reducible refine gate_store (t := 5) (p := 14) rfl ?_); refine Aside0.out ?_))
  refine Aside0.mk ?_
  refine st (o' := 6) (u := .int .u8 (kd % 256)) (seg := [.int .u8 (kd % 256)]) ?hw13 ?hN13 rfl ?hp13 ?hx13 rfl H112.out.gt0 (by kernel_rfl) (by rw [List.size_toArray, bytesV_length]; show 7 ≤ 64; decide) (by simp [Value.oneCell']) ?_
  case hw13 => rfl
  case hN13 => rfl
  case hp13 => rfl
  case hx13 => rfl
  intro w113 hb13 hS13
  replace hb13 := hb13.trans (congrArg (fun z : List Value => some (Obj.cells z.toArray 79 (0, 0))) (set_seg (l := fc2 q) (i := 6) (x := kd % 256) (by show 6 < 64; decide)))
  clear hk1
  have H114 := Aside0.mk (H112.out.wr0 (cs' := (bytesV (fc3 q kd)).toArray) hb13 hS13)
  clear hb13 hS13 H112
  try go_wp2
  have H116 := Aside0.mk H114.out.drew
  refine start_ (n := 5) (S := fun w' => w'.cell? ⟨g1, 2, none⟩ = some (.int .u32 a)) (ds := [4]) #[false, false, false, false, false] (by kernel_rfl) rfl rfl ((blk_cell H116.out.gt2 2).trans rfl) (fun hHeld => ?_)
  clear H114
  generalize w113.drew = w115 at H116 hHeld ⊢
  refine pure_ (i := 0) (N := some 15) (v := ?_) (a' := ?_) #[true, false, false, false, false] rfl rfl (by kernel_rfl) (fun _ _ _ h => h) (Or.inl ⟨by rfl, ?_⟩) ?_ ?_
  rotate_left
  · intro w'
    go_simp
    with_reducible rfl
  rotate_left
  · simp only [Act.put, List.setIfInBounds_toArray, List.set_cons_zero, List.set_cons_succ, i64_w, i32_w]
    rfl
  refine pure_ (i := 1) (N := some 16) (v := ?_) (a' := ?_) #[true, true, false, false, false] rfl rfl (by kernel_rfl) (fun _ _ _ h => h) (Or.inl ⟨by rfl, ?_⟩) ?_ ?_
  rotate_left
  · intro w'
    go_simp
    with_reducible rfl
  rotate_left
  · simp only [Act.put, List.setIfInBounds_toArray, List.set_cons_zero, List.set_cons_succ, i64_w, i32_w]
    rfl
  refine take_ (i := 2) (N := some 17) (v := ?_) (a' := ?_) #[true, true, true, false, false] rfl rfl (by kernel_rfl) (fun _ _ _ h => h) (Or.inl ⟨by rfl, ?_⟩) hHeld ?_ ?_
  rotate_left
  · rintro w' s0
    go_simp
    with_reducible rfl
  rotate_left
  · simp only [Act.put, List.setIfInBounds_toArray, List.set_cons_zero, List.set_cons_succ, i64_w, i32_w]
    rfl
  refine pure_ (i := 3) (N := some 18) (v := ?_) (a' := ?_) #[true, true, true, true, false] rfl rfl (by kernel_rfl) (fun _ _ _ h => h) (Or.inl ⟨by rfl, ?_⟩) ?_ ?_
  rotate_left
  · intro w'
    go_simp
    with_reducible rfl
  rotate_left
  · simp only [Act.put, List.setIfInBounds_toArray, List.set_cons_zero, List.set_cons_succ, i64_w, i32_w]
    rfl
  refine last_ (i := 4) (N := some 19) #[true, true, true, true, true] rfl rfl (by kernel_rfl) (by decide) (fun K hK => ?_)
  refine goes_ Try.func88 (by kernel_rfl) rfl #[.slice (some ⟨g3, 0, none⟩) 64 64, .int .i64 8, .int .i64 4, .int .u64 a] (by rfl) rfl rfl (by (try simp only [List.map_toArray, List.map_cons, List.map_nil]); first | done | rfl) ?_
  refine (put_box (l := fc3 q kd) 8 4 H116.out.below (H116.out.at_ _ (List.mem_cons_self ..)).1 H116.out.gt0 (by have := HA.out; omega) (by decide) (by show 8 + 4 ≤ 64; decide) (by show 64 ≤ 4611686018427387904; decide) (by show 0 < 64; decide)).mono ?_
  rintro e w117 ⟨rfl, hb17, hS17⟩
  refine ⟨_, rfl, ?_⟩
  have H118 := Aside0.mk (H116.out.wr0 (cs' := (bytesV (fc4 q kd a)).toArray) hb17 hS17)
  clear hb17 hS17 H116
  refine hK.out _ _ ?_
  clear hK K
  refine done_ (by kernel_rfl) ?_
  try dsimp only
  try go_wp2
  have H120 := Aside0.mk H118.out.drew
  refine start_ (n := 5) (S := fun w' => w'.cell? ⟨g1, 3, none⟩ = some (.int .u32 b)) (ds := [4]) #[false, false, false, false, false] (by kernel_rfl) rfl rfl ((blk_cell H120.out.gt2 3).trans rfl) (fun hHeld => ?_)
  clear H118
  generalize w117.drew = w119 at H120 hHeld ⊢
  refine pure_ (i := 0) (N := some 20) (v := ?_) (a' := ?_) #[true, false, false, false, false] rfl rfl (by kernel_rfl) (fun _ _ _ h => h) (Or.inl ⟨by rfl, ?_⟩) ?_ ?_
  rotate_left
  · intro w'
    go_simp
    with_reducible rfl
  rotate_left
  · simp only [Act.put, List.setIfInBounds_toArray, List.set_cons_zero, List.set_cons_succ, i64_w, i32_w]
    rfl
  refine pure_ (i := 1) (N := some 21) (v := ?_) (a' := ?_) #[true, true, false, false, false] rfl rfl (by kernel_rfl) (fun _ _ _ h => h) (Or.inl ⟨by rfl, ?_⟩) ?_ ?_
  rotate_left
  · intro w'
    go_simp
    with_reducible rfl
  rotate_left
  · simp only [Act.put, List.setIfInBounds_toArray, List.set_cons_zero, List.set_cons_succ, i64_w, i32_w]
    rfl
  refine take_ (i := 2) (N := some 22) (v := ?_) (a' := ?_) #[true, true, true, false, false] rfl rfl (by kernel_rfl) (fun _ _ _ h => h) (Or.inl ⟨by rfl, ?_⟩) hHeld ?_ ?_
  rotate_left
  · rintro w' s0
    go_simp
    with_reducible rfl
  rotate_left
  · simp only [Act.put, List.setIfInBounds_toArray, List.set_cons_zero, List.set_cons_succ, i64_w, i32_w]
    rfl
  refine pure_ (i := 3) (N := some 23) (v := ?_) (a' := ?_) #[true, true, true, true, false] rfl rfl (by kernel_rfl) (fun _ _ _ h => h) (Or.inl ⟨by rfl, ?_⟩) ?_ ?_
  rotate_left
  · intro w'
    go_simp
    with_reducible rfl
  rotate_left
  · simp only [Act.put, List.setIfInBounds_toArray, List.set_cons_zero, List.set_cons_succ, i64_w, i32_w]
    rfl
  refine last_ (i := 4) (N := some 24) #[true, true, true, true, true] rfl rfl (by kernel_rfl) (by decide) (fun K hK => ?_)
  refine goes_ Try.func88 (by kernel_rfl) rfl #[.slice (some ⟨g3, 0, none⟩) 64 64, .int .i64 12, .int .i64 4, .int .u64 b] (by rfl) rfl rfl (by (try simp only [List.map_toArray, List.map_cons, List.map_nil]); first | done | rfl) ?_
  refine (put_box (l := fc4 q kd a) 12 4 H120.out.below (H120.out.at_ _ (List.mem_cons_self ..)).1 H120.out.gt0 (by have := HBb.out; omega) (by decide) (by show 12 + 4 ≤ 64; decide) (by show 64 ≤ 4611686018427387904; decide) (by show 0 < 64; decide)).mono ?_
  rintro e w121 ⟨rfl, hb21, hS21⟩
  refine ⟨_, rfl, ?_⟩
  have H122 := Aside0.mk (H120.out.wr0 (cs' := (bytesV (fc5 q kd a b)).toArray) hb21 hS21)
  clear hb21 hS21 H120
  refine hK.out _ _ ?_
  clear hK K
  refine done_ (by kernel_rfl) ?_
  try dsimp only
  try go_wp2
  have H124 := Aside0.mk H122.out.drew
  refine start_ (n := 5) (S := fun w' => True) (ds := [4]) #[false, false, false, false, false] (by kernel_rfl) rfl rfl trivial (fun hHeld => ?_)
  clear H122
  generalize w121.drew = w123 at H124 hHeld ⊢
  refine pure_ (i := 0) (N := some 25) (v := ?_) (a' := ?_) #[true, false, false, false, false] rfl rfl (by kernel_rfl) (fun _ _ _ h => h) (Or.inl ⟨by rfl, ?_⟩) ?_ ?_
  rotate_left
  · intro w'
    go_simp
    with_reducible rfl
  rotate_left
  · simp only [Act.put, List.setIfInBounds_toArray, List.set_cons_zero, List.set_cons_succ, i64_w, i32_w]
    rfl
  refine pure_ (i := 1) (N := some 26) (v := ?_) (a' := ?_) #[true, true, false, false, false] rfl rfl (by kernel_rfl) (fun _ _ _ h => h) (Or.inl ⟨by rfl, ?_⟩) ?_ ?_
  rotate_left
  · intro w'
    go_simp
    with_reducible rfl
  rotate_left
  · simp only [Act.put, List.setIfInBounds_toArray, List.set_cons_zero, List.set_cons_succ, i64_w, i32_w]
    rfl
  refine one_ (i := 2) (N := some 27) #[true, true, true, false, false] rfl rfl (by kernel_rfl) (by decide) (fun K hK => ?_)
  refine goes_ Try.func89 (by kernel_rfl) rfl #[.slice (some ⟨g3, 0, none⟩) 56 64] (by rfl) rfl rfl (by (try simp only [List.map_toArray, List.map_cons, List.map_nil]); first | done | rfl) ?_
  have hCh : Kd.C (Kd.int .u8) w123 (some ⟨g3, 0, none⟩) (frameHead q kd a b).length (frameHead q kd a b) := by
    have h1 := Kd.reads_of_C (enc := Value.int .u8) (d := (0 : Int)) (h1 := fun _ => rfl) (Kd.R_reads' (R_arr (base := 0) (l := fc5 q kd a b) H124.out.gt0 (Nat.zero_le _) (by show 64 ≤ 9223372036854775807; decide))).2.2
    have h2 := h1.take_ 56 (by show 56 ≤ 64; decide)
    rw [fc5_head] at h2
    exact Kd.C_of_reads (h1 := fun _ => rfl) h2
  refine (impl_Crc32.calls kc _ 64 (frameHead q kd a b) c _ hCh (by show 56 ≤ 64; decide) HKC.out).mono ?_
  rintro e w125 ⟨rfl, hd_⟩
  refine ⟨_, rfl, ?_⟩
  have hb_ := hd_.below
  clear hd_ hCh
  have H126 := Aside0.mk (H124.out.step hb_)
  clear hb_ H124
  refine hK.out _ _ trivial (fun hHeld => ?_)
  clear hK K
  refine norm_ (a' := ?_) ?_ ?_
  rotate_left
  · show Act.put _ (some 27) _ = _
    simp only [Act.put, List.setIfInBounds_toArray, List.set_cons_zero, List.set_cons_succ, i64_w, i32_w]
    rfl
  refine pure_ (i := 3) (N := some 28) (v := ?_) (a' := ?_) #[true, true, true, true, false] rfl rfl (by kernel_rfl) (fun _ _ _ h => h) (Or.inl ⟨by rfl, ?_⟩) ?_ ?_
  rotate_left
  · intro w'
    go_simp
    with_reducible rfl
  rotate_left
  · simp only [Act.put, List.setIfInBounds_toArray, List.set_cons_zero, List.set_cons_succ, i64_w, i32_w]
    rfl
  refine last_ (i := 4) (N := some 29) #[true, true, true, true, true] rfl rfl (by kernel_rfl) (by decide) (fun K hK => ?_)
  refine goes_ Try.func88 (by kernel_rfl) rfl #[.slice (some ⟨g3, 0, none⟩) 64 64, .int .i64 56, .int .i64 4, .int .u64 c] (by rfl) rfl rfl (by (try simp only [List.map_toArray, List.map_cons, List.map_nil]); first | done | rfl) ?_
  refine (put_box (l := fc5 q kd a b) 56 4 H126.out.below (H126.out.at_ _ (List.mem_cons_self ..)).1 H126.out.gt0 (by have := HCr.out; omega) (by decide) (by show 56 + 4 ≤ 64; decide) (by show 64 ≤ 4611686018427387904; decide) (by show 0 < 64; decide)).mono ?_
  rintro e w127 ⟨rfl, hb27, hS27⟩
  refine ⟨_, rfl, ?_⟩
  have H128 := Aside0.mk (H126.out.wr0 (cs' := (bytesV (fc6 q kd a b c)).toArray) hb27 hS27)
  clear hb27 hS27 H126
  refine hK.out _ _ ?_
  clear hK K
  refine done_ (by kernel_rfl) ?_
  try dsimp only
  try go_wp2
  have H130 := Aside0.mk H128.out.drew
  refine start_ (n := 5) (S := fun w' => w'.cell? ⟨g1, 0, none⟩ = some (.int .u32 q)) (ds := [4]) #[false, false, false, false, false] (by kernel_rfl) rfl rfl ((blk_cell H130.out.gt2 0).trans rfl) (fun hHeld => ?_)
  clear H128
  generalize w127.drew = w129 at H130 hHeld ⊢
  refine pure_ (i := 0) (N := some 30) (v := ?_) (a' := ?_) #[true, false, false, false, false] rfl rfl (by kernel_rfl) (fun _ _ _ h => h) (Or.inl ⟨by rfl, ?_⟩) ?_ ?_
  rotate_left
  · intro w'
    go_simp
    with_reducible rfl
  rotate_left
  · simp only [Act.put, List.setIfInBounds_toArray, List.set_cons_zero, List.set_cons_succ, i64_w, i32_w]
    rfl
  refine pure_ (i := 1) (N := some 31) (v := ?_) (a' := ?_) #[true, true, false, false, false] rfl rfl (by kernel_rfl) (fun _ _ _ h => h) (Or.inl ⟨by rfl, ?_⟩) ?_ ?_
  rotate_left
  · intro w'
    go_simp
    with_reducible rfl
  rotate_left
  · simp only [Act.put, List.setIfInBounds_toArray, List.set_cons_zero, List.set_cons_succ, i64_w, i32_w]
    rfl
  refine take_ (i := 2) (N := some 32) (v := ?_) (a' := ?_) #[true, true, true, false, false] rfl rfl (by kernel_rfl) (fun _ _ _ h => h) (Or.inl ⟨by rfl, ?_⟩) hHeld ?_ ?_
  rotate_left
  · rintro w' s0
    go_simp
    with_reducible rfl
  rotate_left
  · simp only [Act.put, List.setIfInBounds_toArray, List.set_cons_zero, List.set_cons_succ, i64_w, i32_w]
    rfl
  refine pure_ (i := 3) (N := some 33) (v := ?_) (a' := ?_) #[true, true, true, true, false] rfl rfl (by kernel_rfl) (fun _ _ _ h => h) (Or.inl ⟨by rfl, ?_⟩) ?_ ?_
  rotate_left
  · intro w'
    go_simp
    with_reducible rfl
  rotate_left
  · simp only [Act.put, List.setIfInBounds_toArray, List.set_cons_zero, List.set_cons_succ, i64_w, i32_w]
    rfl
  refine last_ (i := 4) (N := some 34) #[true, true, true, true, true] rfl rfl (by kernel_rfl) (by decide) (fun K hK => ?_)
  refine goes_ Try.func88 (by kernel_rfl) rfl #[.slice (some ⟨g3, 0, none⟩) 64 64, .int .i64 60, .int .i64 4, .int .u64 q] (by rfl) rfl rfl (by (try simp only [List.map_toArray, List.map_cons, List.map_nil]); first | done | rfl) ?_
  refine (put_box (l := fc6 q kd a b c) 60 4 H130.out.below (H130.out.at_ _ (List.mem_cons_self ..)).1 H130.out.gt0 (by have := HQ.out; omega) (by decide) (by show 60 + 4 ≤ 64; decide) (by show 64 ≤ 4611686018427387904; decide) (by show 0 < 64; decide)).mono ?_
  rintro e w131 ⟨rfl, hb31, hS31⟩
  refine ⟨_, rfl, ?_⟩
  have H132 := Aside0.mk (H130.out.wr0 (cs' := (bytesV (fc7 q kd a b c)).toArray) hb31 hS31)
  clear hb31 hS31 H130
  refine hK.out _ _ ?_
  clear hK K
  refine done_ (by kernel_rfl) ?_
  try dsimp only
  go_wp2_with (first | ((with_reducible refine gate_dst (N := 35) rfl ?_); refine Aside0.out ?_))
  refine Aside0.mk ?_
  refine ld ?hw33 rfl ?hx33 H132.out.gt0 Try.underlying79 rfl (by rw [List.size_toArray, bytesV_length, show (fc7 q kd a b c).length = 64 from rfl]; kernel_rfl) ?_
  case hw33 => rfl
  case hx33 => rfl
  go_wp2_with (first | ((with_reducible refine gate_store (t := 79) (p := 2) rfl ?_); refine Aside0.out ?_))
  refine Aside0.mk ?_
  refine st_all ?hw34 ?hN34 rfl ?hp34 (cs := (bytesV (fc7 q kd a b c)).toArray) ?hx34 H132.out.gt1 (by rw [List.size_toArray, bytesV_length, show (fc7 q kd a b c).length = 64 from rfl]; kernel_rfl) (by rw [List.size_toArray, List.size_toArray, bytesV_length, bytesV_length]; rfl) (bytesV_one _) ?_
  case hw34 => rfl
  case hN34 => rfl
  case hp34 => rfl
  case hx34 => rfl
  intro w134 hb34 hS34
  have H135 := Aside0.mk (H132.out.wr1 (cs' := (bytesV (fc7 q kd a b c)).toArray) hb34 hS34)
  clear hb34 hS34 H132
  go_wp2
  refine bodyPost_ret (results_cell_row rfl _ _ g2 79 (bytesV (fc7 q kd a b c)).toArray (0, 0) _ rfl H135.out.gt1 Try.underlying79 rfl (by rw [List.size_toArray, bytesV_length, show (fc7 q kd a b c).length = 64 from rfl]; kernel_rfl)) rfl ?_
  exact ⟨by rw [HC.out, fc7_code], H135.out.below⟩
/-- What EncodeFrame answers. -/
def impl_EncodeFrame.f (a0_0 : Int) (a0_1 : Int) (a0_2 : Int) (a0_3 : Int) : Option (List Int) :=
  if (0 ≤ a0_0 ∧ a0_0 ≤ 4294967295) ∧ (0 ≤ a0_2 ∧ a0_2 ≤ 4294967295) ∧ (0 ≤ a0_3 ∧ a0_3 ≤ 4294967295) then some (if 1 ≤ a0_1 ∧ a0_1 ≤ 3 then frameCode a0_0 a0_1 a0_2 a0_3 else []) else none
set_option maxHeartbeats 8000000 in
set_option maxRecDepth 100000 in
theorem impl_EncodeFrame.calls (a0_0 : Int) (a0_1 : Int) (a0_2 : Int) (a0_3 : Int) (r : List Int) (w : World) (h : impl_EncodeFrame.f a0_0 a0_1 a0_2 a0_3 = some r) :
    Calls Try.prog 13 #[.agg #[.int .u32 a0_0, .int .i64 a0_1, .int .u32 a0_2, .int .u32 a0_3]] w fun e w' => ∃ v0_ : Value, e = .returned (v0_) ∧ Kd.R (Kd.int .u8) 79 w' w.heap.size (fun _ => True) v0_ r ∧ Below w.heap.size w w' := by
  unfold impl_EncodeFrame.f at h
  by_cases hsz : (0 ≤ a0_0 ∧ a0_0 ≤ 4294967295) ∧ (0 ≤ a0_2 ∧ a0_2 ≤ 4294967295) ∧ (0 ≤ a0_3 ∧ a0_3 ≤ 4294967295)
  case neg => rw [if_neg hsz] at h; cases h
  rw [if_pos hsz] at h
  have h := Option.some.inj h
  have HSz := Aside0.mk hsz
  have H := Aside0.mk h
  have H0 := Aside0.mk (Bx.refl w)
  have hgd : impl_Frame_good.f a0_0 a0_1 a0_2 a0_3 = some (decide (1 ≤ a0_1 ∧ a0_1 ≤ 3)) := by
    unfold impl_Frame_good.f
    by_cases c1 : a0_1 ≥ 1
    · rw [if_pos c1]; congr 1; apply decide_eq_decide.2; omega
    · rw [if_neg c1, decide_eq_false (by omega)]
  have HGd := Aside0.mk hgd
  clear hsz h hgd
  go_enter Try.func13, Try.ntmps13
  go_wp2_with (first | ((with_reducible refine gate_dst (N := 1) rfl ?_); refine Aside0.out ?_))
  refine Aside0.mk ?_
  refine mk ?hw1 (N := 1) ?hd1 (cs := #[.int .u32 a0_0, .int .i64 a0_1, .int .u32 a0_2, .int .u32 a0_3]) (t := 27) ?hr1 ?_
  case hd1 => rfl
  case hw1 => rfl
  case hr1 => first | (go_simp; done) | (go_simp; rfl)
  intro g1 hg1_ w101 hb1 hB1
  have H102 := Aside0.mk (H0.out.new hg1_ hb1 hB1)
  clear hg1_ hb1 hB1 H0
  go_wp2_with (first | ((with_reducible refine gate_dst (N := 4) rfl ?_); refine Aside0.out ?_))
  refine Aside0.mk ?_
  refine ld ?hw3 rfl ?hx3 H102.out.gt0 Try.underlying27 rfl (by kernel_rfl) ?_
  case hw3 => rfl
  case hx3 => rfl
  go_wp2_with (first | ((with_reducible refine gate_callee (f := 51) rfl ?_); refine Aside0.out ?_))
  refine Aside0.mk ?_
  refine goesW (some 5) rfl ?hw4 Try.func51 (by kernel_rfl) rfl #[.agg #[.int .u32 a0_0, .int .i64 a0_1, .int .u32 a0_2, .int .u32 a0_3]] rfl (by (try simp only [List.map_toArray, List.map_cons, List.map_nil]); first | done | rfl) ?_
  case hw4 => rfl
  refine (impl_Frame_good.calls a0_0 a0_1 a0_2 a0_3 _ _ HGd.out).mono ?_
  rintro e w104 ⟨rfl, hb_⟩
  refine ⟨_, rfl, ?_⟩
  have H105 := Aside0.mk (H102.out.step hb_)
  clear hb_ H102
  by_cases hk : 1 ≤ a0_1 ∧ a0_1 ≤ 3
  · rw [decide_eq_true hk]
    have h := H.out
    rw [if_pos hk] at h
    subst h
    clear hk H
    go_wp2_with (first | ((with_reducible refine gate_dst (N := 7) rfl ?_); refine Aside0.out ?_))
    refine Aside0.mk ?_
    refine ld ?hw6 rfl ?hx6 H105.out.gt0 Try.underlying27 rfl (by kernel_rfl) ?_
    case hw6 => rfl
    case hx6 => rfl
    go_wp2_with (first | ((with_reducible refine gate_callee (f := 52) rfl ?_); refine Aside0.out ?_))
    refine Aside0.mk ?_
    refine goesW (some 8) rfl ?hw7 Try.func52 (by kernel_rfl) rfl #[.agg #[.int .u32 a0_0, .int .i64 a0_1, .int .u32 a0_2, .int .u32 a0_3]] rfl (by (try simp only [List.map_toArray, List.map_cons, List.map_nil]); first | done | rfl) ?_
    case hw7 => rfl
    refine (code_calls HSz.out.1 HSz.out.2.1 HSz.out.2.2).mono ?_
    rintro e w107 ⟨rfl, hb_⟩
    refine ⟨_, rfl, ?_⟩
    have H108 := Aside0.mk (H105.out.step hb_)
    clear hb_ H105
    go_wp2_with (first | ((with_reducible refine gate_dst (N := 3) rfl ?_); refine Aside0.out ?_))
    refine Aside0.mk ?_
    refine mk ?hw9 (N := 3) ?hd9 (cs := (bytesV fc0).toArray) (t := 79) ?hr9 ?_
    case hd9 => rfl
    case hw9 => rfl
    case hr9 => first | (go_simp; done) | (go_simp; rfl)
    intro g3 hg3_ w109 hb9 hB9
    have H110 := Aside0.mk (H108.out.new hg3_ hb9 hB9)
    clear hg3_ hb9 hB9 H108
    go_wp2_with (first | ((with_reducible refine gate_store (t := 79) (p := 3) rfl ?_); refine Aside0.out ?_))
    refine Aside0.mk ?_
    refine st_all ?hw11 ?hN11 rfl ?hp11 (cs := (bytesV (frameCode a0_0 a0_1 a0_2 a0_3)).toArray) ?hx11 H110.out.gt0 (by rw [List.size_toArray, bytesV_length, frameCode_length]; kernel_rfl) (by rw [List.size_toArray, List.size_toArray, bytesV_length, bytesV_length]; rfl) (bytesV_one _) ?_
    case hw11 => rfl
    case hN11 => rfl
    case hp11 => rfl
    case hx11 => rfl
    intro w111 hb11 hS11
    have H112 := Aside0.mk (H110.out.wr0 (cs' := (bytesV (frameCode a0_0 a0_1 a0_2 a0_3)).toArray) hb11 hS11)
    clear hb11 hS11 H110
    go_wp2
    go_ret
    exact ⟨_, rfl, R_arr (l := frameCode a0_0 a0_1 a0_2 a0_3) H112.out.gt0 (H112.out.at_ _ (List.mem_cons_self ..)).1 (by rw [frameCode_length]; decide), H112.out.below⟩
  · rw [decide_eq_false hk]
    have h := H.out
    rw [if_neg hk] at h
    subst h
    go_wp2
    go_ret
    exact ⟨_, rfl, Kd.R_nil _ _ _ _ _, H105.out.below⟩
end Go.Proofs.Ytgfadfahbhcllaa.Q
