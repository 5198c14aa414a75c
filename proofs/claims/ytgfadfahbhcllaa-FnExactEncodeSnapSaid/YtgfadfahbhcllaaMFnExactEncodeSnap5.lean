/- Part 5 of 6 of the proof that the law FnExactEncodeSnap returns true at every input. No further condition. -/
import Derived.Test.YtgfadfahbhcllaaWInv
import Derived.Test.YtgfadfahbhcllaaWNEv
import Derived.Test.YtgfadfahbhcllaaWMore
import Derived.Test.YtgfadfahbhcllaaWWords
import Derived.ChangeArms
import Derived.DataReads
import Derived.Test.YtgfadfahbhcllaaMFnExactEncodeSnap4
namespace Go.Proofs.Ytgfadfahbhcllaa.Q
open Go.RowKit Go.Proofs.YtgfadfahbhcllaaW.PrintWords Go.Proofs.YtgfadfahbhcllaaW.PrintLast Go.Proofs.Ytgfadfahbhcllaa.LK Go.Proofs.YtgfadfahbhcllaaW.PrintMore
attribute [local go_sem] max2_int min2_int max_two min_two max_three min_three max_four min_four   -- for this text's walks alone
set_option linter.unusedVariables false
set_option linter.unusedSimpArgs false

/-! ### spec_l2Cat: function 47 -/
def spec_l2Cat.l0 : Nat → List (List Int) → List Int → Int → Option (List Int)
  | 0, _, _, _ => none
  | k + 1, x0, x3, x4 => if x4 < (x0.length : Int) then (if 0 ≤ x4 then (if x3.length + (rd_L1 x0 x4).length < 140737488355328 then (spec_l2Cat.l0 k x0 (x3 ++ (rd_L1 x0 x4)) (wrap64 (x4 + 1))) else (none)) else (none)) else (some x3)
def spec_l2Cat.f (k : Nat) (l0 : List (List Int)) : Option (List Int) := spec_l2Cat.l0 k l0 (([] : List Int)) 0
theorem spec_l2Cat.mono_l : ∀ k, (∀ y0 y1 y2, LeO (spec_l2Cat.l0 k y0 y1 y2) (spec_l2Cat.l0 (k + 1) y0 y1 y2))
  | 0 => fun _ _ _ r h => by simp [spec_l2Cat.l0] at h
  | k + 1 => by
    have ih0 := spec_l2Cat.mono_l k
    · intro y0 y1 y2
      unfold spec_l2Cat.l0
      repeat' first
      | (with_reducible exact ih0 _ _ _)
      | (with_reducible exact LeO.refl _)
      | (with_reducible exact LeO.none _)
      | (with_reducible refine LeO.ite ?_ ?_)
      | (with_reducible refine LeO.bind ?_ (fun _ => ?_))
      | exact ih0 _ _ _
      | exact LeO.none _
      | refine LeO.ite ?_ ?_
      | refine LeO.bind ?_ (fun _ => ?_)
theorem spec_l2Cat.mono : ∀ a0 k, LeO (spec_l2Cat.f k a0) (spec_l2Cat.f (k + 1) a0) := by
  intro a0 k
  have ih0 := spec_l2Cat.mono_l k
  unfold spec_l2Cat.f
  repeat' first
      | (with_reducible exact ih0 _ _ _)
      | (with_reducible exact LeO.refl _)
      | (with_reducible exact LeO.none _)
      | (with_reducible refine LeO.ite ?_ ?_)
      | (with_reducible refine LeO.bind ?_ (fun _ => ?_))
      | exact ih0 _ _ _
      | exact LeO.none _
      | refine LeO.ite ?_ ?_
      | refine LeO.bind ?_ (fun _ => ?_)
set_option maxHeartbeats 8000000 in
set_option maxRecDepth 100000 in
theorem spec_l2Cat.calls (k : Nat) (A0 : Option Addr) (c0 : Nat) (l0 : List (List Int)) (r : List Int) (w : World) (hr0 : Kd.C (Kd.slice 5 (Kd.int .u8)) w A0 l0.length l0) (hc0 : l0.length ≤ c0) (h : spec_l2Cat.f k l0 = some r) :
    Calls Try.prog 47 #[.slice A0 l0.length c0] w fun e w' => ∃ v0_ : Value, e = .returned (v0_) ∧ Kd.R (Kd.int .u8) 5 w' w.heap.size (fun _ => True) v0_ r ∧ Below w.heap.size w w' := by
  have HR0 := Aside0.mk hr0
  have HC0 := Aside0.mk hc0
  clear hr0 hc0
  have HB := Aside0.mk (Below.refl w.heap.size w)
  have H : (spec_l2Cat.l0 k l0 (([] : List Int)) 0) = some r := h
  clear h
  obtain ⟨y101, hy101⟩ : ∃ y_ : List Int, y_ = (([] : List Int)) := ⟨_, rfl⟩
  replace H : (spec_l2Cat.l0 k l0 y101 0) = some r := by first | (rw [hy101]; with_reducible exact H) | (have H2_ := (Option.bind_some _ _).symm.trans H; rw [hy101]; with_reducible exact H2_) | (have H2_ := (Option.bind_some _ _).symm.trans H; with_reducible exact H2_) | with_reducible exact H | (rw [hy101]; exact H) | exact H
  have Ny101 := Aside0.mk hy101
  clear hy101
  have H' := Aside0.mk H
  clear H
  go_enter Try.func47, Try.ntmps47
  go_wp2_with (first | ((with_reducible refine gate_dst (N := 5) rfl ?_); refine Kd.R_lit (Kd.int .u8) _ 5 ?hg (N := 5) ?hd (xs := ([] : List Int)) (inner := []) (ok := fun _ => True) (okp := fun _ => True) ?hr ?hp (fun _ hk => hk) trivial (Below.refl _ _) (Nat.le_refl _) (by simp) ?_; (case hd => rfl); (case hg => rfl); (case hr => first | (go_simp; done) | (go_simp; rfl)); (case hp => exact (Reps.none _ _)); intro v102 w2 ho3 hb hg_ hnew_; clear hg_ hnew_; (first | rw [← Ny101.out] at ho3 | (simp only [Int.reduceToNat] at ho3; rw [← Ny101.out] at ho3)); have n0_ := Aside0.mk (Kd.R_lower ho3 (below_size (by repeat (first | (with_reducible first | exact HB.out | apply below_alloc | apply pw_below_drewN | apply below_drew1) | exact HB.out)))); have n1_ := Aside0.mk (below_step (by repeat (first | (with_reducible first | exact HB.out | apply below_alloc | apply pw_below_drewN | apply below_drew1) | exact HB.out)) hb); clear HB; have HO103 := n0_; have HB := n1_; clear n0_ n1_; clear hb ho3))
  go_loopg [3, 4] k (fun kq v3 v4 w' => ∃ (x3_1 : List Int) (x4_1 : Int), v4 = .int .i64 x4_1 ∧ Aside0 (spec_l2Cat.l0 kq l0 x3_1 x4_1 = some r) ∧ Aside0 (kq ≤ k) ∧ Aside0 (Kd.R (Kd.int .u8) 5 w' w.heap.size (fun _ => True) v3 x3_1) ∧ Aside0 (Below w.heap.size w w'))
  case atStart => exact ⟨(y101), (0), (by first | rfl | (simp; done) | (simp [*]; done)), H', ⟨Nat.le_refl _⟩, ⟨by (with_reducible repeat (first | apply Kd.R_alloc | apply Kd.R_drewN | apply Kd.R_drew)); exact HO103.out⟩, ⟨by repeat (first | (with_reducible first | exact HB.out | apply below_alloc | apply pw_below_drewN | apply below_drew1) | exact HB.out)⟩⟩
  case round =>
    clear H'
    try clear p2
    obtain ⟨x3_1, x4_1, rfl, HA, HK1, HO_3, HB⟩ := hrel
    cases gk with
    | zero => exact absurd HA.out (by simp [spec_l2Cat.l0])
    | succ k1 =>
      have H := HA.out
      clear HA
      simp only [spec_l2Cat.l0] at H
      by_cases c4 : x4_1 < (l0.length : Int)
      · rw [if_pos c4] at H
        have c4b0 : decide (x4_1 < (l0.length : Int)) = true := decide_eq_true c4
        clear c4
        by_cases c5 : 0 ≤ x4_1
        · rw [if_pos c5] at H
          have c5b0 : decide (0 ≤ x4_1) = true := decide_eq_true c5
          clear c5
          by_cases c6 : x3_1.length + (rd_L1 l0 x4_1).length < 140737488355328
          · rw [if_pos c6] at H
            have LMc6 := Aside0.mk c6
            clear c6
            obtain ⟨y105, hy105⟩ : ∃ y_ : List Int, y_ = (x3_1 ++ (rd_L1 l0 x4_1)) := ⟨_, rfl⟩
            replace H : (spec_l2Cat.l0 k1 l0 y105 (wrap64 (x4_1 + 1))) = some r := by first | (rw [hy105]; with_reducible exact H) | (have H2_ := (Option.bind_some _ _).symm.trans H; rw [hy105]; with_reducible exact H2_) | (have H2_ := (Option.bind_some _ _).symm.trans H; with_reducible exact H2_) | with_reducible exact H | (rw [hy105]; exact H) | exact H
            have Ny105 := Aside0.mk hy105
            clear hy105
            have H' := Aside0.mk H
            clear H
            have p104 : 0 ≤ (x4_1 : Int) := of_decide_eq_true (by first | (with_reducible assumption) | assumption)
            have q104 : x4_1 < (l0.length : Int) := of_decide_eq_true (by first | (with_reducible assumption) | assumption)
            obtain ⟨ad104, A104_0, c104_0, e104, hx104_0, hl104_0, hi104_0⟩ := at_L1 HR0.out x4_1 p104 q104
            cases e104
            replace hx104_0 := (HB.out.cell (World.block_lt_of_cell? w _ hx104_0)).trans hx104_0
            have HR104_0 := Aside0.mk hi104_0
            have HC104_0 := Aside0.mk hl104_0
            clear hi104_0 hl104_0
            replace p104 := eq_true p104
            replace q104 := eq_true q104
            go_wp2_with (first | ((with_reducible refine gate_builtin (b := .append) (xs := #[.tmp 12, .tmp 16]) rfl ?_); at_builtin; refine Kd.R_append_rows (Kd.int .u8) (w0 := w) w.heap.size rfl (.tmp 12) (.tmp 16) 25 5 (.int .u8 0) 1 rfl Try.underlying25 info5 rfl (by decide) (by omega) u3 x3_1 (rd_L1 l0 x4_1) _ _ _ (fun _ => True) (fun _ => False) rfl rfl ?aO ?aR (fun _ _ h => h) (fun _ h => h.elim) ?aF ?aB ?aS ?aL ?_; (case aR => repeat (first | exact (Kd.C_below HR104_0.out HB.out) | (with_reducible refine Kd.C_alloc ?_ _) | (with_reducible refine Kd.C_drewN ?_ _) | (with_reducible refine Kd.C_drew ?_))); (case aB => exact (by repeat (first | (with_reducible first | exact HB.out | apply below_alloc | apply pw_below_drewN | apply below_drew1) | exact HB.out))); (case aF => exact (fun _ _ => trivial)); (case aO => exact (by (with_reducible repeat (first | apply Kd.R_alloc | apply Kd.R_drewN | apply Kd.R_drew)); exact HO_3.out)); (case aS => exact (below_size (by repeat (first | (with_reducible first | exact HB.out | apply below_alloc | apply pw_below_drewN | apply below_drew1) | exact HB.out)))); (case aL => have := LMc6.out; omega); intro v106 w7 ho hb hg hat; rw [← Ny105.out] at ho; have n0_ := Aside0.mk (hb); have n1_ := Aside0.mk (ho); clear HB; clear HO_3; have HB := n0_; have HO107 := n1_; clear n0_ n1_; clear ho hb hg hat))
            go_roundg k1
            case measure => have := HK1.out; omega
            case rel => exact ⟨(y105), (wrap64 (x4_1 + 1)), (by first | rfl | (simp; done) | (simp [*]; done)), H', ⟨by have := HK1.out; omega⟩, ⟨by (with_reducible repeat (first | apply Kd.R_alloc | apply Kd.R_drewN | apply Kd.R_drew)); exact HO107.out⟩, ⟨by repeat (first | (with_reducible first | exact HB.out | apply below_alloc | apply pw_below_drewN | apply below_drew1) | exact HB.out)⟩⟩
          · rw [if_neg c6] at H
            exact absurd H (by simp)
        · rw [if_neg c5] at H
          exact absurd H (by simp)
      · rw [if_neg c4] at H
        have c4b0 : decide (x4_1 < (l0.length : Int)) = false := decide_eq_false c4
        clear c4
        obtain rfl := Option.some.inj H
        go_wp2
        go_ret
        exact ⟨_, by first | rfl | (simp [errW_none, errW_some] <;> rfl) | (simp [*, errW_none, errW_some] <;> rfl), by (with_reducible repeat (first | apply Kd.R_alloc | apply Kd.R_drewN | apply Kd.R_drew)); exact HO_3.out, by repeat (first | (with_reducible first | exact HB.out | apply below_alloc | apply pw_below_drewN | apply below_drew1) | exact HB.out)⟩

end Go.Proofs.Ytgfadfahbhcllaa.Q
namespace Go.Proofs.Ytgfadfahbhcllaa.Q
open Go.RowKit Go.Proofs.YtgfadfahbhcllaaW.PrintWords Go.Proofs.YtgfadfahbhcllaaW.PrintLast Go.Proofs.Ytgfadfahbhcllaa.LK Go.Proofs.YtgfadfahbhcllaaW.PrintMore
attribute [local go_sem] max2_int min2_int max_two min_two max_three min_three max_four min_four   -- for this text's walks alone
set_option linter.unusedVariables false
set_option linter.unusedSimpArgs false

/-! ### spec_l1Zeros: function 49 -/
def spec_l1Zeros.l0 : Nat → Int → List Int → Int → Option (List Int)
  | 0, _, _, _ => none
  | k + 1, x0, x3, x4 => if x4 < x0 then (if x3.length < 140737488355328 then (spec_l1Zeros.l0 k x0 (x3 ++ [0]) (wrap64 (x4 + 1))) else (none)) else (some x3)
def spec_l1Zeros.f (k : Nat) (a0 : Int) : Option (List Int) := spec_l1Zeros.l0 k a0 (([] : List Int)) 0
theorem spec_l1Zeros.mono_l : ∀ k, (∀ y0 y1 y2, LeO (spec_l1Zeros.l0 k y0 y1 y2) (spec_l1Zeros.l0 (k + 1) y0 y1 y2))
  | 0 => fun _ _ _ r h => by simp [spec_l1Zeros.l0] at h
  | k + 1 => by
    have ih0 := spec_l1Zeros.mono_l k
    · intro y0 y1 y2
      unfold spec_l1Zeros.l0
      repeat' first
      | (with_reducible exact ih0 _ _ _)
      | (with_reducible exact LeO.refl _)
      | (with_reducible exact LeO.none _)
      | (with_reducible refine LeO.ite ?_ ?_)
      | (with_reducible refine LeO.bind ?_ (fun _ => ?_))
      | exact ih0 _ _ _
      | exact LeO.none _
      | refine LeO.ite ?_ ?_
      | refine LeO.bind ?_ (fun _ => ?_)
theorem spec_l1Zeros.mono : ∀ a0 k, LeO (spec_l1Zeros.f k a0) (spec_l1Zeros.f (k + 1) a0) := by
  intro a0 k
  have ih0 := spec_l1Zeros.mono_l k
  unfold spec_l1Zeros.f
  repeat' first
      | (with_reducible exact ih0 _ _ _)
      | (with_reducible exact LeO.refl _)
      | (with_reducible exact LeO.none _)
      | (with_reducible refine LeO.ite ?_ ?_)
      | (with_reducible refine LeO.bind ?_ (fun _ => ?_))
      | exact ih0 _ _ _
      | exact LeO.none _
      | refine LeO.ite ?_ ?_
      | refine LeO.bind ?_ (fun _ => ?_)
set_option maxHeartbeats 8000000 in
set_option maxRecDepth 100000 in
theorem spec_l1Zeros.calls (k : Nat) (a0 : Int) (r : List Int) (w : World) (h : spec_l1Zeros.f k a0 = some r) :
    Calls Try.prog 49 #[.int .i64 a0] w fun e w' => ∃ v0_ : Value, e = .returned (v0_) ∧ Kd.R (Kd.int .u8) 5 w' w.heap.size (fun _ => True) v0_ r ∧ Below w.heap.size w w' := by
  have HB := Aside0.mk (Below.refl w.heap.size w)
  have H : (spec_l1Zeros.l0 k a0 (([] : List Int)) 0) = some r := h
  clear h
  obtain ⟨y101, hy101⟩ : ∃ y_ : List Int, y_ = (([] : List Int)) := ⟨_, rfl⟩
  replace H : (spec_l1Zeros.l0 k a0 y101 0) = some r := by first | (rw [hy101]; with_reducible exact H) | (have H2_ := (Option.bind_some _ _).symm.trans H; rw [hy101]; with_reducible exact H2_) | (have H2_ := (Option.bind_some _ _).symm.trans H; with_reducible exact H2_) | with_reducible exact H | (rw [hy101]; exact H) | exact H
  have Ny101 := Aside0.mk hy101
  clear hy101
  have H' := Aside0.mk H
  clear H
  go_enter Try.func49, Try.ntmps49
  go_wp2_with (first | ((with_reducible refine gate_dst (N := 5) rfl ?_); refine Kd.R_lit (Kd.int .u8) _ 5 ?hg (N := 5) ?hd (xs := ([] : List Int)) (inner := []) (ok := fun _ => True) (okp := fun _ => True) ?hr ?hp (fun _ hk => hk) trivial (Below.refl _ _) (Nat.le_refl _) (by simp) ?_; (case hd => rfl); (case hg => rfl); (case hr => first | (go_simp; done) | (go_simp; rfl)); (case hp => exact (Reps.none _ _)); intro v102 w2 ho3 hb hg_ hnew_; clear hg_ hnew_; (first | rw [← Ny101.out] at ho3 | (simp only [Int.reduceToNat] at ho3; rw [← Ny101.out] at ho3)); have n0_ := Aside0.mk (Kd.R_lower ho3 (below_size (by repeat (first | (with_reducible first | exact HB.out | apply below_alloc | apply pw_below_drewN | apply below_drew1) | exact HB.out)))); have n1_ := Aside0.mk (below_step (by repeat (first | (with_reducible first | exact HB.out | apply below_alloc | apply pw_below_drewN | apply below_drew1) | exact HB.out)) hb); clear HB; have HO103 := n0_; have HB := n1_; clear n0_ n1_; clear hb ho3))
  go_loopg [3, 4] k (fun kq v3 v4 w' => ∃ (x3_1 : List Int) (x4_1 : Int), v4 = .int .i64 x4_1 ∧ Aside0 (spec_l1Zeros.l0 kq a0 x3_1 x4_1 = some r) ∧ Aside0 (kq ≤ k) ∧ Aside0 (Kd.R (Kd.int .u8) 5 w' w.heap.size (fun _ => True) v3 x3_1) ∧ Aside0 (Below w.heap.size w w'))
  case atStart => exact ⟨(y101), (0), (by first | rfl | (simp; done) | (simp [*]; done)), H', ⟨Nat.le_refl _⟩, ⟨by (with_reducible repeat (first | apply Kd.R_alloc | apply Kd.R_drewN | apply Kd.R_drew)); exact HO103.out⟩, ⟨by repeat (first | (with_reducible first | exact HB.out | apply below_alloc | apply pw_below_drewN | apply below_drew1) | exact HB.out)⟩⟩
  case round =>
    clear H'
    try clear p2
    obtain ⟨x3_1, x4_1, rfl, HA, HK1, HO_3, HB⟩ := hrel
    cases gk with
    | zero => exact absurd HA.out (by simp [spec_l1Zeros.l0])
    | succ k1 =>
      have H := HA.out
      clear HA
      simp only [spec_l1Zeros.l0] at H
      by_cases c4 : x4_1 < a0
      · rw [if_pos c4] at H
        have c4b0 : decide (x4_1 < a0) = true := decide_eq_true c4
        clear c4
        by_cases c5 : x3_1.length < 140737488355328
        · rw [if_pos c5] at H
          have LMc5 := Aside0.mk c5
          clear c5
          obtain ⟨y104, hy104⟩ : ∃ y_ : List Int, y_ = (x3_1 ++ [0]) := ⟨_, rfl⟩
          replace H : (spec_l1Zeros.l0 k1 a0 y104 (wrap64 (x4_1 + 1))) = some r := by first | (rw [hy104]; with_reducible exact H) | (have H2_ := (Option.bind_some _ _).symm.trans H; rw [hy104]; with_reducible exact H2_) | (have H2_ := (Option.bind_some _ _).symm.trans H; with_reducible exact H2_) | with_reducible exact H | (rw [hy104]; exact H) | exact H
          have Ny104 := Aside0.mk hy104
          clear hy104
          have H' := Aside0.mk H
          clear H
          go_wp2_with (first | ((with_reducible refine gate_builtin (b := .append) (xs := #[.tmp 11, .tmp 12]) rfl ?_); at_builtin; refine Kd.R_append (Kd.int .u8) (w0 := w) w.heap.size rfl (.tmp 11) (.tmp 12) 25 5 (.int .u8 0) 1 rfl Try.underlying25 info5 rfl (by decide) (by omega) u3 x3_1 0 [.int .u8 0] (fun _ => True) (fun _ => False) rfl rfl ?aP (fun _ hk => hk.elim) ?aF ?aO ?aB ?aS ?aL ?_; (case aP => exact rfl); (case aB => exact (by repeat (first | (with_reducible first | exact HB.out | apply below_alloc | apply pw_below_drewN | apply below_drew1) | exact HB.out))); (case aF => exact (fun _ _ => trivial)); (case aO => exact (by (with_reducible repeat (first | apply Kd.R_alloc | apply Kd.R_drewN | apply Kd.R_drew)); exact HO_3.out)); (case aS => exact (below_size (by repeat (first | (with_reducible first | exact HB.out | apply below_alloc | apply pw_below_drewN | apply below_drew1) | exact HB.out)))); (case aL => have := LMc5.out; omega); intro v105 w6 ho hb hg hat; rw [← Ny104.out] at ho; have n0_ := Aside0.mk (hb); have n1_ := Aside0.mk (ho); clear HB; clear HO_3; have HB := n0_; have HO106 := n1_; clear n0_ n1_; clear ho hb hg hat))
          go_roundg k1
          case measure => have := HK1.out; omega
          case rel => exact ⟨(y104), (wrap64 (x4_1 + 1)), (by first | rfl | (simp; done) | (simp [*]; done)), H', ⟨by have := HK1.out; omega⟩, ⟨by (with_reducible repeat (first | apply Kd.R_alloc | apply Kd.R_drewN | apply Kd.R_drew)); exact HO106.out⟩, ⟨by repeat (first | (with_reducible first | exact HB.out | apply below_alloc | apply pw_below_drewN | apply below_drew1) | exact HB.out)⟩⟩
        · rw [if_neg c5] at H
          exact absurd H (by simp)
      · rw [if_neg c4] at H
        have c4b0 : decide (x4_1 < a0) = false := decide_eq_false c4
        clear c4
        obtain rfl := Option.some.inj H
        go_wp2
        go_ret
        exact ⟨_, by first | rfl | (simp [errW_none, errW_some] <;> rfl) | (simp [*, errW_none, errW_some] <;> rfl), by (with_reducible repeat (first | apply Kd.R_alloc | apply Kd.R_drewN | apply Kd.R_drew)); exact HO_3.out, by repeat (first | (with_reducible first | exact HB.out | apply below_alloc | apply pw_below_drewN | apply below_drew1) | exact HB.out)⟩

end Go.Proofs.Ytgfadfahbhcllaa.Q
namespace Go.Proofs.Ytgfadfahbhcllaa.P
open Go.RowKit Go.Proofs.YtgfadfahbhcllaaW.PrintWords Go.Proofs.YtgfadfahbhcllaaW.PrintMore Go.Proofs.Ytgfadfahbhcllaa.Q
set_option linter.unusedVariables false
set_option linter.unusedSimpArgs false
theorem four_is (x : Int) (h : 0 ≤ x ∧ x ≤ 4294967295) : spec_l2Four.f x = some (leB 4 x) := by
  unfold spec_l2Four.f
  show some _ = some [x / 2 ^ (8 * 0) % 256, x / 2 ^ (8 * 1) % 256, x / 2 ^ (8 * 2) % 256, x / 2 ^ (8 * 3) % 256]
  rw [Int.tmod_eq_emod_of_nonneg h.1, Int.tdiv_eq_ediv_of_nonneg h.1, Int.tdiv_eq_ediv_of_nonneg h.1, Int.tdiv_eq_ediv_of_nonneg h.1]
  congr 1
  simp only [List.cons.injEq, and_true]
  refine ⟨?_, ?_, ?_, ?_⟩
  · show x % 256 % 256 = x / 1 % 256; omega
  · show x / 256 % 4294967296 % 256 = x / 256 % 256; omega
  · show x / 65536 % 4294967296 % 256 = x / 65536 % 256; omega
  · show x / 16777216 % 4294967296 % 256 = x / 16777216 % 256; omega
theorem zeros_ev (n : Nat) (h : n ≤ 1048576) : Ev (fun k => spec_l1Zeros.f k n) (List.replicate n 0) := by
  simp only [spec_l1Zeros.f]
  have h1 := Ev.loop0 (fun k (s : List Int × Int) => spec_l1Zeros.l0 k n s.1 s.2) (fun i => (List.replicate i 0, (i : Int))) n (List.replicate n 0) ?_ ?_
  · exact h1
  · intro i hi
    refine ⟨0, fun k _ => ?_⟩
    simp only [spec_l1Zeros.l0]
    rw [if_pos (by omega), if_pos (by rw [List.length_replicate]; omega), w64s hi (by omega), List.replicate_succ']
  · refine Ev.last ⟨0, fun k _ => ?_⟩
    simp only [spec_l1Zeros.l0]
    rw [if_neg (by omega)]
theorem cat_ev (ls : List (List Int)) (hl : ls.length ≤ 1048576) (h : ls.flatten.length ≤ 1048576) : Ev (fun k => spec_l2Cat.f k ls) ls.flatten := by
  simp only [spec_l2Cat.f]
  have h1 := Ev.loop0 (fun k (s : List Int × Int) => spec_l2Cat.l0 k ls s.1 s.2) (fun i => ((ls.take i).flatten, (i : Int))) ls.length ls.flatten ?_ ?_
  · exact h1
  · intro i hi
    refine ⟨0, fun k _ => ?_⟩
    obtain ⟨p, hp⟩ := some_at hi
    have e : ls.getD (i : Int).toNat [] = p := by
      rw [Int.toNat_natCast, List.getD_eq_getElem?_getD, hp]
      rfl
    have e2 : (ls.take (i + 1)).flatten = (ls.take i).flatten ++ p := by
      rw [List.take_add_one, hp]
      simp
    have e3 : (ls.take (i + 1)).flatten.length ≤ ls.flatten.length := by
      conv => rhs; rw [← List.take_append_drop (i + 1) ls]
      rw [List.flatten_append, List.length_append]
      omega
    rw [e2, List.length_append] at e3
    simp only [spec_l2Cat.l0]
    first | unfold rd_L1 | unfold rd_L2 | unfold rd_L3 | unfold rd_L4 | unfold rd_L5 | unfold rd_L8 | unfold rd_L14
    rw [e, if_pos (by omega), if_pos (by omega), if_pos (by omega), w64s hi (by omega), e2]
  · refine Ev.last ⟨0, fun k _ => ?_⟩
    simp only [spec_l2Cat.l0]
    rw [if_neg (by omega), List.take_length]
end Go.Proofs.Ytgfadfahbhcllaa.P
namespace Go.Proofs.Ytgfadfahbhcllaa.Q
open Go.RowKit Go.Proofs.YtgfadfahbhcllaaW.PrintWords Go.Proofs.YtgfadfahbhcllaaW.PrintLast Go.Proofs.YtgfadfahbhcllaaW.PrintMore Go.Proofs.Ytgfadfahbhcllaa.LK
set_option linter.unusedVariables false
theorem C_cells {k : IntKind} {w w' : World} {A : Option Addr} {n : Nat} {xs : List Int} (h : Kd.C (Kd.int k) w A n xs) (hc : ∀ a v, w.cell? a = some v → w'.cell? a = some v) : Kd.C (Kd.int k) w' A n xs := by
  obtain ⟨h1, h2, h3⟩ := Kd.reads_of_C (enc := Value.int k) (d := (0 : Int)) (h1 := fun _ => rfl) h
  refine Kd.C_of_reads (h1 := fun _ => rfl) (d := (0 : Int)) ⟨h1, h2, fun hp => ?_⟩
  obtain ⟨ad, e, hj⟩ := h3 hp
  exact ⟨ad, e, fun j hjn => hc _ _ (hj j hjn)⟩
theorem cells_of_blocks {w w' : World} (hb : ∀ k, k < w.heap.size → w'.heap[k]? = w.heap[k]?) : ∀ a v, w.cell? a = some v → w'.cell? a = some v := fun a v h => by
  have hlt := World.block_lt_of_cell? w a h
  rw [World.cell?_of_block (hb _ hlt)]
  exact h
theorem cells_of_mark {w w' : World} {g : Nat} {cs : Array Value} {e : Nat} {fr fr' : Nat × Nat} (hS : Stp (fun k => k = g) w w') (h1 : w.heap[g]? = some (.cells cs e fr)) (h2 : w'.heap[g]? = some (.cells cs e fr')) : ∀ a v, w.cell? a = some v → w'.cell? a = some v := fun a v h => by
  have hlt := World.block_lt_of_cell? w a h
  by_cases hg : a.block = g
  · rw [← h]
    unfold World.cell?
    rw [hg, h1, h2]
  · rw [World.cell?_of_block (hS.block _ hlt hg)]
    exact h
/-- A row of bytes that is read. -/
def RdP (w : World) (v : Value) (xs : List Int) : Prop := ∃ A c, v = .slice A xs.length c ∧ xs.length ≤ c ∧ Kd.C (Kd.int .u8) w A xs.length xs
theorem RdP.cells {w w' : World} {v : Value} {xs : List Int} (h : RdP w v xs) (hc : ∀ a v, w.cell? a = some v → w'.cell? a = some v) : RdP w' v xs := by
  obtain ⟨A, c, e, hl, hC⟩ := h
  exact ⟨A, c, e, hl, C_cells hC hc⟩
theorem RdP.below {w w' : World} {v : Value} {xs : List Int} (h : RdP w v xs) (hb : Below w.heap.size w w') : RdP w' v xs := h.cells (cells_of_blocks (fun k hk => hb.block k hk))
theorem RdP.of_R {e base : Nat} {ok : Nat → Prop} {w : World} {v : Value} {xs : List Int} (h : Kd.R (Kd.int .u8) e w base ok v xs) : RdP w v xs := by
  obtain ⟨A, c, rfl⟩ := Kd.R_slice h
  have h2 := Kd.R_reads' h
  exact ⟨A, c, rfl, h2.2.1, h2.2.2⟩
theorem RdP.FK {w : World} {A : Option Addr} {c : Nat} {xs : List Int} (hl : xs.length ≤ c) (h : Kd.C (Kd.int .u8) w A xs.length xs) : Kd.FK (Kd.slice 5 (Kd.int .u8)) w (fun _ => True) xs [.slice A xs.length c] :=
  Kd.FK_slice_mk hl (fun W' hW => C_cells h (cells_of_blocks (fun k hk => hW k trivial hk)))
/-- A literal's row of bytes, marked or not. -/
def LitP (base : Nat) (w : World) (v : Value) (xs : List Int) : Prop := ∃ g c tl fr, v = .slice (some ⟨g, 0, none⟩) xs.length c ∧ xs.length ≤ c ∧ c ≤ 9223372036854775807 ∧ base ≤ g ∧ w.heap[g]? = some (.cells (bytesV xs ++ tl).toArray 5 fr)
theorem LitP.below {base : Nat} {w w' : World} {v : Value} {xs : List Int} (h : LitP base w v xs) (hb : Below w.heap.size w w') : LitP base w' v xs := by
  obtain ⟨g, c, tl, fr, e, hl, hm, hg, hh⟩ := h
  exact ⟨g, c, tl, fr, e, hl, hm, hg, (hb.block g (blk_lt hh)).trans hh⟩
theorem LitP.of_R {base base' : Nat} {ok : Nat → Prop} {w : World} {v : Value} {xs : List Int} (h : Kd.R (Kd.int .u8) 5 w base ok v xs) (hp : 0 < xs.length) (hb : base' ≤ base) : LitP base' w v xs := by
  obtain ⟨A, c, rfl⟩ := Kd.R_slice h
  obtain ⟨B, tl, rfl, _, e, h1, _, _, h2, h3⟩ := R_block h hp
  exact ⟨B, c, tl, _, rfl, by omega, h3, by omega, h2⟩
theorem LitP.rd {base : Nat} {w : World} {v : Value} {xs : List Int} (h : LitP base w v xs) : RdP w v xs := by
  obtain ⟨g, c, tl, fr, rfl, hl, hm, hg, hh⟩ := h
  refine ⟨_, c, rfl, hl, Kd.C_of_reads (h1 := fun _ => rfl) (d := (0 : Int)) ⟨rfl, by omega, fun _ => ⟨_, rfl, fun j hj => ?_⟩⟩⟩
  have hj' : j < xs.length := hj
  have e1 : (Addr.mk g 0 none).add j = ⟨g, j, none⟩ := by
    unfold Addr.add
    by_cases h0 : j = 0
    · rw [if_pos h0, h0]
    · rw [if_neg h0, Nat.zero_add]
  rw [e1, cell_of_row w g j _ _ _ hh]
  unfold bytesV
  simp [List.getD_eq_getElem?_getD, List.getElem?_append_left, hj']
theorem LitP.mark {base : Nat} {w w' : World} {v : Value} {xs : List Int} (h : LitP base w v xs) {g : Nat} {cs : Array Value} {e : Nat} {fr fr' : Nat × Nat} (hS : Stp (fun k => k = g) w w') (h1 : w.heap[g]? = some (.cells cs e fr)) (h2 : w'.heap[g]? = some (.cells cs e fr')) : LitP base w' v xs := by
  obtain ⟨g', c, tl, fr2, ev, hl, hm, hg, hh⟩ := h
  by_cases hgg : g' = g
  · subst hgg
    rw [h1] at hh
    injection hh with hh
    injection hh with e1 e2 e3
    subst e1 e2
    exact ⟨g', c, tl, fr', ev, hl, hm, hg, h2⟩
  · exact ⟨g', c, tl, fr2, ev, hl, hm, hg, (hS.block g' (blk_lt hh) hgg).trans hh⟩
/-- A conversion of a slice of bytes to its own type marks its row. -/
theorem conv_mark {P : Program} {t e : TypeId} (ht : P.underlying t = some (.slice e)) (he : P.underlying e = some (.int .u8)) {w : World} {g n c : Nat} {cs : Array Value} {q : Nat} {fr : Nat × Nat} (hg : w.heap[g]? = some (.cells cs q fr)) :
    ∃ w', (convert t t (.slice (some ⟨g, 0, none⟩) n c)).run P w = .ok (.slice (some ⟨g, 0, none⟩) n c) w' ∧ Stp (fun k => k = g) w w' ∧ ∃ fr', w'.heap[g]? = some (.cells cs q fr') := by
  have hsh : w.shape? g = some (q, cs.size) := by unfold World.shape?; rw [hg]
  refine ⟨w.freeze ⟨g, cs.size, none⟩ 1, ?_, ?_, ?_⟩
  · simp [convert, run_underlying ht, run_underlying he, markStringish, hsh]
  · unfold World.freeze
    rw [if_neg (by decide)]
    exact ⟨rfl, rfl, rfl, by simp, fun i _ hn => by show (w.heap.modify g _)[i]? = _; rw [Array.getElem?_modify, if_neg (fun h => hn h.symm)]⟩
  · unfold World.freeze
    rw [if_neg (by decide)]
    obtain ⟨lo, hi⟩ := fr
    refine ⟨if lo == hi then (cs.size, cs.size + 1) else (min lo cs.size, max hi (cs.size + 1)), ?_⟩
    show (w.heap.modify g _)[g]? = _
    rw [Array.getElem?_modify, if_pos rfl, hg]
    rfl
theorem Bx_mark {w0 W W' : World} {l : List (Nat × Array Value × Nat)} {g : Nat} {cs : Array Value} {e : Nat} {fr : Nat × Nat} (h : Bx w0 l W) (hS : Stp (fun k => k = g) W W') (hg : w0.heap.size ≤ g) (h1 : W.heap[g]? = some (.cells cs e fr)) (ht : ∀ b ∈ l, b.2.2 ≠ e) : Bx w0 l W' :=
  h.stp hS (fun k hk => by rw [hk]; exact hg) (fun b hb he => by
    have h2 := (h.at_ b hb).2
    have h3 : b.1 = g := he
    rw [h3, h1] at h2
    injection h2 with h2
    injection h2 with _ h2 _
    exact ht b hb h2.symm)
/-- A row of rows of bytes that is read. -/
def RowsP (w : World) (v : Value) (xss : List (List Int)) : Prop := ∃ A c, v = .slice A xss.length c ∧ xss.length ≤ c ∧ Kd.C (Kd.slice 5 (Kd.int .u8)) w A xss.length xss
theorem RowsP.below {w w' : World} {v : Value} {xss : List (List Int)} (h : RowsP w v xss) (hb : Below w.heap.size w w') : RowsP w' v xss := by
  obtain ⟨A, c, e, hl, hC⟩ := h
  exact ⟨A, c, e, hl, Kd.C_below hC hb⟩
theorem RowsP.of_N {e base : Nat} {ok : Nat → Prop} {w : World} {v : Value} {xss : List (List Int)} (h : Kd.N (Kd.slice 5 (Kd.int .u8)) e w base ok v xss) : RowsP w v xss := by
  obtain ⟨A, c, rfl⟩ := Kd.N_slice h
  have h2 := Kd.N_reads' h
  exact ⟨A, c, rfl, h2.2.1, h2.2.2⟩
end Go.Proofs.Ytgfadfahbhcllaa.Q
namespace Go.Proofs.Ytgfadfahbhcllaa.Q
open Go.RowKit Go.Proofs.YtgfadfahbhcllaaW.PrintWords Go.Proofs.YtgfadfahbhcllaaW.PrintLast Go.Proofs.YtgfadfahbhcllaaW.PrintMore Go.Proofs.Ytgfadfahbhcllaa.LK
set_option linter.unusedVariables false
set_option linter.unusedSimpArgs false
def specS_T4 : Bool × List (List Nat × List Nat) := (true, [([], []), ([], []), ([1], [1]), ([], []), ([3], [3]), ([4], [4]), ([5], [5]), ([6], [6]), ([], []), ([8], [8]), ([9], [9]), ([], []), ([11], [11]), ([12, 10], [12]), ([], []), ([14], [14]), ([15, 13], [15]), ([], []), ([0, 2, 7, 10, 13, 16, 17], [0, 2, 7, 10, 13, 16, 17]), ([18, 16], [18]), ([19, 19, 0, 1, 2, 3, 4, 5, 6, 7, 8, 9, 10, 11, 12, 13, 14, 15, 16, 17, 18, 19], [19])])
def specS_B4 : List Nat := [0, 0, 2, 0, 8, 24, 56, 120, 0, 256, 768, 0, 2048, 7936, 0, 16384, 65280, 0, 262143, 524287, 1048575]
theorem specS_tab4 : rtab .any (opsOf Try.f25 4) = specS_T4 := by kernel_rfl
theorem specS_bits4 : waitsOk specS_T4.2 specS_B4 = true := by kernel_rfl
section
variable {P : Program} {ops : Array Oper} {rest : List Oper} {o : Oper} {a : Act} {Q : Exit → Act → World → Prop} {W W' : World}
theorem valW (hw : Region.wanted o (yielded ops a.tmps) = true) {v : Value} (hrun : (execOp a.eval o).run P W = .ok (.value v) W') (h : wpList P ops Q rest (a.put o.dst v) W') : wpList P ops Q (o :: rest) a W := by
  refine wants hw fun K hK => ?_
  unfold Oper.wp
  rw [hrun]
  exact hK _ _ h
end
def spec_EncodeSnap.f (k : Nat) (a0_0 : Int) (a0_1 : Int) (l0_2 : List Int) (l0_3 : List Int) : Option (List Int) := if P.snapSz a0_0 a0_1 l0_2 l0_3 then some (encS a0_0 a0_1 l0_2 l0_3) else none
theorem spec_EncodeSnap.mono : ∀ a0 a1 a2 a3 k, LeO (spec_EncodeSnap.f k a0 a1 a2 a3) (spec_EncodeSnap.f (k + 1) a0 a1 a2 a3) := fun _ _ _ _ _ => LeO.refl _
set_option maxHeartbeats 8000000 in
set_option maxRecDepth 100000 in
theorem specSnap_raw {A0 : Option Addr} {c0 : Nat} {xs : List Int} {A1 : Option Addr} {c1 : Nat} {u : List Int} {g t n c : Int} {kg kb kd0 kd8 kz k1 k2 k3 k4 kc : Nat} {one two body r : List Int} {w : World} (hr0 : Kd.C (Kd.int .i64) w A0 xs.length xs) (hc0 : xs.length ≤ c0) (hr1 : Kd.C (Kd.int .i64) w A1 u.length u) (hc1 : u.length ≤ c1)
    (hg : 0 ≤ g ∧ g ≤ 4294967295) (ht : 0 ≤ t ∧ t ≤ 4294967295) (hn : n = (xs.length : Int) % 256) (hgd : spec_l6GoodSnap.f kg g t xs u = some true) (hkb : spec_l6Bits.f kb u = some (P.bitsL u)) (hd0 : spec_l6Denied.f kd0 xs 0 8 = some (P.denL xs xs.length 0)) (hd8 : spec_l6Denied.f kd8 xs 8 16 = some (P.denL xs xs.length 8))
    (hz : spec_l1Zeros.f kz 32 = some (List.replicate 32 0)) (h1 : spec_l2Cat.f k1 [P.leB 4 g, [83, 49], [n, 0], P.leB 4 t, P.bitsL u, P.denL xs xs.length 0, P.leB 4 g] = some one) (h2 : spec_l2Cat.f k2 [P.leB 4 g, [83, 50], [0, 0], P.denL xs xs.length 8, List.replicate 32 0] = some two)
    (h3 : spec_l2Cat.f k3 [one, two] = some body) (hcr : spec_Crc32.f kc body = some c) (hcc : 0 ≤ c ∧ c ≤ 4294967295) (h4 : spec_l2Cat.f k4 [body, P.leB 4 c, P.leB 4 g] = some r) :
    Calls Try.prog 25 #[.agg #[.int .u32 g, .int .u32 t, .slice A0 xs.length c0, .slice A1 u.length c1]] w fun e w' => ∃ v0_ : Value, e = .returned (v0_) ∧ Kd.R (Kd.int .u8) 5 w' w.heap.size (fun _ => True) v0_ r ∧ Below w.heap.size w w' := by
  have jn : IntKind.u8.wrap (xs.length : Int) = n := by rw [hn, IntKind.wrap_u8]
  have HR0 := Aside0.mk hr0
  have HC0 := Aside0.mk hc0
  have HR1 := Aside0.mk hr1
  have HC1 := Aside0.mk hc1
  have HG := Aside0.mk hg
  have HT := Aside0.mk ht
  have HGd := Aside0.mk hgd
  have HKB := Aside0.mk hkb
  have HD0 := Aside0.mk hd0
  have HD8 := Aside0.mk hd8
  have HZ := Aside0.mk hz
  have E1 := Aside0.mk h1
  have E2 := Aside0.mk h2
  have E3 := Aside0.mk h3
  have E4 := Aside0.mk h4
  have HCR := Aside0.mk hcr
  have HCC := Aside0.mk hcc
  have H0 := Aside0.mk (Bx.refl w)
  clear hr0 hc0 hr1 hc1 hg ht hn hgd hkb hd0 hd8 hz h1 h2 h3 h4 hcr hcc
  go_enter Try.func25, Try.ntmps25
  go_wp2_with (first | ((with_reducible refine gate_dst (N := 1) rfl ?_); refine Aside0.out ?_))
  refine Aside0.mk ?_
  refine mk ?hw1 (N := 1) ?hd1 (cs := #[.int .u32 g, .int .u32 t, .slice A0 xs.length c0, .slice A1 u.length c1]) (t := 44) ?hr1 ?_
  case hd1 => rfl
  case hw1 => rfl
  case hr1 => first | (go_simp; done) | (go_simp; rfl)
  intro g1 hg1_ w101 hb1 hB1
  have H102 := Aside0.mk (H0.out.new hg1_ hb1 hB1)
  clear hg1_ hb1 hB1 H0
  go_wp2_with (first | ((with_reducible refine gate_dst (N := 7) rfl ?_); refine Aside0.out ?_))
  refine Aside0.mk ?_
  refine ld ?hw3 rfl ?hx3 H102.out.gt0 Try.underlying44 rfl (by kernel_rfl) ?_
  case hw3 => rfl
  case hx3 => rfl
  go_wp2_with (first | ((with_reducible refine gate_callee (f := 63) rfl ?_); refine Aside0.out ?_))
  refine Aside0.mk ?_
  refine goesW (some 8) rfl ?hw4 Try.func63 (by kernel_rfl) rfl #[.agg #[.int .u32 g, .int .u32 t, .slice A0 xs.length c0, .slice A1 u.length c1]] rfl (by (try simp only [List.map_toArray, List.map_cons, List.map_nil]); first | done | rfl) ?_
  case hw4 => rfl
  refine (spec_l6GoodSnap.calls kg g t _ _ xs _ _ u _ _ (Kd.C_below HR0.out H102.out.below) HC0.out (Kd.C_below HR1.out H102.out.below) HC1.out HGd.out).mono ?_
  rintro e w104 ⟨rfl, hb_⟩
  refine ⟨_, rfl, ?_⟩
  have H105 := Aside0.mk (H102.out.step hb_)
  clear hb_ H102
  have hk0 : w104.cell? ⟨g1, 0, none⟩ = some (.int .u32 g) := (blk_cell H105.out.gt0 0).trans rfl
  go_wp2_with (first | ((with_reducible refine gate_callee (f := 48) rfl ?_); refine Aside0.out ?_))
  refine Aside0.mk ?_
  refine goesW (some 13) rfl ?hw6 Try.func48 (by kernel_rfl) rfl #[.int .u32 g] rfl (by (try simp only [List.map_toArray, List.map_cons, List.map_nil]); first | done | rfl) ?_
  case hw6 => rfl
  refine (spec_l2Four.calls g (P.leB 4 g) _ (P.four_is g HG.out)).mono ?_
  rintro e w106 ⟨v_, rfl, ho, hb_⟩
  refine ⟨_, rfl, ?_⟩
  have H107 := Aside0.mk (H105.out.step hb_)
  clear hb_ H105
  obtain ⟨A13, c13, e13, hl13, hC13⟩ := RdP.of_R ho
  subst e13
  have HL13 := Aside0.mk hl13
  have FC13 := Aside0.mk hC13
  clear hl13 hC13 ho
  clear hk0
  try go_wp2
  have Wa := Aside0.mk H107.out.below
  have Ba := Aside0.mk H107.out.gt0
  have Na := Aside0.mk (Bx.refl w106)
  clear H107
  have H109 := Aside0.mk Na.out.drew
  refine start_ (n := 21) (S := fun w' => True) (ds := []) #[false, false, false, false, false, false, false, false, false, false, false, false, false, false, false, false, false, false, false, false, false] (by kernel_rfl) rfl rfl trivial (fun hHeld => ?_)
  clear Na
  generalize w106.drew = w108 at H109 hHeld ⊢
  refine with_tabW specS_tab4 specS_bits4 (fun HT_ HW_ => ?_)
  refine pure_ (i := 0) (N := some 14) (v := ?_) (a' := ?_) #[true, false, false, false, false, false, false, false, false, false, false, false, false, false, false, false, false, false, false, false, false] rfl rfl (any_of HT_.out (by kernel_rfl)) (fun _ _ _ h => h) (Or.inl ⟨by rfl, ?_⟩) ?_ ?_
  rotate_left
  · intro w'
    go_simp
    with_reducible rfl
  rotate_left
  · simp only [Act.put, List.setIfInBounds_toArray, List.set_cons_zero, List.set_cons_succ, i64_w, i32_w]
    rfl
  refine pure_ (i := 3) (N := some 17) (v := ?_) (a' := ?_) #[true, false, false, true, false, false, false, false, false, false, false, false, false, false, false, false, false, false, false, false, false] rfl rfl (any_of HT_.out (by kernel_rfl)) (fun _ _ _ h => h) (Or.inl ⟨by rfl, ?_⟩) ?_ ?_
  rotate_left
  · intro w'
    go_simp
    with_reducible rfl
  rotate_left
  · simp only [Act.put, List.setIfInBounds_toArray, List.set_cons_zero, List.set_cons_succ, i64_w, i32_w]
    rfl
  refine pure_ (i := 8) (N := some 22) (v := ?_) (a' := ?_) #[true, false, false, true, false, false, false, false, true, false, false, false, false, false, false, false, false, false, false, false, false] rfl rfl (any_of HT_.out (by kernel_rfl)) (fun _ _ _ h => h) (Or.inl ⟨by rfl, ?_⟩) ?_ ?_
  rotate_left
  · intro w'
    go_simp
    with_reducible rfl
  rotate_left
  · simp only [Act.put, List.setIfInBounds_toArray, List.set_cons_zero, List.set_cons_succ, i64_w, i32_w]
    rfl
  refine pure_ (i := 11) (N := some 25) (v := ?_) (a' := ?_) #[true, false, false, true, false, false, false, false, true, false, false, true, false, false, false, false, false, false, false, false, false] rfl rfl (any_of HT_.out (by kernel_rfl)) (fun _ _ _ h => h) (Or.inl ⟨by rfl, ?_⟩) ?_ ?_
  rotate_left
  · intro w'
    go_simp
    with_reducible rfl
  rotate_left
  · simp only [Act.put, List.setIfInBounds_toArray, List.set_cons_zero, List.set_cons_succ, i64_w, i32_w]
    rfl
  refine pure_ (i := 14) (N := some 28) (v := ?_) (a' := ?_) #[true, false, false, true, false, false, false, false, true, false, false, true, false, false, true, false, false, false, false, false, false] rfl rfl (any_of HT_.out (by kernel_rfl)) (fun _ _ _ h => h) (Or.inl ⟨by rfl, ?_⟩) ?_ ?_
  rotate_left
  · intro w'
    go_simp
    with_reducible rfl
  rotate_left
  · simp only [Act.put, List.setIfInBounds_toArray, List.set_cons_zero, List.set_cons_succ, i64_w, i32_w]
    rfl
  refine pure_ (i := 17) (N := some 31) (v := ?_) (a' := ?_) #[true, false, false, true, false, false, false, false, true, false, false, true, false, false, true, false, false, true, false, false, false] rfl rfl (any_of HT_.out (by kernel_rfl)) (fun _ _ _ h => h) (Or.inl ⟨by rfl, ?_⟩) ?_ ?_
  rotate_left
  · intro w'
    go_simp
    with_reducible rfl
  rotate_left
  · simp only [Act.put, List.setIfInBounds_toArray, List.set_cons_zero, List.set_cons_succ, i64_w, i32_w]
    rfl
  refine inv_at [1, 2, 4, 5, 6, 7, 9, 10, 12, 13, 15, 16, 18, 19, 20] (fun a0_ b_ a_ w' => ∃ (v1 : Value) (m2 : Value) (v7 : Value) (v10 : Value) (v13 : Value) (v16 : Value) (v18 : Value) (v19 : Value) (m20 : Value), a_ = putSel a0_ b_ [(1, 15, v1), (2, 16, m2), (4, 18, .slice A0 xs.length c0), (5, 19, .int .i64 (xs.length : Int)), (6, 20, .int .u8 n), (7, 21, v7), (9, 23, .int .u32 t), (10, 24, v10), (12, 26, .slice A1 u.length c1), (13, 27, v13), (15, 29, .slice A0 xs.length c0), (16, 30, v16), (18, 32, v18), (19, 33, v19), (20, 4, m20)] ∧ Bx w106 [] w' ∧ (b_ 1 = true → LitP w106.heap.size w' v1 [83, 49]) ∧ (b_ 2 = true → m2 = v1 ∧ RdP w' m2 [83, 49]) ∧ (b_ 7 = true → RdP w' v7 [n, 0]) ∧ (b_ 10 = true → RdP w' v10 (P.leB 4 t)) ∧ (b_ 13 = true → RdP w' v13 (P.bitsL u)) ∧ (b_ 16 = true → RdP w' v16 (P.denL xs xs.length 0)) ∧ (b_ 18 = true → RowsP w' v18 [(P.leB 4 g), [83, 49], [n, 0], P.leB 4 t, P.bitsL u, P.denL xs xs.length 0, (P.leB 4 g)]) ∧ (b_ 19 = true → RdP w' v19 one) ∧ (b_ 20 = true → m20 = v19)) HT_.out HW_.out (by kernel_rfl) (by kernel_rfl) ?_ ?_ ?_
  · exact ⟨.bool false, .bool false, .bool false, .bool false, .bool false, .bool false, .bool false, .bool false, .bool false, by simp only [putSel, Bool.false_eq_true, if_false], H109.out, fun h_ => absurd h_ (by decide), fun h_ => absurd h_ (by decide), fun h_ => absurd h_ (by decide), fun h_ => absurd h_ (by decide), fun h_ => absurd h_ (by decide), fun h_ => absurd h_ (by decide), fun h_ => absurd h_ (by decide), fun h_ => absurd h_ (by decide), fun h_ => absurd h_ (by decide)⟩
  · skip
    clear H109
    refine steps_cons ?_ ?_
    · rintro b_ a_ w' ⟨v1, m2, v7, v10, v13, v16, v18, v19, m20, ha, QX, Q1, Q2, Q7, Q10, Q13, Q16, Q18, Q19, Q20⟩ hbo_ hon hoff
      refine ⟨_, rfl, fun K hK => ?_⟩
      replace ha := Aside0.mk ha
      have HX := Aside0.mk QX
      clear QX
      refine Kd.R_lit_step (Kd.int .u8) _ 5 ?hg (N := 15) ?hd (xs := ([83, 49] : List Int)) (inner := [.int .u8 83, .int .u8 49]) (ok := fun _ => True) (okp := fun _ => True) ?hr ?hp (fun _ hk => hk) trivial (Below.refl _ _) (Nat.le_refl _) (by simp) ?_; (case hd => rfl); (case hg => rfl); (case hr => first | (go_simp; done) | (go_simp; rfl)); (case hp => exact (Reps.one (show Kd.M (Kd.int .u8) _ _ _ _ [_] from rfl) (Reps.one (show Kd.M (Kd.int .u8) _ _ _ _ [_] from rfl) (Reps.none _ _))))
      intro vn_ w2_ ho hb_ hg_ hnew_
      clear hg_ hnew_
      have HBW := Aside0.mk HX.out.below.size
      replace HX := Aside0.mk (HX.out.step hb_)
      refine hK.out _ _ ⟨vn_, m2, v7, v10, v13, v16, v18, v19, m20, (by rw [ha.out]; exact putSel_upk 0 hbo_ rfl rfl rfl), HX.out, fun _ => LitP.of_R ho (by decide) HBW.out, fun h0_ => absurd ((hoff 2 (by kernel_rfl)).symm.trans h0_) (by decide), fun h0_ => (Q7 h0_).below hb_, fun h0_ => (Q10 h0_).below hb_, fun h0_ => (Q13 h0_).below hb_, fun h0_ => (Q16 h0_).below hb_, fun h0_ => absurd ((hoff 18 (by kernel_rfl)).symm.trans h0_) (by decide), fun h0_ => absurd ((hoff 19 (by kernel_rfl)).symm.trans h0_) (by decide), fun h0_ => absurd ((hoff 20 (by kernel_rfl)).symm.trans h0_) (by decide)⟩
    refine steps_cons ?_ ?_
    · rintro b_ a_ w' ⟨v1, m2, v7, v10, v13, v16, v18, v19, m20, ha, QX, Q1, Q2, Q7, Q10, Q13, Q16, Q18, Q19, Q20⟩ hbo_ hon hoff
      refine ⟨_, rfl, fun K hK => ?_⟩
      have e15 : a_.tmps[15]? = some (v1) := by rw [ha]; exact putSel_on (e := (1, 15, v1)) 0 rfl rfl (hon 1 (by kernel_rfl)) rfl
      replace ha := Aside0.mk ha
      have HX := Aside0.mk QX
      clear QX
      obtain ⟨g_, c_, tl_, fr_, ev_, hl_, hm_, hg_, hh_⟩ := Q1 (hon 1 (by kernel_rfl))
      obtain ⟨w2_, hrun_, hS_, fr2_, hh2_⟩ := conv_mark (P := Try.prog) (t := 25) (n := 2) (c := c_) Try.underlying25 Try.underlying5 hh_
      rw [ev_] at e15
      refine value_ (w1 := w2_) (v := v1) (by rfl) rfl ?_ ?_
      · rw [ev_]
        go_simp
        try (first | exact hrun_ | (rw [hrun_]; rfl) | rfl)
      replace HX := Aside0.mk (Bx_mark HX.out hS_ hg_ hh_ (by intro b hb; simp only [List.mem_cons, List.not_mem_nil, or_false] at hb))
      refine hK.out _ _ ⟨v1, v1, v7, v10, v13, v16, v18, v19, m20, (by rw [ha.out]; exact putSel_upk 1 hbo_ rfl rfl rfl), HX.out, fun h0_ => LitP.mark (Q1 h0_) hS_ hh_ hh2_, fun _ => ⟨rfl, (LitP.mark (Q1 (hon 1 (by kernel_rfl))) hS_ hh_ hh2_).rd⟩, fun h0_ => (Q7 h0_).cells (cells_of_mark hS_ hh_ hh2_), fun h0_ => (Q10 h0_).cells (cells_of_mark hS_ hh_ hh2_), fun h0_ => (Q13 h0_).cells (cells_of_mark hS_ hh_ hh2_), fun h0_ => (Q16 h0_).cells (cells_of_mark hS_ hh_ hh2_), fun h0_ => absurd ((hoff 18 (by kernel_rfl)).symm.trans h0_) (by decide), fun h0_ => absurd ((hoff 19 (by kernel_rfl)).symm.trans h0_) (by decide), fun h0_ => absurd ((hoff 20 (by kernel_rfl)).symm.trans h0_) (by decide)⟩
    refine steps_cons ?_ ?_
    · rintro b_ a_ w' ⟨v1, m2, v7, v10, v13, v16, v18, v19, m20, ha, QX, Q1, Q2, Q7, Q10, Q13, Q16, Q18, Q19, Q20⟩ hbo_ hon hoff
      refine ⟨_, rfl, fun K hK => ?_⟩
      have e17 : a_.tmps[17]? = some (.pointer (some ⟨g1, 2, none⟩)) := by rw [ha]; exact (putSel_off rfl).trans rfl
      replace ha := Aside0.mk ha
      have HX := Aside0.mk QX
      clear QX
      have hc_ : w'.cell? ⟨g1, 2, none⟩ = some (.slice A0 xs.length c0) := pw_cell_below HX.out.below ((blk_cell Ba.out 2).trans rfl)
      refine value_ (w1 := w') (v := .slice A0 xs.length c0) (by rfl) rfl ?_ ?_
      · go_simp
        (try simp only [i64_w])
        try rfl
      refine hK.out _ _ ⟨v1, m2, v7, v10, v13, v16, v18, v19, m20, (by rw [ha.out]; exact putSel_upk 2 hbo_ rfl rfl rfl), HX.out, Q1, Q2, fun h0_ => absurd ((hoff 7 (by kernel_rfl)).symm.trans h0_) (by decide), Q10, Q13, Q16, fun h0_ => absurd ((hoff 18 (by kernel_rfl)).symm.trans h0_) (by decide), fun h0_ => absurd ((hoff 19 (by kernel_rfl)).symm.trans h0_) (by decide), fun h0_ => absurd ((hoff 20 (by kernel_rfl)).symm.trans h0_) (by decide)⟩
    refine steps_cons ?_ ?_
    · rintro b_ a_ w' ⟨v1, m2, v7, v10, v13, v16, v18, v19, m20, ha, QX, Q1, Q2, Q7, Q10, Q13, Q16, Q18, Q19, Q20⟩ hbo_ hon hoff
      refine ⟨_, rfl, fun K hK => ?_⟩
      have e18 : a_.tmps[18]? = some (.slice A0 xs.length c0) := by rw [ha]; exact putSel_on (e := (4, 18, .slice A0 xs.length c0)) 2 rfl rfl (hon 4 (by kernel_rfl)) rfl
      replace ha := Aside0.mk ha
      have HX := Aside0.mk QX
      clear QX
      refine value_ (w1 := w') (v := .int .i64 (xs.length : Int)) (by rfl) rfl ?_ ?_
      · go_simp
        (try simp only [i64_w])
        try rfl
      refine hK.out _ _ ⟨v1, m2, v7, v10, v13, v16, v18, v19, m20, (by rw [ha.out]; exact putSel_upk 3 hbo_ rfl rfl rfl), HX.out, Q1, Q2, fun h0_ => absurd ((hoff 7 (by kernel_rfl)).symm.trans h0_) (by decide), Q10, Q13, Q16, fun h0_ => absurd ((hoff 18 (by kernel_rfl)).symm.trans h0_) (by decide), fun h0_ => absurd ((hoff 19 (by kernel_rfl)).symm.trans h0_) (by decide), fun h0_ => absurd ((hoff 20 (by kernel_rfl)).symm.trans h0_) (by decide)⟩
    refine steps_cons ?_ ?_
    · rintro b_ a_ w' ⟨v1, m2, v7, v10, v13, v16, v18, v19, m20, ha, QX, Q1, Q2, Q7, Q10, Q13, Q16, Q18, Q19, Q20⟩ hbo_ hon hoff
      refine ⟨_, rfl, fun K hK => ?_⟩
      have e19 : a_.tmps[19]? = some (.int .i64 (xs.length : Int)) := by rw [ha]; exact putSel_on (e := (5, 19, .int .i64 (xs.length : Int))) 3 rfl rfl (hon 5 (by kernel_rfl)) rfl
      replace ha := Aside0.mk ha
      have HX := Aside0.mk QX
      clear QX
      refine value_ (w1 := w') (v := .int .u8 n) (by rfl) rfl ?_ ?_
      · go_simp
        (try simp only [i64_w])
        try rfl
      refine hK.out _ _ ⟨v1, m2, v7, v10, v13, v16, v18, v19, m20, (by rw [ha.out]; exact putSel_upk 4 hbo_ rfl rfl rfl), HX.out, Q1, Q2, fun h0_ => absurd ((hoff 7 (by kernel_rfl)).symm.trans h0_) (by decide), Q10, Q13, Q16, fun h0_ => absurd ((hoff 18 (by kernel_rfl)).symm.trans h0_) (by decide), fun h0_ => absurd ((hoff 19 (by kernel_rfl)).symm.trans h0_) (by decide), fun h0_ => absurd ((hoff 20 (by kernel_rfl)).symm.trans h0_) (by decide)⟩
    refine steps_cons ?_ ?_
    · rintro b_ a_ w' ⟨v1, m2, v7, v10, v13, v16, v18, v19, m20, ha, QX, Q1, Q2, Q7, Q10, Q13, Q16, Q18, Q19, Q20⟩ hbo_ hon hoff
      refine ⟨_, rfl, fun K hK => ?_⟩
      have e20 : a_.tmps[20]? = some (.int .u8 n) := by rw [ha]; exact putSel_on (e := (6, 20, .int .u8 n)) 4 rfl rfl (hon 6 (by kernel_rfl)) rfl
      replace ha := Aside0.mk ha
      have HX := Aside0.mk QX
      clear QX
      refine Kd.R_lit_step (Kd.int .u8) _ 5 ?hg (N := 21) ?hd (xs := ([n, 0] : List Int)) (inner := [.int .u8 n, .int .u8 0]) (ok := fun _ => True) (okp := fun _ => True) ?hr ?hp (fun _ hk => hk) trivial (Below.refl _ _) (Nat.le_refl _) (by simp) ?_; (case hd => rfl); (case hg => rfl); (case hr => first | (go_simp; done) | (go_simp; rfl)); (case hp => exact (Reps.one (show Kd.M (Kd.int .u8) _ _ _ _ [_] from rfl) (Reps.one (show Kd.M (Kd.int .u8) _ _ _ _ [_] from rfl) (Reps.none _ _))))
      intro vn_ w2_ ho hb_ hg_ hnew_
      clear hg_ hnew_
      have HBW := Aside0.mk HX.out.below.size
      replace HX := Aside0.mk (HX.out.step hb_)
      refine hK.out _ _ ⟨v1, m2, vn_, v10, v13, v16, v18, v19, m20, (by rw [ha.out]; exact putSel_upk 5 hbo_ rfl rfl rfl), HX.out, fun h0_ => (Q1 h0_).below hb_, fun h0_ => ⟨(Q2 h0_).1, (Q2 h0_).2.below hb_⟩, fun _ => RdP.of_R ho, fun h0_ => (Q10 h0_).below hb_, fun h0_ => (Q13 h0_).below hb_, fun h0_ => (Q16 h0_).below hb_, fun h0_ => absurd ((hoff 18 (by kernel_rfl)).symm.trans h0_) (by decide), fun h0_ => absurd ((hoff 19 (by kernel_rfl)).symm.trans h0_) (by decide), fun h0_ => absurd ((hoff 20 (by kernel_rfl)).symm.trans h0_) (by decide)⟩
    refine steps_cons ?_ ?_
    · rintro b_ a_ w' ⟨v1, m2, v7, v10, v13, v16, v18, v19, m20, ha, QX, Q1, Q2, Q7, Q10, Q13, Q16, Q18, Q19, Q20⟩ hbo_ hon hoff
      refine ⟨_, rfl, fun K hK => ?_⟩
      have e22 : a_.tmps[22]? = some (.pointer (some ⟨g1, 1, none⟩)) := by rw [ha]; exact (putSel_off rfl).trans rfl
      replace ha := Aside0.mk ha
      have HX := Aside0.mk QX
      clear QX
      have hc_ : w'.cell? ⟨g1, 1, none⟩ = some (.int .u32 t) := pw_cell_below HX.out.below ((blk_cell Ba.out 1).trans rfl)
      refine value_ (w1 := w') (v := .int .u32 t) (by rfl) rfl ?_ ?_
      · go_simp
        (try simp only [i64_w])
        try rfl
      refine hK.out _ _ ⟨v1, m2, v7, v10, v13, v16, v18, v19, m20, (by rw [ha.out]; exact putSel_upk 6 hbo_ rfl rfl rfl), HX.out, Q1, Q2, Q7, fun h0_ => absurd ((hoff 10 (by kernel_rfl)).symm.trans h0_) (by decide), fun h0_ => absurd ((hoff 13 (by kernel_rfl)).symm.trans h0_) (by decide), fun h0_ => absurd ((hoff 16 (by kernel_rfl)).symm.trans h0_) (by decide), fun h0_ => absurd ((hoff 18 (by kernel_rfl)).symm.trans h0_) (by decide), fun h0_ => absurd ((hoff 19 (by kernel_rfl)).symm.trans h0_) (by decide), fun h0_ => absurd ((hoff 20 (by kernel_rfl)).symm.trans h0_) (by decide)⟩
    refine steps_cons ?_ ?_
    · rintro b_ a_ w' ⟨v1, m2, v7, v10, v13, v16, v18, v19, m20, ha, QX, Q1, Q2, Q7, Q10, Q13, Q16, Q18, Q19, Q20⟩ hbo_ hon hoff
      refine ⟨_, rfl, fun K hK => ?_⟩
      have e23 : a_.tmps[23]? = some (.int .u32 t) := by rw [ha]; exact putSel_on (e := (9, 23, .int .u32 t)) 6 rfl rfl (hon 9 (by kernel_rfl)) rfl
      replace ha := Aside0.mk ha
      have HX := Aside0.mk QX
      clear QX
      refine goes_ Try.func48 (by kernel_rfl) rfl #[.int .u32 t] (by rfl) rfl rfl (by first | (simp only [List.map_toArray, List.map_cons, List.map_nil, Act.eval, Array.getD_eq_getD_getElem?, Option.getD_some, e23]; done) | (simp only [List.map_toArray, List.map_cons, List.map_nil, Act.eval, Array.getD_eq_getD_getElem?, Option.getD_some, e23]; rfl)) ?_
      refine (spec_l2Four.calls t (P.leB 4 t) _ (P.four_is t HT.out)).mono ?_
      rintro e w2_ ⟨vn_, rfl, ho, hb_⟩
      refine ⟨_, rfl, ?_⟩
      replace HX := Aside0.mk (HX.out.step hb_)
      refine hK.out _ _ ⟨v1, m2, v7, vn_, v13, v16, v18, v19, m20, (by rw [ha.out]; exact putSel_upk 7 hbo_ rfl rfl rfl), HX.out, fun h0_ => (Q1 h0_).below hb_, fun h0_ => ⟨(Q2 h0_).1, (Q2 h0_).2.below hb_⟩, fun h0_ => (Q7 h0_).below hb_, fun _ => RdP.of_R ho, fun h0_ => absurd ((hoff 13 (by kernel_rfl)).symm.trans h0_) (by decide), fun h0_ => absurd ((hoff 16 (by kernel_rfl)).symm.trans h0_) (by decide), fun h0_ => absurd ((hoff 18 (by kernel_rfl)).symm.trans h0_) (by decide), fun h0_ => absurd ((hoff 19 (by kernel_rfl)).symm.trans h0_) (by decide), fun h0_ => absurd ((hoff 20 (by kernel_rfl)).symm.trans h0_) (by decide)⟩
    refine steps_cons ?_ ?_
    · rintro b_ a_ w' ⟨v1, m2, v7, v10, v13, v16, v18, v19, m20, ha, QX, Q1, Q2, Q7, Q10, Q13, Q16, Q18, Q19, Q20⟩ hbo_ hon hoff
      refine ⟨_, rfl, fun K hK => ?_⟩
      have e25 : a_.tmps[25]? = some (.pointer (some ⟨g1, 3, none⟩)) := by rw [ha]; exact (putSel_off rfl).trans rfl
      replace ha := Aside0.mk ha
      have HX := Aside0.mk QX
      clear QX
      have hc_ : w'.cell? ⟨g1, 3, none⟩ = some (.slice A1 u.length c1) := pw_cell_below HX.out.below ((blk_cell Ba.out 3).trans rfl)
      refine value_ (w1 := w') (v := .slice A1 u.length c1) (by rfl) rfl ?_ ?_
      · go_simp
        (try simp only [i64_w])
        try rfl
      refine hK.out _ _ ⟨v1, m2, v7, v10, v13, v16, v18, v19, m20, (by rw [ha.out]; exact putSel_upk 8 hbo_ rfl rfl rfl), HX.out, Q1, Q2, Q7, Q10, fun h0_ => absurd ((hoff 13 (by kernel_rfl)).symm.trans h0_) (by decide), fun h0_ => absurd ((hoff 16 (by kernel_rfl)).symm.trans h0_) (by decide), fun h0_ => absurd ((hoff 18 (by kernel_rfl)).symm.trans h0_) (by decide), fun h0_ => absurd ((hoff 19 (by kernel_rfl)).symm.trans h0_) (by decide), fun h0_ => absurd ((hoff 20 (by kernel_rfl)).symm.trans h0_) (by decide)⟩
    refine steps_cons ?_ ?_
    · rintro b_ a_ w' ⟨v1, m2, v7, v10, v13, v16, v18, v19, m20, ha, QX, Q1, Q2, Q7, Q10, Q13, Q16, Q18, Q19, Q20⟩ hbo_ hon hoff
      refine ⟨_, rfl, fun K hK => ?_⟩
      have e26 : a_.tmps[26]? = some (.slice A1 u.length c1) := by rw [ha]; exact putSel_on (e := (12, 26, .slice A1 u.length c1)) 8 rfl rfl (hon 12 (by kernel_rfl)) rfl
      replace ha := Aside0.mk ha
      have HX := Aside0.mk QX
      clear QX
      refine goes_ Try.func64 (by kernel_rfl) rfl #[.slice A1 u.length c1] (by rfl) rfl rfl (by first | (simp only [List.map_toArray, List.map_cons, List.map_nil, Act.eval, Array.getD_eq_getD_getElem?, Option.getD_some, e26]; done) | (simp only [List.map_toArray, List.map_cons, List.map_nil, Act.eval, Array.getD_eq_getD_getElem?, Option.getD_some, e26]; rfl)) ?_
      refine (spec_l6Bits.calls kb _ c1 u (P.bitsL u) _ (Kd.C_below HR1.out (below_step Wa.out HX.out.below)) HC1.out HKB.out).mono ?_
      rintro e w2_ ⟨vn_, rfl, ho, hb_⟩
      refine ⟨_, rfl, ?_⟩
      replace HX := Aside0.mk (HX.out.step hb_)
      refine hK.out _ _ ⟨v1, m2, v7, v10, vn_, v16, v18, v19, m20, (by rw [ha.out]; exact putSel_upk 9 hbo_ rfl rfl rfl), HX.out, fun h0_ => (Q1 h0_).below hb_, fun h0_ => ⟨(Q2 h0_).1, (Q2 h0_).2.below hb_⟩, fun h0_ => (Q7 h0_).below hb_, fun h0_ => (Q10 h0_).below hb_, fun _ => RdP.of_R ho, fun h0_ => absurd ((hoff 16 (by kernel_rfl)).symm.trans h0_) (by decide), fun h0_ => absurd ((hoff 18 (by kernel_rfl)).symm.trans h0_) (by decide), fun h0_ => absurd ((hoff 19 (by kernel_rfl)).symm.trans h0_) (by decide), fun h0_ => absurd ((hoff 20 (by kernel_rfl)).symm.trans h0_) (by decide)⟩
    refine steps_cons ?_ ?_
    · rintro b_ a_ w' ⟨v1, m2, v7, v10, v13, v16, v18, v19, m20, ha, QX, Q1, Q2, Q7, Q10, Q13, Q16, Q18, Q19, Q20⟩ hbo_ hon hoff
      refine ⟨_, rfl, fun K hK => ?_⟩
      have e28 : a_.tmps[28]? = some (.pointer (some ⟨g1, 2, none⟩)) := by rw [ha]; exact (putSel_off rfl).trans rfl
      replace ha := Aside0.mk ha
      have HX := Aside0.mk QX
      clear QX
      have hc_ : w'.cell? ⟨g1, 2, none⟩ = some (.slice A0 xs.length c0) := pw_cell_below HX.out.below ((blk_cell Ba.out 2).trans rfl)
      refine value_ (w1 := w') (v := .slice A0 xs.length c0) (by rfl) rfl ?_ ?_
      · go_simp
        (try simp only [i64_w])
        try rfl
      refine hK.out _ _ ⟨v1, m2, v7, v10, v13, v16, v18, v19, m20, (by rw [ha.out]; exact putSel_upk 10 hbo_ rfl rfl rfl), HX.out, Q1, Q2, Q7, Q10, Q13, fun h0_ => absurd ((hoff 16 (by kernel_rfl)).symm.trans h0_) (by decide), fun h0_ => absurd ((hoff 18 (by kernel_rfl)).symm.trans h0_) (by decide), fun h0_ => absurd ((hoff 19 (by kernel_rfl)).symm.trans h0_) (by decide), fun h0_ => absurd ((hoff 20 (by kernel_rfl)).symm.trans h0_) (by decide)⟩
    refine steps_cons ?_ ?_
    · rintro b_ a_ w' ⟨v1, m2, v7, v10, v13, v16, v18, v19, m20, ha, QX, Q1, Q2, Q7, Q10, Q13, Q16, Q18, Q19, Q20⟩ hbo_ hon hoff
      refine ⟨_, rfl, fun K hK => ?_⟩
      have e29 : a_.tmps[29]? = some (.slice A0 xs.length c0) := by rw [ha]; exact putSel_on (e := (15, 29, .slice A0 xs.length c0)) 10 rfl rfl (hon 15 (by kernel_rfl)) rfl
      replace ha := Aside0.mk ha
      have HX := Aside0.mk QX
      clear QX
      refine goes_ Try.func65 (by kernel_rfl) rfl #[.slice A0 xs.length c0, .int .i64 0, .int .i64 8] (by rfl) rfl rfl (by first | (simp only [List.map_toArray, List.map_cons, List.map_nil, Act.eval, Array.getD_eq_getD_getElem?, Option.getD_some, e29]; done) | (simp only [List.map_toArray, List.map_cons, List.map_nil, Act.eval, Array.getD_eq_getD_getElem?, Option.getD_some, e29]; rfl)) ?_
      refine (spec_l6Denied.calls kd0 _ c0 xs 0 8 (P.denL xs xs.length 0) _ (Kd.C_below HR0.out (below_step Wa.out HX.out.below)) HC0.out HD0.out).mono ?_
      rintro e w2_ ⟨vn_, rfl, ho, hb_⟩
      refine ⟨_, rfl, ?_⟩
      replace HX := Aside0.mk (HX.out.step hb_)
      refine hK.out _ _ ⟨v1, m2, v7, v10, v13, vn_, v18, v19, m20, (by rw [ha.out]; exact putSel_upk 11 hbo_ rfl rfl rfl), HX.out, fun h0_ => (Q1 h0_).below hb_, fun h0_ => ⟨(Q2 h0_).1, (Q2 h0_).2.below hb_⟩, fun h0_ => (Q7 h0_).below hb_, fun h0_ => (Q10 h0_).below hb_, fun h0_ => (Q13 h0_).below hb_, fun _ => RdP.of_R ho, fun h0_ => absurd ((hoff 18 (by kernel_rfl)).symm.trans h0_) (by decide), fun h0_ => absurd ((hoff 19 (by kernel_rfl)).symm.trans h0_) (by decide), fun h0_ => absurd ((hoff 20 (by kernel_rfl)).symm.trans h0_) (by decide)⟩
    refine steps_cons ?_ ?_
    · rintro b_ a_ w' ⟨v1, m2, v7, v10, v13, v16, v18, v19, m20, ha, QX, Q1, Q2, Q7, Q10, Q13, Q16, Q18, Q19, Q20⟩ hbo_ hon hoff
      refine ⟨_, rfl, fun K hK => ?_⟩
      have e16 : a_.tmps[16]? = some (m2) := by rw [ha]; exact putSel_on (e := (2, 16, m2)) 1 rfl rfl (hon 2 (by kernel_rfl)) rfl
      have e21 : a_.tmps[21]? = some (v7) := by rw [ha]; exact putSel_on (e := (7, 21, v7)) 5 rfl rfl (hon 7 (by kernel_rfl)) rfl
      have e24 : a_.tmps[24]? = some (v10) := by rw [ha]; exact putSel_on (e := (10, 24, v10)) 7 rfl rfl (hon 10 (by kernel_rfl)) rfl
      have e27 : a_.tmps[27]? = some (v13) := by rw [ha]; exact putSel_on (e := (13, 27, v13)) 9 rfl rfl (hon 13 (by kernel_rfl)) rfl
      have e30 : a_.tmps[30]? = some (v16) := by rw [ha]; exact putSel_on (e := (16, 30, v16)) 11 rfl rfl (hon 16 (by kernel_rfl)) rfl
      have e14 : a_.tmps[14]? = some (.slice A13 (P.leB 4 g).length c13) := by rw [ha]; exact (putSel_off rfl).trans rfl
      have e31 : a_.tmps[31]? = some (.slice A13 (P.leB 4 g).length c13) := by rw [ha]; exact (putSel_off rfl).trans rfl
      replace ha := Aside0.mk ha
      have HX := Aside0.mk QX
      clear QX
      obtain ⟨A1_, c1_, ev1_, hl1_, hC1_⟩ := (Q2 (hon 2 (by kernel_rfl))).2
      rw [ev1_] at e16
      obtain ⟨A2_, c2_, ev2_, hl2_, hC2_⟩ := Q7 (hon 7 (by kernel_rfl))
      rw [ev2_] at e21
      obtain ⟨A3_, c3_, ev3_, hl3_, hC3_⟩ := Q10 (hon 10 (by kernel_rfl))
      rw [ev3_] at e24
      obtain ⟨A4_, c4_, ev4_, hl4_, hC4_⟩ := Q13 (hon 13 (by kernel_rfl))
      rw [ev4_] at e27
      obtain ⟨A5_, c5_, ev5_, hl5_, hC5_⟩ := Q16 (hon 16 (by kernel_rfl))
      rw [ev5_] at e30
      refine Kd.N_lit_step (Kd.slice 5 (Kd.int .u8)) _ 25 ?hg (N' := 32) ?hd (xs := ([(P.leB 4 g), [83, 49], [n, 0], P.leB 4 t, P.bitsL u, P.denL xs xs.length 0, (P.leB 4 g)] : List (List Int))) (inner := [.slice A13 ((P.leB 4 g)).length c13, .slice A1_ ([83, 49]).length c1_, .slice A2_ ([n, 0]).length c2_, .slice A3_ (P.leB 4 t).length c3_, .slice A4_ (P.bitsL u).length c4_, .slice A5_ (P.denL xs xs.length 0).length c5_, .slice A13 ((P.leB 4 g)).length c13]) (ok := fun _ => True) (okp := fun _ => True) ?hr ?hp (fun _ hk => hk) trivial (Below.refl _ _) (Nat.le_refl _) (by simp) ?_; (case hd => rfl); (case hg => rfl); (case hr => first | (go_simp; done) | (go_simp; rfl)); (case hp => exact (Reps.one (RdP.FK HL13.out (Kd.C_below FC13.out HX.out.below)) (Reps.one (RdP.FK hl1_ hC1_) (Reps.one (RdP.FK hl2_ hC2_) (Reps.one (RdP.FK hl3_ hC3_) (Reps.one (RdP.FK hl4_ hC4_) (Reps.one (RdP.FK hl5_ hC5_) (Reps.one (RdP.FK HL13.out (Kd.C_below FC13.out HX.out.below)) (Reps.none _ _)))))))))
      intro vn_ w2_ ho hb_ hg_ hnew_
      clear hg_ hnew_
      replace HX := Aside0.mk (HX.out.step hb_)
      refine hK.out _ _ ⟨v1, m2, v7, v10, v13, v16, vn_, v19, m20, (by rw [ha.out]; exact putSel_upk 12 hbo_ rfl rfl rfl), HX.out, fun h0_ => (Q1 h0_).below hb_, fun h0_ => ⟨(Q2 h0_).1, (Q2 h0_).2.below hb_⟩, fun h0_ => (Q7 h0_).below hb_, fun h0_ => (Q10 h0_).below hb_, fun h0_ => (Q13 h0_).below hb_, fun h0_ => (Q16 h0_).below hb_, fun _ => RowsP.of_N ho, fun h0_ => absurd ((hoff 19 (by kernel_rfl)).symm.trans h0_) (by decide), fun h0_ => absurd ((hoff 20 (by kernel_rfl)).symm.trans h0_) (by decide)⟩
    refine steps_cons ?_ ?_
    · rintro b_ a_ w' ⟨v1, m2, v7, v10, v13, v16, v18, v19, m20, ha, QX, Q1, Q2, Q7, Q10, Q13, Q16, Q18, Q19, Q20⟩ hbo_ hon hoff
      refine ⟨_, rfl, fun K hK => ?_⟩
      have e32 : a_.tmps[32]? = some (v18) := by rw [ha]; exact putSel_on (e := (18, 32, v18)) 12 rfl rfl (hon 18 (by kernel_rfl)) rfl
      replace ha := Aside0.mk ha
      have HX := Aside0.mk QX
      clear QX
      obtain ⟨A_, c_, ev_, hl_, hC_⟩ := Q18 (hon 18 (by kernel_rfl))
      rw [ev_] at e32
      refine goes_ Try.func47 (by kernel_rfl) rfl #[.slice A_ ([(P.leB 4 g), [83, 49], [n, 0], P.leB 4 t, P.bitsL u, P.denL xs xs.length 0, (P.leB 4 g)]).length c_] (by rfl) rfl rfl (by first | (simp only [List.map_toArray, List.map_cons, List.map_nil, Act.eval, Array.getD_eq_getD_getElem?, Option.getD_some, e32]; done) | (simp only [List.map_toArray, List.map_cons, List.map_nil, Act.eval, Array.getD_eq_getD_getElem?, Option.getD_some, e32]; rfl)) ?_
      refine (spec_l2Cat.calls k1 _ c_ [(P.leB 4 g), [83, 49], [n, 0], P.leB 4 t, P.bitsL u, P.denL xs xs.length 0, (P.leB 4 g)] one _ hC_ hl_ E1.out).mono ?_
      rintro e w2_ ⟨vn_, rfl, ho, hb_⟩
      refine ⟨_, rfl, ?_⟩
      replace HX := Aside0.mk (HX.out.step hb_)
      refine hK.out _ _ ⟨v1, m2, v7, v10, v13, v16, v18, vn_, m20, (by rw [ha.out]; exact putSel_upk 13 hbo_ rfl rfl rfl), HX.out, fun h0_ => (Q1 h0_).below hb_, fun h0_ => ⟨(Q2 h0_).1, (Q2 h0_).2.below hb_⟩, fun h0_ => (Q7 h0_).below hb_, fun h0_ => (Q10 h0_).below hb_, fun h0_ => (Q13 h0_).below hb_, fun h0_ => (Q16 h0_).below hb_, fun h0_ => (Q18 h0_).below hb_, fun _ => RdP.of_R ho, fun h0_ => absurd ((hoff 20 (by kernel_rfl)).symm.trans h0_) (by decide)⟩
    refine steps_cons ?_ ?_
    · rintro b_ a_ w' ⟨v1, m2, v7, v10, v13, v16, v18, v19, m20, ha, QX, Q1, Q2, Q7, Q10, Q13, Q16, Q18, Q19, Q20⟩ hbo_ hon hoff
      refine ⟨_, rfl, fun K hK => ?_⟩
      have e33 : a_.tmps[33]? = some (v19) := by rw [ha]; exact putSel_on (e := (19, 33, v19)) 13 rfl rfl (hon 19 (by kernel_rfl)) rfl
      replace ha := Aside0.mk ha
      have HX := Aside0.mk QX
      clear QX
      refine value_ (w1 := w') (v := v19) (by rfl) rfl ?_ ?_
      · go_simp
        try rfl
      refine hK.out _ _ ⟨v1, m2, v7, v10, v13, v16, v18, v19, v19, (by rw [ha.out]; exact putSel_upk 14 hbo_ rfl rfl rfl), HX.out, Q1, Q2, Q7, Q10, Q13, Q16, Q18, Q19, fun _ => rfl⟩
    exact steps_nil
  rintro b_ a_ w110 hall ⟨v1, m2, v7, v10, v13, v16, v18, v19, m20, ha, QX, Q1, Q2, Q7, Q10, Q13, Q16, Q18, Q19, Q20⟩
  have hb1_ := hall 1 (by kernel_rfl)
  have hb2_ := hall 2 (by kernel_rfl)
  have hb4_ := hall 4 (by kernel_rfl)
  have hb5_ := hall 5 (by kernel_rfl)
  have hb6_ := hall 6 (by kernel_rfl)
  have hb7_ := hall 7 (by kernel_rfl)
  have hb9_ := hall 9 (by kernel_rfl)
  have hb10_ := hall 10 (by kernel_rfl)
  have hb12_ := hall 12 (by kernel_rfl)
  have hb13_ := hall 13 (by kernel_rfl)
  have hb15_ := hall 15 (by kernel_rfl)
  have hb16_ := hall 16 (by kernel_rfl)
  have hb18_ := hall 18 (by kernel_rfl)
  have hb19_ := hall 19 (by kernel_rfl)
  have hb20_ := hall 20 (by kernel_rfl)
  subst ha
  simp only [putSel, hb1_, hb2_, hb4_, hb5_, hb6_, hb7_, hb9_, hb10_, hb12_, hb13_, hb15_, hb16_, hb18_, hb19_, hb20_, if_true, Act.put, List.setIfInBounds_toArray, List.set_cons_zero, List.set_cons_succ]
  have H111 := Aside0.mk QX
  clear QX
  have F1 := Aside0.mk (Q1 hb1_)
  clear Q1
  have F2 := Aside0.mk (Q2 hb2_)
  clear Q2
  have F7 := Aside0.mk (Q7 hb7_)
  clear Q7
  have F10 := Aside0.mk (Q10 hb10_)
  clear Q10
  have F13 := Aside0.mk (Q13 hb13_)
  clear Q13
  have F16 := Aside0.mk (Q16 hb16_)
  clear Q16
  have F18 := Aside0.mk (Q18 hb18_)
  clear Q18
  have F19 := Aside0.mk (Q19 hb19_)
  clear Q19
  have F20 := Aside0.mk (Q20 hb20_)
  clear Q20
  clear hall hb1_ hb2_ hb4_ hb5_ hb6_ hb7_ hb9_ hb10_ hb12_ hb13_ hb15_ hb16_ hb18_ hb19_ hb20_
  have hm20 := F20.out
  subst hm20
  obtain ⟨A33, c33, e33, hl33, hC33⟩ := F19.out
  subst e33
  have HL33 := Aside0.mk hl33
  have FC33 := Aside0.mk hC33
  clear F1 F2 F7 F10 F13 F16 F18 F20 F19 hl33 hC33
  have FG_ := Aside0.mk (Kd.C_below FC13.out H111.out.below)
  clear FC13
  have FC13 := FG_
  clear FG_
  have Wb := Aside0.mk (below_step Wa.out H111.out.below)
  have Bb := Aside0.mk (blk_below Ba.out H111.out.below)
  have Nb := Aside0.mk (Bx.refl w110)
  clear H111
  go_wp2_with (first | ((with_reducible refine gate_dst (N := 35) rfl ?_); refine Aside0.out ?_))
  refine Aside0.mk ?_
  refine wpList_step fun K hK => ?_
  refine Kd.R_lit_step (Kd.int .u8) _ 5 ?hg (N := 35) ?hd (xs := ([83, 50] : List Int)) (inner := [.int .u8 83, .int .u8 50]) (ok := fun _ => True) (okp := fun _ => True) ?hr ?hp (fun _ hk => hk) trivial (Below.refl _ _) (Nat.le_refl _) (by simp) ?_; (case hd => rfl); (case hg => rfl); (case hr => first | (go_simp; done) | (go_simp; rfl)); (case hp => exact (Reps.one (show Kd.M (Kd.int .u8) _ _ _ _ [_] from rfl) (Reps.one (show Kd.M (Kd.int .u8) _ _ _ _ [_] from rfl) (Reps.none _ _))))
  intro v_ w112 ho hb_ hg_ hnew_
  clear hg_ hnew_
  have HQ_ := Aside0.mk (LitP.of_R ho (by decide) Nb.out.below.size)
  clear ho
  have H113 := Aside0.mk (Nb.out.step hb_)
  clear hb_ Nb
  refine hK _ _ ?_
  clear hK K
  obtain ⟨g_, c_, tl_, fr_, ev_, hl_, hm_, hg_, hh_⟩ := HQ_.out
  subst ev_
  obtain ⟨w2_, hrun_, hS_, fr2_, hh2_⟩ := conv_mark (P := Try.prog) (t := 25) (n := 2) (c := c_) Try.underlying25 Try.underlying5 hh_
  go_wp2_with (first | ((with_reducible refine gate_dst (N := 36) rfl ?_); refine Aside0.out ?_))
  refine Aside0.mk ?_
  refine valW ?hw36 (v := .slice (some ⟨g_, 0, none⟩) ([83, 50] : List Int).length c_) (W' := w2_) ?hr36 ?_
  case hw36 => rfl
  case hr36 =>
    go_simp
    try (first | exact hrun_ | (rw [hrun_]; rfl) | rfl)
  have H114 := Aside0.mk (Bx_mark H113.out hS_ hg_ hh_ (by intro b hb; simp only [List.mem_cons, List.not_mem_nil, or_false] at hb))
  have HR36 := (LitP.mark HQ_.out hS_ hh_ hh2_).rd
  obtain ⟨A36, c36, e36, hl36, hC36⟩ := HR36
  injection e36 with ea36 eb36 ec36
  subst ea36
  subst ec36
  clear eb36
  have HL36 := Aside0.mk hl36
  have FC36 := Aside0.mk hC36
  clear HQ_ hl_ hm_ hg_ hh_ hrun_ hS_ hh2_ hl36 hC36 H113
  go_wp2_with (first | ((with_reducible refine gate_dst (N := 37) rfl ?_); refine Aside0.out ?_))
  refine Aside0.mk ?_
  refine wpList_step fun K hK => ?_
  refine Kd.R_lit_step (Kd.int .u8) _ 5 ?hg (N := 37) ?hd (xs := ([0, 0] : List Int)) (inner := [.int .u8 0, .int .u8 0]) (ok := fun _ => True) (okp := fun _ => True) ?hr ?hp (fun _ hk => hk) trivial (Below.refl _ _) (Nat.le_refl _) (by simp) ?_; (case hd => rfl); (case hg => rfl); (case hr => first | (go_simp; done) | (go_simp; rfl)); (case hp => exact (Reps.one (show Kd.M (Kd.int .u8) _ _ _ _ [_] from rfl) (Reps.one (show Kd.M (Kd.int .u8) _ _ _ _ [_] from rfl) (Reps.none _ _))))
  intro v_ w115 ho hb_ hg_ hnew_
  clear hg_ hnew_
  have H116 := Aside0.mk (H114.out.step hb_)
  have n17_ := Aside0.mk (Kd.C_below FC36.out hb_)
  clear FC36
  have FC36 := n17_
  clear n17_
  clear hb_ H114
  obtain ⟨A37, c37, e37, hl37, hC37⟩ := RdP.of_R ho
  subst e37
  have HL37 := Aside0.mk hl37
  have FC37 := Aside0.mk hC37
  clear hl37 hC37 ho
  refine hK _ _ ?_
  clear hK K
  have hk2 : w115.cell? ⟨g1, 2, none⟩ = some (.slice A0 xs.length c0) := pw_cell_below H116.out.below ((blk_cell Bb.out 2).trans rfl)
  go_wp2_with (first | ((with_reducible refine gate_callee (f := 65) rfl ?_); refine Aside0.out ?_))
  refine Aside0.mk ?_
  refine goesW (some 40) rfl ?hw18 Try.func65 (by kernel_rfl) rfl #[.slice A0 xs.length c0, .int .i64 8, .int .i64 16] rfl (by (try simp only [List.map_toArray, List.map_cons, List.map_nil]); first | done | rfl) ?_
  case hw18 => rfl
  refine (spec_l6Denied.calls kd8 _ c0 xs 8 16 (P.denL xs xs.length 8) _ (Kd.C_below HR0.out (below_step Wb.out H116.out.below)) HC0.out HD8.out).mono ?_
  rintro e w118 ⟨v_, rfl, ho, hb_⟩
  refine ⟨_, rfl, ?_⟩
  have H119 := Aside0.mk (H116.out.step hb_)
  have n20_ := Aside0.mk (Kd.C_below FC36.out hb_)
  clear FC36
  have FC36 := n20_
  clear n20_
  have n21_ := Aside0.mk (Kd.C_below FC37.out hb_)
  clear FC37
  have FC37 := n21_
  clear n21_
  clear hb_ H116
  obtain ⟨A40, c40, e40, hl40, hC40⟩ := RdP.of_R ho
  subst e40
  have HL40 := Aside0.mk hl40
  have FC40 := Aside0.mk hC40
  clear hl40 hC40 ho
  clear hk2
  go_wp2_with (first | ((with_reducible refine gate_callee (f := 49) rfl ?_); refine Aside0.out ?_))
  refine Aside0.mk ?_
  refine goesW (some 41) rfl ?hw22 Try.func49 (by kernel_rfl) rfl #[.int .i64 32] rfl (by (try simp only [List.map_toArray, List.map_cons, List.map_nil]); first | done | rfl) ?_
  case hw22 => rfl
  refine (spec_l1Zeros.calls kz 32 (List.replicate 32 0) _ HZ.out).mono ?_
  rintro e w122 ⟨v_, rfl, ho, hb_⟩
  refine ⟨_, rfl, ?_⟩
  have H123 := Aside0.mk (H119.out.step hb_)
  have n24_ := Aside0.mk (Kd.C_below FC36.out hb_)
  clear FC36
  have FC36 := n24_
  clear n24_
  have n25_ := Aside0.mk (Kd.C_below FC37.out hb_)
  clear FC37
  have FC37 := n25_
  clear n25_
  have n26_ := Aside0.mk (Kd.C_below FC40.out hb_)
  clear FC40
  have FC40 := n26_
  clear n26_
  clear hb_ H119
  obtain ⟨A41, c41, e41, hl41, hC41⟩ := RdP.of_R ho
  subst e41
  have HL41 := Aside0.mk hl41
  have FC41 := Aside0.mk hC41
  clear hl41 hC41 ho
  go_wp2_with (first | ((with_reducible refine gate_dst (N := 42) rfl ?_); refine Aside0.out ?_))
  refine Aside0.mk ?_
  refine wpList_step fun K hK => ?_
  refine Kd.N_lit_step (Kd.slice 5 (Kd.int .u8)) _ 25 ?hg (N' := 42) ?hd (xs := ([(P.leB 4 g), [83, 50], [0, 0], P.denL xs xs.length 8, List.replicate 32 0] : List (List Int))) (inner := [.slice A13 ((P.leB 4 g)).length c13, .slice (some ⟨g_, 0, none⟩) ([83, 50]).length c_, .slice A37 ([0, 0]).length c37, .slice A40 (P.denL xs xs.length 8).length c40, .slice A41 (List.replicate 32 0).length c41]) (ok := fun _ => True) (okp := fun _ => True) ?hr ?hp (fun _ hk => hk) trivial (Below.refl _ _) (Nat.le_refl _) (by simp) ?_; (case hd => rfl); (case hg => rfl); (case hr => first | (go_simp; done) | (go_simp; rfl)); (case hp => exact (Reps.one (RdP.FK HL13.out (Kd.C_below FC13.out H123.out.below)) (Reps.one (RdP.FK HL36.out FC36.out) (Reps.one (RdP.FK HL37.out FC37.out) (Reps.one (RdP.FK HL40.out FC40.out) (Reps.one (RdP.FK HL41.out FC41.out) (Reps.none _ _)))))))
  intro v_ w127 ho hb_ hg_ hnew_
  clear hg_ hnew_
  have H128 := Aside0.mk (H123.out.step hb_)
  have n29_ := Aside0.mk (Kd.C_below FC36.out hb_)
  clear FC36
  have FC36 := n29_
  clear n29_
  have n30_ := Aside0.mk (Kd.C_below FC37.out hb_)
  clear FC37
  have FC37 := n30_
  clear n30_
  have n31_ := Aside0.mk (Kd.C_below FC40.out hb_)
  clear FC40
  have FC40 := n31_
  clear n31_
  have n32_ := Aside0.mk (Kd.C_below FC41.out hb_)
  clear FC41
  have FC41 := n32_
  clear n32_
  clear hb_ H123
  obtain ⟨A42, c42, e42, hl42, hC42⟩ := RowsP.of_N ho
  subst e42
  have HL42 := Aside0.mk hl42
  have FC42 := Aside0.mk hC42
  clear hl42 hC42 ho
  refine hK _ _ ?_
  clear hK K
  go_wp2_with (first | ((with_reducible refine gate_callee (f := 47) rfl ?_); refine Aside0.out ?_))
  refine Aside0.mk ?_
  refine goesW (some 43) rfl ?hw33 Try.func47 (by kernel_rfl) rfl #[.slice A42 ([(P.leB 4 g), [83, 50], [0, 0], P.denL xs xs.length 8, List.replicate 32 0] : List (List Int)).length c42] rfl (by (try simp only [List.map_toArray, List.map_cons, List.map_nil]); first | done | rfl) ?_
  case hw33 => rfl
  refine (spec_l2Cat.calls k2 _ c42 [(P.leB 4 g), [83, 50], [0, 0], P.denL xs xs.length 8, List.replicate 32 0] two _ FC42.out HL42.out E2.out).mono ?_
  rintro e w133 ⟨v_, rfl, ho, hb_⟩
  refine ⟨_, rfl, ?_⟩
  have H134 := Aside0.mk (H128.out.step hb_)
  have n35_ := Aside0.mk (Kd.C_below FC36.out hb_)
  clear FC36
  have FC36 := n35_
  clear n35_
  have n36_ := Aside0.mk (Kd.C_below FC37.out hb_)
  clear FC37
  have FC37 := n36_
  clear n36_
  have n37_ := Aside0.mk (Kd.C_below FC40.out hb_)
  clear FC40
  have FC40 := n37_
  clear n37_
  have n38_ := Aside0.mk (Kd.C_below FC41.out hb_)
  clear FC41
  have FC41 := n38_
  clear n38_
  have n39_ := Aside0.mk (Kd.C_below FC42.out hb_)
  clear FC42
  have FC42 := n39_
  clear n39_
  clear hb_ H128
  obtain ⟨A43, c43, e43, hl43, hC43⟩ := RdP.of_R ho
  subst e43
  have HL43 := Aside0.mk hl43
  have FC43 := Aside0.mk hC43
  clear hl43 hC43 ho
  go_wp2_with (first | ((with_reducible refine gate_dst (N := 46) rfl ?_); refine Aside0.out ?_))
  refine Aside0.mk ?_
  refine wpList_step fun K hK => ?_
  refine Kd.N_lit_step (Kd.slice 5 (Kd.int .u8)) _ 25 ?hg (N' := 46) ?hd (xs := ([one, two] : List (List Int))) (inner := [.slice A33 (one).length c33, .slice A43 (two).length c43]) (ok := fun _ => True) (okp := fun _ => True) ?hr ?hp (fun _ hk => hk) trivial (Below.refl _ _) (Nat.le_refl _) (by simp) ?_; (case hd => rfl); (case hg => rfl); (case hr => first | (go_simp; done) | (go_simp; rfl)); (case hp => exact (Reps.one (RdP.FK HL33.out (Kd.C_below FC33.out H134.out.below)) (Reps.one (RdP.FK HL43.out FC43.out) (Reps.none _ _))))
  intro v_ w140 ho hb_ hg_ hnew_
  clear hg_ hnew_
  have H141 := Aside0.mk (H134.out.step hb_)
  have n42_ := Aside0.mk (Kd.C_below FC36.out hb_)
  clear FC36
  have FC36 := n42_
  clear n42_
  have n43_ := Aside0.mk (Kd.C_below FC37.out hb_)
  clear FC37
  have FC37 := n43_
  clear n43_
  have n44_ := Aside0.mk (Kd.C_below FC40.out hb_)
  clear FC40
  have FC40 := n44_
  clear n44_
  have n45_ := Aside0.mk (Kd.C_below FC41.out hb_)
  clear FC41
  have FC41 := n45_
  clear n45_
  have n46_ := Aside0.mk (Kd.C_below FC42.out hb_)
  clear FC42
  have FC42 := n46_
  clear n46_
  have n47_ := Aside0.mk (Kd.C_below FC43.out hb_)
  clear FC43
  have FC43 := n47_
  clear n47_
  clear hb_ H134
  obtain ⟨A46, c46, e46, hl46, hC46⟩ := RowsP.of_N ho
  subst e46
  have HL46 := Aside0.mk hl46
  have FC46 := Aside0.mk hC46
  clear hl46 hC46 ho
  refine hK _ _ ?_
  clear hK K
  go_wp2_with (first | ((with_reducible refine gate_callee (f := 47) rfl ?_); refine Aside0.out ?_))
  refine Aside0.mk ?_
  refine goesW (some 47) rfl ?hw48 Try.func47 (by kernel_rfl) rfl #[.slice A46 ([one, two] : List (List Int)).length c46] rfl (by (try simp only [List.map_toArray, List.map_cons, List.map_nil]); first | done | rfl) ?_
  case hw48 => rfl
  refine (spec_l2Cat.calls k3 _ c46 [one, two] body _ FC46.out HL46.out E3.out).mono ?_
  rintro e w148 ⟨v_, rfl, ho, hb_⟩
  refine ⟨_, rfl, ?_⟩
  have H149 := Aside0.mk (H141.out.step hb_)
  have n50_ := Aside0.mk (Kd.C_below FC36.out hb_)
  clear FC36
  have FC36 := n50_
  clear n50_
  have n51_ := Aside0.mk (Kd.C_below FC37.out hb_)
  clear FC37
  have FC37 := n51_
  clear n51_
  have n52_ := Aside0.mk (Kd.C_below FC40.out hb_)
  clear FC40
  have FC40 := n52_
  clear n52_
  have n53_ := Aside0.mk (Kd.C_below FC41.out hb_)
  clear FC41
  have FC41 := n53_
  clear n53_
  have n54_ := Aside0.mk (Kd.C_below FC42.out hb_)
  clear FC42
  have FC42 := n54_
  clear n54_
  have n55_ := Aside0.mk (Kd.C_below FC43.out hb_)
  clear FC43
  have FC43 := n55_
  clear n55_
  have n56_ := Aside0.mk (Kd.C_below FC46.out hb_)
  clear FC46
  have FC46 := n56_
  clear n56_
  clear hb_ H141
  obtain ⟨A47, c47, e47, hl47, hC47⟩ := RdP.of_R ho
  subst e47
  have HL47 := Aside0.mk hl47
  have FC47 := Aside0.mk hC47
  clear hl47 hC47 ho
  go_wp2_with (first | ((with_reducible refine gate_callee (f := 50) rfl ?_); refine Aside0.out ?_))
  refine Aside0.mk ?_
  refine goesW (some 50) rfl ?hw57 Try.func50 (by kernel_rfl) rfl #[.slice A47 body.length c47] rfl (by (try simp only [List.map_toArray, List.map_cons, List.map_nil]); first | done | rfl) ?_
  case hw57 => rfl
  refine (spec_Crc32.calls kc _ c47 body c _ FC47.out HL47.out HCR.out).mono ?_
  rintro e w157 ⟨rfl, hd_⟩
  refine ⟨_, rfl, ?_⟩
  have hb_ := hd_.below
  clear hd_
  have H158 := Aside0.mk (H149.out.step hb_)
  have n59_ := Aside0.mk (Kd.C_below FC36.out hb_)
  clear FC36
  have FC36 := n59_
  clear n59_
  have n60_ := Aside0.mk (Kd.C_below FC37.out hb_)
  clear FC37
  have FC37 := n60_
  clear n60_
  have n61_ := Aside0.mk (Kd.C_below FC40.out hb_)
  clear FC40
  have FC40 := n61_
  clear n61_
  have n62_ := Aside0.mk (Kd.C_below FC41.out hb_)
  clear FC41
  have FC41 := n62_
  clear n62_
  have n63_ := Aside0.mk (Kd.C_below FC42.out hb_)
  clear FC42
  have FC42 := n63_
  clear n63_
  have n64_ := Aside0.mk (Kd.C_below FC43.out hb_)
  clear FC43
  have FC43 := n64_
  clear n64_
  have n65_ := Aside0.mk (Kd.C_below FC46.out hb_)
  clear FC46
  have FC46 := n65_
  clear n65_
  have n66_ := Aside0.mk (Kd.C_below FC47.out hb_)
  clear FC47
  have FC47 := n66_
  clear n66_
  clear hb_ H149
  go_wp2_with (first | ((with_reducible refine gate_callee (f := 48) rfl ?_); refine Aside0.out ?_))
  refine Aside0.mk ?_
  refine goesW (some 51) rfl ?hw67 Try.func48 (by kernel_rfl) rfl #[.int .u32 c] rfl (by (try simp only [List.map_toArray, List.map_cons, List.map_nil]); first | done | rfl) ?_
  case hw67 => rfl
  refine (spec_l2Four.calls c (P.leB 4 c) _ (P.four_is c HCC.out)).mono ?_
  rintro e w167 ⟨v_, rfl, ho, hb_⟩
  refine ⟨_, rfl, ?_⟩
  have H168 := Aside0.mk (H158.out.step hb_)
  have n69_ := Aside0.mk (Kd.C_below FC36.out hb_)
  clear FC36
  have FC36 := n69_
  clear n69_
  have n70_ := Aside0.mk (Kd.C_below FC37.out hb_)
  clear FC37
  have FC37 := n70_
  clear n70_
  have n71_ := Aside0.mk (Kd.C_below FC40.out hb_)
  clear FC40
  have FC40 := n71_
  clear n71_
  have n72_ := Aside0.mk (Kd.C_below FC41.out hb_)
  clear FC41
  have FC41 := n72_
  clear n72_
  have n73_ := Aside0.mk (Kd.C_below FC42.out hb_)
  clear FC42
  have FC42 := n73_
  clear n73_
  have n74_ := Aside0.mk (Kd.C_below FC43.out hb_)
  clear FC43
  have FC43 := n74_
  clear n74_
  have n75_ := Aside0.mk (Kd.C_below FC46.out hb_)
  clear FC46
  have FC46 := n75_
  clear n75_
  have n76_ := Aside0.mk (Kd.C_below FC47.out hb_)
  clear FC47
  have FC47 := n76_
  clear n76_
  clear hb_ H158
  obtain ⟨A51, c51, e51, hl51, hC51⟩ := RdP.of_R ho
  subst e51
  have HL51 := Aside0.mk hl51
  have FC51 := Aside0.mk hC51
  clear hl51 hC51 ho
  go_wp2_with (first | ((with_reducible refine gate_dst (N := 53) rfl ?_); refine Aside0.out ?_))
  refine Aside0.mk ?_
  refine wpList_step fun K hK => ?_
  refine Kd.N_lit_step (Kd.slice 5 (Kd.int .u8)) _ 25 ?hg (N' := 53) ?hd (xs := ([body, P.leB 4 c, (P.leB 4 g)] : List (List Int))) (inner := [.slice A47 (body).length c47, .slice A51 (P.leB 4 c).length c51, .slice A13 ((P.leB 4 g)).length c13]) (ok := fun _ => True) (okp := fun _ => True) ?hr ?hp (fun _ hk => hk) trivial (Below.refl _ _) (Nat.le_refl _) (by simp) ?_; (case hd => rfl); (case hg => rfl); (case hr => first | (go_simp; done) | (go_simp; rfl)); (case hp => exact (Reps.one (RdP.FK HL47.out FC47.out) (Reps.one (RdP.FK HL51.out FC51.out) (Reps.one (RdP.FK HL13.out (Kd.C_below FC13.out H168.out.below)) (Reps.none _ _)))))
  intro v_ w177 ho hb_ hg_ hnew_
  clear hg_ hnew_
  have H178 := Aside0.mk (H168.out.step hb_)
  have n79_ := Aside0.mk (Kd.C_below FC36.out hb_)
  clear FC36
  have FC36 := n79_
  clear n79_
  have n80_ := Aside0.mk (Kd.C_below FC37.out hb_)
  clear FC37
  have FC37 := n80_
  clear n80_
  have n81_ := Aside0.mk (Kd.C_below FC40.out hb_)
  clear FC40
  have FC40 := n81_
  clear n81_
  have n82_ := Aside0.mk (Kd.C_below FC41.out hb_)
  clear FC41
  have FC41 := n82_
  clear n82_
  have n83_ := Aside0.mk (Kd.C_below FC42.out hb_)
  clear FC42
  have FC42 := n83_
  clear n83_
  have n84_ := Aside0.mk (Kd.C_below FC43.out hb_)
  clear FC43
  have FC43 := n84_
  clear n84_
  have n85_ := Aside0.mk (Kd.C_below FC46.out hb_)
  clear FC46
  have FC46 := n85_
  clear n85_
  have n86_ := Aside0.mk (Kd.C_below FC47.out hb_)
  clear FC47
  have FC47 := n86_
  clear n86_
  have n87_ := Aside0.mk (Kd.C_below FC51.out hb_)
  clear FC51
  have FC51 := n87_
  clear n87_
  clear hb_ H168
  obtain ⟨A53, c53, e53, hl53, hC53⟩ := RowsP.of_N ho
  subst e53
  have HL53 := Aside0.mk hl53
  have FC53 := Aside0.mk hC53
  clear hl53 hC53 ho
  refine hK _ _ ?_
  clear hK K
  have HBW := Aside0.mk (Nat.le_trans Wb.out.size H178.out.below.size)
  go_wp2_with (first | ((with_reducible refine gate_callee (f := 47) rfl ?_); refine Aside0.out ?_))
  refine Aside0.mk ?_
  refine goesW (some 54) rfl ?hw88 Try.func47 (by kernel_rfl) rfl #[.slice A53 ([body, P.leB 4 c, (P.leB 4 g)] : List (List Int)).length c53] rfl (by (try simp only [List.map_toArray, List.map_cons, List.map_nil]); first | done | rfl) ?_
  case hw88 => rfl
  refine (spec_l2Cat.calls k4 _ c53 [body, P.leB 4 c, (P.leB 4 g)] r _ FC53.out HL53.out E4.out).mono ?_
  rintro e w188 ⟨v_, rfl, ho, hb_⟩
  refine ⟨_, rfl, ?_⟩
  have HRr := Aside0.mk (Kd.R_lower ho HBW.out)
  clear ho
  have H189 := Aside0.mk (H178.out.step hb_)
  clear hb_ H178
  go_wp2
  go_ret
  exact ⟨_, rfl, HRr.out, below_step Wb.out H189.out.below⟩
set_option maxHeartbeats 8000000 in
set_option maxRecDepth 100000 in
theorem specSnap_none {A0 : Option Addr} {c0 : Nat} {xs : List Int} {A1 : Option Addr} {c1 : Nat} {u : List Int} {g t : Int} {kg : Nat} {w : World} (hr0 : Kd.C (Kd.int .i64) w A0 xs.length xs) (hc0 : xs.length ≤ c0) (hr1 : Kd.C (Kd.int .i64) w A1 u.length u) (hc1 : u.length ≤ c1) (hgd : spec_l6GoodSnap.f kg g t xs u = some false) :
    Calls Try.prog 25 #[.agg #[.int .u32 g, .int .u32 t, .slice A0 xs.length c0, .slice A1 u.length c1]] w fun e w' => ∃ v0_ : Value, e = .returned (v0_) ∧ Kd.R (Kd.int .u8) 5 w' w.heap.size (fun _ => True) v0_ [] ∧ Below w.heap.size w w' := by
  have HR0 := Aside0.mk hr0
  have HC0 := Aside0.mk hc0
  have HR1 := Aside0.mk hr1
  have HC1 := Aside0.mk hc1
  have HGd := Aside0.mk hgd
  have H0 := Aside0.mk (Bx.refl w)
  clear hr0 hc0 hr1 hc1 hgd
  go_enter Try.func25, Try.ntmps25
  go_wp2_with (first | ((with_reducible refine gate_dst (N := 1) rfl ?_); refine Aside0.out ?_))
  refine Aside0.mk ?_
  refine mk ?hw90 (N := 1) ?hd90 (cs := #[.int .u32 g, .int .u32 t, .slice A0 xs.length c0, .slice A1 u.length c1]) (t := 44) ?hr90 ?_
  case hd90 => rfl
  case hw90 => rfl
  case hr90 => first | (go_simp; done) | (go_simp; rfl)
  intro g1 hg1_ w190 hb90 hB90
  have H191 := Aside0.mk (H0.out.new hg1_ hb90 hB90)
  clear hg1_ hb90 hB90 H0
  go_wp2_with (first | ((with_reducible refine gate_dst (N := 7) rfl ?_); refine Aside0.out ?_))
  refine Aside0.mk ?_
  refine ld ?hw92 rfl ?hx92 H191.out.gt0 Try.underlying44 rfl (by kernel_rfl) ?_
  case hw92 => rfl
  case hx92 => rfl
  go_wp2_with (first | ((with_reducible refine gate_callee (f := 63) rfl ?_); refine Aside0.out ?_))
  refine Aside0.mk ?_
  refine goesW (some 8) rfl ?hw93 Try.func63 (by kernel_rfl) rfl #[.agg #[.int .u32 g, .int .u32 t, .slice A0 xs.length c0, .slice A1 u.length c1]] rfl (by (try simp only [List.map_toArray, List.map_cons, List.map_nil]); first | done | rfl) ?_
  case hw93 => rfl
  refine (spec_l6GoodSnap.calls kg g t _ _ xs _ _ u _ _ (Kd.C_below HR0.out H191.out.below) HC0.out (Kd.C_below HR1.out H191.out.below) HC1.out HGd.out).mono ?_
  rintro e w193 ⟨rfl, hb_⟩
  refine ⟨_, rfl, ?_⟩
  have H194 := Aside0.mk (H191.out.step hb_)
  clear hb_ H191
  go_wp2_with (first | ((with_reducible refine gate_dst (N := 10) rfl ?_); refine Aside0.out ?_))
  refine Aside0.mk ?_
  refine Kd.R_lit (Kd.int .u8) _ 5 ?hg (N := 10) ?hd (xs := ([] : List Int)) (inner := []) (ok := fun _ => True) (okp := fun _ => True) ?hr ?hp (fun _ hk => hk) trivial (Below.refl _ _) (Nat.le_refl _) (by simp) ?_
  case hd => rfl
  case hg => rfl
  case hr => first | (go_simp; done) | (go_simp; rfl)
  case hp => exact (Reps.none _ _)
  intro v12_ w2_ ho hb_ hg_ hnew_
  clear hg_ hnew_
  have HRr := Aside0.mk (Kd.R_lower ho H194.out.below.size)
  have HX := Aside0.mk (H194.out.step hb_)
  clear ho hb_
  go_wp2
  go_ret
  exact ⟨_, rfl, HRr.out, HX.out.below⟩
theorem spec_EncodeSnap.calls (k : Nat) (a0_0 : Int) (a0_1 : Int) (A0_2 : Option Addr) (c0_2 : Nat) (l0_2 : List Int) (A0_3 : Option Addr) (c0_3 : Nat) (l0_3 : List Int) (r : List Int) (w : World) (hr0_2 : Kd.C (Kd.int .i64) w A0_2 l0_2.length l0_2) (hc0_2 : l0_2.length ≤ c0_2) (hr0_3 : Kd.C (Kd.int .i64) w A0_3 l0_3.length l0_3) (hc0_3 : l0_3.length ≤ c0_3) (h : spec_EncodeSnap.f k a0_0 a0_1 l0_2 l0_3 = some r) :
    Calls Try.prog 25 #[.agg #[.int .u32 a0_0, .int .u32 a0_1, .slice A0_2 l0_2.length c0_2, .slice A0_3 l0_3.length c0_3]] w fun e w' => ∃ v0_ : Value, e = .returned (v0_) ∧ Kd.R (Kd.int .u8) 5 w' w.heap.size (fun _ => True) v0_ r ∧ Below w.heap.size w w' := by
  unfold spec_EncodeSnap.f at h
  by_cases hsz : P.snapSz a0_0 a0_1 l0_2 l0_3
  case neg => rw [if_neg hsz] at h; cases h
  rw [if_pos hsz] at h
  have h := Option.some.inj h
  obtain ⟨kg, hkg⟩ := (P.spec_snap_good a0_0 a0_1 l0_2 l0_3 (Nat.le_trans hsz.2.2.1 (by decide)) (Nat.le_trans hsz.2.2.2 (by decide))).ex
  unfold encS at h
  cases hk : P.goodSnap a0_0 a0_1 l0_2 l0_3 with
  | false =>
    rw [hk] at h hkg
    rw [if_neg (by decide)] at h
    subst h
    exact specSnap_none hr0_2 hc0_2 hr0_3 hc0_3 hkg
  | true =>
    rw [hk] at h hkg
    rw [if_pos rfl] at h
    subst h
    have ok := snapOk_of hsz hk
    obtain ⟨kb, hkb⟩ := (P.bits_ev l0_3 (Nat.le_trans hsz.2.2.2 (by decide))).ex
    obtain ⟨kd0, hd0⟩ := (P.den_ev l0_2 0 (by decide) ok.xs.1 (Nat.le_trans hsz.2.2.1 (by decide))).ex
    obtain ⟨kd8, hd8⟩ := (P.den_ev l0_2 8 (by decide) ok.xs.1 (Nat.le_trans hsz.2.2.1 (by decide))).ex
    obtain ⟨kz, hz⟩ := (P.zeros_ev 32 (by decide)).ex
    obtain ⟨k1, h1⟩ := (P.cat_ev [P.leB 4 a0_0, [83, 49], [(l0_2.length : Int) % 256, 0], P.leB 4 a0_1, P.bitsL l0_3, P.denL l0_2 l0_2.length 0, P.leB 4 a0_0] (by show 7 ≤ 1048576; decide) (by simp only [List.flatten_cons, List.flatten_nil, List.length_append, P.leB_length, P.bitsL_length, P.denL_length, List.length_cons, List.length_nil]; decide)).ex
    obtain ⟨k2, h2⟩ := (P.cat_ev [P.leB 4 a0_0, [83, 50], [0, 0], P.denL l0_2 l0_2.length 8, List.replicate 32 0] (by show 5 ≤ 1048576; decide) (by simp only [List.flatten_cons, List.flatten_nil, List.length_append, P.leB_length, P.bitsL_length, P.denL_length, List.length_cons, List.length_nil, List.length_replicate]; decide)).ex
    have eb : [[P.leB 4 a0_0, [83, 49], [(l0_2.length : Int) % 256, 0], P.leB 4 a0_1, P.bitsL l0_3, P.denL l0_2 l0_2.length 0, P.leB 4 a0_0].flatten, [P.leB 4 a0_0, [83, 50], [0, 0], P.denL l0_2 l0_2.length 8, List.replicate 32 0].flatten].flatten = P.snapHead a0_0 ((l0_2.length : Int) % 256) a0_1 l0_3 l0_2 := by
      unfold P.snapHead
      simp only [List.flatten_cons, List.flatten_nil, List.append_nil, List.append_assoc]
    obtain ⟨k3, h3⟩ := (P.cat_ev [[P.leB 4 a0_0, [83, 49], [(l0_2.length : Int) % 256, 0], P.leB 4 a0_1, P.bitsL l0_3, P.denL l0_2 l0_2.length 0, P.leB 4 a0_0].flatten, [P.leB 4 a0_0, [83, 50], [0, 0], P.denL l0_2 l0_2.length 8, List.replicate 32 0].flatten] (by show 2 ≤ 1048576; decide) (by rw [eb, P.snapHead_length]; decide)).ex
    rw [eb] at h3
    have hc := P.crc32_range (P.snapHead a0_0 ((l0_2.length : Int) % 256) a0_1 l0_3 l0_2)
    unfold P.U32 at hc
    obtain ⟨kc, hcr⟩ := (P.spec_Crc32_ev (P.snapHead a0_0 ((l0_2.length : Int) % 256) a0_1 l0_3 l0_2) (by rw [P.snapHead_length]; decide)).ex
    have ef : [P.snapHead a0_0 ((l0_2.length : Int) % 256) a0_1 l0_3 l0_2, P.leB 4 (P.crc32 (P.snapHead a0_0 ((l0_2.length : Int) % 256) a0_1 l0_3 l0_2)), P.leB 4 a0_0].flatten = P.snapCode a0_0 a0_1 l0_2 l0_3 := by
      unfold P.snapCode
      simp only [List.flatten_cons, List.flatten_nil, List.append_nil, List.append_assoc]
    obtain ⟨k4, h4⟩ := (P.cat_ev [P.snapHead a0_0 ((l0_2.length : Int) % 256) a0_1 l0_3 l0_2, P.leB 4 (P.crc32 (P.snapHead a0_0 ((l0_2.length : Int) % 256) a0_1 l0_3 l0_2)), P.leB 4 a0_0] (by show 3 ≤ 1048576; decide) (by rw [ef, P.snapCode_length]; decide)).ex
    rw [ef] at h4
    exact specSnap_raw hr0_2 hc0_2 hr0_3 hc0_3 hsz.1 hsz.2.1 rfl hkg hkb hd0 hd8 hz h1 h2 h3 hcr hc h4
end Go.Proofs.Ytgfadfahbhcllaa.Q
namespace Go.Proofs.Ytgfadfahbhcllaa.Q
open Go.RowKit Go.Proofs.YtgfadfahbhcllaaW.PrintWords Go.Proofs.YtgfadfahbhcllaaW.PrintLast Go.Proofs.Ytgfadfahbhcllaa.LK Go.Proofs.YtgfadfahbhcllaaW.PrintMore
attribute [local go_sem] max2_int min2_int max_two min_two max_three min_three max_four min_four   -- for this text's walks alone
set_option linter.unusedVariables false
set_option linter.unusedSimpArgs false

set_option maxHeartbeats 8000000 in
set_option maxRecDepth 100000 in
theorem laws_markByteS.callsE {e_ : Nat} (k : Nat) (P0_ : Nat → Prop) (u9000_ : Value) (l0 : List Int) (a1 : Int) (r1 : Int) (r2 : List Int) (w0 w : World) (hB : Below w0.heap.size w0 w) (ho0 : Kd.R (Kd.int .u8) e_ w w0.heap.size P0_ u9000_ l0) (h : laws_markByteS.f k l0 a1 = some (r1, r2)) :
    Calls Try.prog 15 #[u9000_, .int .i64 a1] w fun e w' => e = .returned (.int .i64 r1) ∧ Kd.R (Kd.int .u8) e_ w' w0.heap.size (fun k_ => (P0_ k_ ∨ w.heap.size ≤ k_)) u9000_ r2 ∧ Below w0.heap.size w0 w' ∧ Kept w w' (fun k_ => P0_ k_) := by
  have HO0 := Aside0.mk (show Kd.R (Kd.int .u8) e_ w w0.heap.size (fun k_ => (P0_ k_ ∨ w.heap.size ≤ k_)) u9000_ l0 from Kd.R_mono ho0 (fun k_ hk => (.inl hk)))
  have HK := Aside0.mk (Kept.refl w (fun k_ => P0_ k_))
  have HW0 := Aside0.mk hB.size
  have HB := Aside0.mk hB
  clear hB
  have H : (laws_markByteS.l0 k l0 a1 0) = some (r1, r2) := h
  clear h
  have H' := Aside0.mk H
  clear H
  go_enter Try.func15, Try.ntmps15
  go_wp2
  go_loopg [1, 5] k (fun kq v1 v5 w' => ∃ (x0_1 : List Int) (x1_1 : Int) (x5_1 : Int), v1 = .int .i64 x1_1 ∧ v5 = .int .i64 x5_1 ∧ Aside0 (laws_markByteS.l0 kq x0_1 x1_1 x5_1 = some (r1, r2)) ∧ Aside0 (kq ≤ k) ∧ Aside0 (Kd.R (Kd.int .u8) e_ w' w0.heap.size (fun k_ => (P0_ k_ ∨ w.heap.size ≤ k_)) u9000_ x0_1) ∧ Aside0 (Kept w w' (fun k_ => P0_ k_)) ∧ Aside0 (Below w0.heap.size w0 w'))
  case atStart => exact ⟨(l0), (a1), (0), (by first | rfl | (simp; done) | (simp [*]; done)), (by first | rfl | (simp; done) | (simp [*]; done)), H', ⟨Nat.le_refl _⟩, ⟨by (with_reducible repeat (first | apply Kd.R_alloc | apply Kd.R_drewN | apply Kd.R_drew)); exact HO0.out⟩, ⟨by repeat (first | (with_reducible first | exact HK.out | apply Kept.alloc | apply Kept.drewN | apply Kept.drew) | exact HK.out)⟩, ⟨by repeat (first | (with_reducible first | exact HB.out | apply below_alloc | apply pw_below_drewN | apply below_drew1) | exact HB.out)⟩⟩
  case round =>
    clear H'
    try clear c1
    try clear p2
    obtain ⟨x0_1, x1_1, x5_1, rfl, rfl, HA, HK1, HO_0, HK, HB⟩ := hrel
    cases gk with
    | zero => exact absurd HA.out (by simp [laws_markByteS.l0])
    | succ k1 =>
      have H := HA.out
      clear HA
      simp only [laws_markByteS.l0] at H
      by_cases c3 : x5_1 < (x0_1.length : Int)
      · rw [if_pos c3] at H
        have c3b0 : decide (x5_1 < (x0_1.length : Int)) = true := decide_eq_true c3
        clear c3
        by_cases c4 : 0 ≤ x5_1
        · rw [if_pos c4] at H
          have c4b0 : decide (0 ≤ x5_1) = true := decide_eq_true c4
          clear c4
          obtain ⟨y101, hy101⟩ : ∃ y_ : List Int, y_ = (x0_1.set (x5_1 : Int).toNat ((x1_1) % 256)) := ⟨_, rfl⟩
          replace H : (laws_markByteS.l0 k1 y101 (wrap64 (x1_1 + 1)) (wrap64 (x5_1 + 1))) = some (r1, r2) := by first | (rw [hy101]; with_reducible exact H) | (have H2_ := (Option.bind_some _ _).symm.trans H; rw [hy101]; with_reducible exact H2_) | (have H2_ := (Option.bind_some _ _).symm.trans H; with_reducible exact H2_) | with_reducible exact H | (rw [hy101]; exact H) | exact H
          have Ny101 := Aside0.mk hy101
          clear hy101
          have H' := Aside0.mk H
          clear H
          obtain ⟨Ao6, co6, eo6⟩ := Kd.R_slice HO_0.out
          subst eo6
          have p5 : 0 ≤ (x5_1 : Int) := of_decide_eq_true (by first | (with_reducible assumption) | assumption)
          have q5 : (x5_1 : Int) < ((x0_1.length : Int) : Int) := of_decide_eq_true (by first | (with_reducible assumption) | assumption)
          obtain ⟨go5, co5, eo5, gb5, gl5, cl5, HG5⟩ := Kd.R_form HO_0.out (by omega)
          (first | cases eo5 | (injection eo5 with ea_ en_ ec_; (first | subst ea_ | (injection ea_ with ea_; subst ea_)); subst ec_; clear en_))
          have GB5 := Aside0.mk gb5
          have GG5 := Aside0.mk HG5
          clear gb5 gl5 HG5
          have HMgo5 := Aside0.mk (show (P0_ go5 ∨ w.heap.size ≤ go5) from (HO_0.out.1 _ rfl))
          obtain ⟨hx5_0, hf5_0⟩ := Kd.R_celln 0 HO_0.out (x5_1 : Int) p5 q5
          replace p5 := eq_true p5
          replace q5 := eq_true q5
          have HP7 := Kd.R_putg HO_0.out (x5_1 : Int) ((x1_1) % 256)
          go_wp2_with (first | ((with_reducible refine gate_store (t := 5) (p := 16) rfl ?_); refine store_event (t := 5) (p := 16) (v := ?vo_w8) (w1 := (wr.setCell ⟨go5, (x5_1 : Int).toNat, none⟩ (.int .u8 ((x1_1) % 256)))) ?hg ?ho ?hn ?hr ?_; (case ho => rfl); (case hg => rfl); (case hn => rfl); (case hr => first | (go_simp; done) | (go_simp; rfl)); intro w8 hw; have hg : wr.grownBy w8 (some go5) := (by rw [hw]; exact HP7.2); have hp_ : Kd.R (Kd.int .u8) e_ w8 w0.heap.size (fun k_ => (P0_ k_ ∨ w.heap.size ≤ k_)) (.slice (some ⟨go5, 0, none⟩) x0_1.length co6) y101 := (by rw [hw, Ny101.out]; exact HP7.1); clear HP7; have n0_ := Aside0.mk (hp_); have n1_ := Aside0.mk ((by rw [hw]; exact below_set (HB.out) GB5.out : Below w0.heap.size w0 w8)); have n2_ := Aside0.mk (Kept.of_grown (S := (fun k_ => P0_ k_)) hg (by repeat (first | (with_reducible first | exact HK.out | apply Kept.alloc | apply Kept.drewN | apply Kept.drew) | exact HK.out)) (fun k_ e_ => (HO_0.out.1 k_ e_))); clear HO_0; clear HB; clear HK; have HO_0 := n0_; have HB := n1_; have HK := n2_; clear n0_ n1_ n2_; clear hg hw hp_))
          go_roundg k1
          case measure => have := HK1.out; omega
          case rel => exact ⟨(y101), (wrap64 (x1_1 + 1)), (wrap64 (x5_1 + 1)), (by first | rfl | (simp; done) | (simp [*]; done)), (by first | rfl | (simp; done) | (simp [*]; done)), H', ⟨by have := HK1.out; omega⟩, ⟨by (with_reducible repeat (first | apply Kd.R_alloc | apply Kd.R_drewN | apply Kd.R_drew)); exact HO_0.out⟩, ⟨by repeat (first | (with_reducible first | exact HK.out | apply Kept.alloc | apply Kept.drewN | apply Kept.drew) | exact HK.out)⟩, ⟨by repeat (first | (with_reducible first | exact HB.out | apply below_alloc | apply pw_below_drewN | apply below_drew1) | exact HB.out)⟩⟩
        · rw [if_neg c4] at H
          exact absurd H (by simp)
      · rw [if_neg c3] at H
        have c3b0 : decide (x5_1 < (x0_1.length : Int)) = false := decide_eq_false c3
        clear c3
        simp only [Option.some.injEq, Prod.mk.injEq] at H
        obtain ⟨rfl, rfl⟩ := H
        obtain ⟨Ao9, co9, eo9⟩ := Kd.R_slice HO_0.out
        subst eo9
        go_wp2
        go_ret
        exact ⟨by first | rfl | (simp [errW_none, errW_some] <;> rfl) | (simp [*, errW_none, errW_some] <;> rfl), by (with_reducible repeat (first | apply Kd.R_alloc | apply Kd.R_drewN | apply Kd.R_drew)); exact HO_0.out, by repeat (first | (with_reducible first | exact HB.out | apply below_alloc | apply pw_below_drewN | apply below_drew1) | exact HB.out), by repeat (first | (with_reducible first | exact HK.out | apply Kept.alloc | apply Kept.drewN | apply Kept.drew) | exact HK.out)⟩

end Go.Proofs.Ytgfadfahbhcllaa.Q
namespace Go.Proofs.Ytgfadfahbhcllaa.Q
open Go.RowKit Go.Proofs.YtgfadfahbhcllaaW.PrintWords Go.Proofs.YtgfadfahbhcllaaW.PrintLast Go.Proofs.YtgfadfahbhcllaaW.PrintMore Go.Proofs.Ytgfadfahbhcllaa.LK
set_option linter.unusedVariables false
set_option linter.unusedSimpArgs false

def trunc (w : World) (b : Nat) : World := { w with heap := w.heap.extract 0 b }
theorem trunc_size {w : World} {b : Nat} (h : b ≤ w.heap.size) : (trunc w b).heap.size = b := by simp [trunc]; omega
theorem trunc_below {w : World} {b : Nat} (h : b ≤ w.heap.size) : Below b (trunc w b) w :=
  ⟨rfl, rfl, rfl, by rw [trunc_size h]; exact h, fun i hi => by
    simp only [trunc]
    rw [Array.getElem?_extract]
    simp only [hi, Nat.sub_zero, Nat.zero_add, Nat.lt_min, true_and]
    by_cases h2 : i < w.heap.size
    · simp [h2]
    · rw [if_neg h2, Array.getElem?_eq_none (by omega)]⟩

theorem markB {k b e_ : Nat} {P0 : Nat → Prop} {v : Value} {l l' : List Int} {m m' : Int} {w : World} (hbw : b ≤ w.heap.size) (hr : Kd.R (Kd.int .u8) e_ w b P0 v l) (h : laws_markByteS.f k l m = some (m', l')) :
    Calls Try.prog 15 #[v, .int .i64 m] w fun e w' => e = .returned (.int .i64 m') ∧ Kd.R (Kd.int .u8) e_ w' b P0 v l' ∧ Stp P0 w w' := by
  have hs := trunc_size hbw
  have hb := trunc_below hbw
  refine (laws_markByteS.callsE k P0 v l m m' l' (trunc w b) w (by rw [hs]; exact hb) (by rw [hs]; exact hr) h).mono ?_
  rintro e w' ⟨rfl, hr', hb', hk⟩
  rw [hs] at hr' hb'
  exact ⟨rfl, Kd.R_mono (Kd.R_tight rfl hr') (fun q hq => hr.1 q hq.symm), ⟨hb'.os.trans hb.os.symm, hb'.tape.trans hb.tape.symm, hb'.output.trans hb.output.symm, hk.1, hk.2⟩⟩

end Go.Proofs.Ytgfadfahbhcllaa.Q
namespace Go.Proofs.Ytgfadfahbhcllaa.Q
open Go.RowKit Go.Proofs.YtgfadfahbhcllaaW.PrintWords Go.Proofs.YtgfadfahbhcllaaW.PrintLast Go.Proofs.YtgfadfahbhcllaaW.PrintMore Go.Proofs.Ytgfadfahbhcllaa.LK
set_option linter.unusedVariables false
theorem mk_laws_markSnap {k b : Nat} {P0 P1 : Nat → Prop} {a0 a1 : Int} {A0 A1 : Option Addr} {n0 n1 c0 c1 : Nat} {l0 l0' l1 l1' : List Int} {m m' : Int} {w : World} (hbw : b ≤ w.heap.size)
    (hR : Kd.R (Kd.int .i64) 2 w b P0 (.slice A0 n0 c0) l0) (hS : Kd.R (Kd.int .i64) 2 w b P1 (.slice A1 n1 c1) l1) (hne : ∀ q, P1 q → some q ≠ (Value.slice A0 n0 c0).ownBlock) (h : laws_markSnap.f k a0 a1 l0 l1 m = some (m', l0', l1')) :
    Calls Try.prog 29 #[.agg #[.int .u32 a0, .int .u32 a1, .slice A0 n0 c0, .slice A1 n1 c1], .int .i64 m] w fun e w' => e = .returned (.int .i64 m') ∧ Kd.R (Kd.int .i64) 2 w' b P0 (.slice A0 n0 c0) l0' ∧ Kd.R (Kd.int .i64) 2 w' b P1 (.slice A1 n1 c1) l1' ∧ Stp (fun q => P0 q ∨ P1 q) w w' := by
  have hs := trunc_size hbw
  have hb := trunc_below hbw
  have t0 : Kd.R (Kd.int .i64) 2 w b (fun q => some q = (Value.slice A0 n0 c0).ownBlock) (.slice A0 n0 c0) l0 := Kd.R_tight rfl hR
  have t1 : Kd.R (Kd.int .i64) 2 w b (fun q => some q = (Value.slice A1 n1 c1).ownBlock) (.slice A1 n1 c1) l1 := Kd.R_tight rfl hS
  refine (laws_markSnap.calls k a0 a1 (fun q => some q = (Value.slice A0 n0 c0).ownBlock) _ l0 (fun q => some q = (Value.slice A1 n1 c1).ownBlock) _ l1 m m' l0' l1' (trunc w b) w (by rw [hs]; exact hb) (by rw [hs]; exact t0) (fun q h0 h1 => hne q (hS.1 q h1.symm) h0) (by rw [hs]; exact t1) (fun q h1 h0 => hne q (hS.1 q h1.symm) h0) h).mono ?_
  rintro e w' ⟨rfl, hr', hs', hb', hk⟩
  rw [hs] at hr' hs' hb'
  exact ⟨rfl, Kd.R_mono (Kd.R_tight rfl hr') (fun q hq => hR.1 q hq.symm), Kd.R_mono (Kd.R_tight rfl hs') (fun q hq => hS.1 q hq.symm), ⟨hb'.os.trans hb.os.symm, hb'.tape.trans hb.tape.symm, hb'.output.trans hb.output.symm, hk.1, fun i hi hn => hk.2 i hi (fun h => hn (h.elim (fun h => .inl (hR.1 i h.symm)) (fun h => .inr (hS.1 i h.symm))))⟩⟩
end Go.Proofs.Ytgfadfahbhcllaa.Q
namespace Go.Proofs.Ytgfadfahbhcllaa.Q
open Go.RowKit Go.Proofs.YtgfadfahbhcllaaW.PrintWords Go.Proofs.YtgfadfahbhcllaaW.PrintLast Go.Proofs.Ytgfadfahbhcllaa.LK Go.Proofs.YtgfadfahbhcllaaW.PrintMore
attribute [local go_sem] max2_int min2_int max_two min_two max_three min_three max_four min_four   -- for this text's walks alone
set_option linter.unusedVariables false
set_option linter.unusedSimpArgs false

/-! ### laws_FnExactEncodeSnap: function 7 -/
def laws_FnExactEncodeSnap.f (k : Nat) (a0_0 : Int) (a0_1 : Int) (l0_2 : List Int) (l0_3 : List Int) : Option (Bool) := (laws_szSnap.f a0_0 a0_1 l0_2 l0_3 1048576).bind fun t102 => (if t102 < 0 then (some true) else ((laws_toSnap.f k a0_0 a0_1 l0_2 l0_3).bind fun bt103 => ((spec_EncodeSnap.f k bt103.1 bt103.2.1 bt103.2.2.1 bt103.2.2.2).bind fun t111 => ((laws_toSnap.f k a0_0 a0_1 l0_2 l0_3).bind fun bt114 => ((impl_EncodeSnap.f bt114.1 bt114.2.1 bt114.2.2.1 bt114.2.2.2).bind fun t123 => ((laws_eqByteS.f k t123 t111).bind fun t126 => (if t126 = true then ((laws_toSnap.f k a0_0 a0_1 l0_2 l0_3).bind fun bt127 => ((laws_eqSnap.f k bt114.1 bt114.2.1 bt114.2.2.1 bt114.2.2.2 bt127.1 bt127.2.1 bt127.2.2.1 bt127.2.2.2).bind fun t135 => (if t135 = true then ((laws_markSnap.f k bt114.1 bt114.2.1 bt114.2.2.1 bt114.2.2.2 1).bind fun bt136 => (if bt136.1 < 0 then (some false) else ((laws_eqByteS.f k t123 t111).bind fun t139 => (if t139 = true then ((laws_markByteS.f k t123 1).bind fun bt140 => ((laws_heldByteS.f k bt140.2 1).bind fun t142 => (if t142 < 0 then (some false) else (if t142 = bt140.1 then ((laws_toSnap.f k a0_0 a0_1 l0_2 l0_3).bind fun bt143 => ((impl_EncodeSnap.f bt143.1 bt143.2.1 bt143.2.2.1 bt143.2.2.2).bind fun t151 => ((laws_eqByteS.f k t151 t111).bind fun t154 => (if t154 = true then (some true) else (some false))))) else (some false))))) else (some false))))) else (some false)))) else (some false))))))))
theorem laws_FnExactEncodeSnap.mono : ∀ a0 a1 a2 a3 k, LeO (laws_FnExactEncodeSnap.f k a0 a1 a2 a3) (laws_FnExactEncodeSnap.f (k + 1) a0 a1 a2 a3) := by
  intro a0 a1 a2 a3 k
  unfold laws_FnExactEncodeSnap.f
  repeat' first
      | (with_reducible exact laws_eqByteS.mono _ _ _)
      | (with_reducible exact laws_eqSnap.mono _ _ _ _ _ _ _ _ _)
      | (with_reducible exact laws_heldByteS.mono _ _ _)
      | (with_reducible exact laws_markByteS.mono _ _ _)
      | (with_reducible exact laws_markSnap.mono _ _ _ _ _ _)
      | (with_reducible exact laws_toSnap.mono _ _ _ _ _)
      | (with_reducible exact spec_EncodeSnap.mono _ _ _ _ _)
      | (with_reducible exact LeO.refl _)
      | (with_reducible exact LeO.none _)
      | (with_reducible refine LeO.ite ?_ ?_)
      | (with_reducible refine LeO.bind ?_ (fun _ => ?_))
      | exact laws_eqByteS.mono _ _ _
      | exact laws_eqSnap.mono _ _ _ _ _ _ _ _ _
      | exact laws_heldByteS.mono _ _ _
      | exact laws_markByteS.mono _ _ _
      | exact laws_markSnap.mono _ _ _ _ _ _
      | exact laws_toSnap.mono _ _ _ _ _
      | exact spec_EncodeSnap.mono _ _ _ _ _
      | exact LeO.none _
      | refine LeO.ite ?_ ?_
      | refine LeO.bind ?_ (fun _ => ?_)
set_option maxHeartbeats 8000000 in
set_option maxRecDepth 100000 in
theorem laws_FnExactEncodeSnap.calls (k : Nat) (a0_0 : Int) (a0_1 : Int) (A0_2 : Option Addr) (c0_2 : Nat) (l0_2 : List Int) (A0_3 : Option Addr) (c0_3 : Nat) (l0_3 : List Int) (w : World) (hr0_2 : Kd.C (Kd.int .i64) w A0_2 l0_2.length l0_2) (hc0_2 : l0_2.length ≤ c0_2) (hr0_3 : Kd.C (Kd.int .i64) w A0_3 l0_3.length l0_3) (hc0_3 : l0_3.length ≤ c0_3) (h : laws_FnExactEncodeSnap.f k a0_0 a0_1 l0_2 l0_3 = some true) :
    Calls Try.prog 7 #[.agg #[.int .u32 a0_0, .int .u32 a0_1, .slice A0_2 l0_2.length c0_2, .slice A0_3 l0_3.length c0_3]] w fun e w' => e = .returned (.bool true) ∧ Below w.heap.size w w' := by
  have hu41 := Try.underlying41
  have hu44 := Try.underlying44
  have HR0_2 := Aside0.mk hr0_2
  have HC0_2 := Aside0.mk hc0_2
  clear hr0_2 hc0_2
  have HR0_3 := Aside0.mk hr0_3
  have HC0_3 := Aside0.mk hc0_3
  clear hr0_3 hc0_3
  have HB := Aside0.mk (Below.refl w.heap.size w)
  have H : ((laws_szSnap.f a0_0 a0_1 l0_2 l0_3 1048576).bind fun t102 => (if t102 < 0 then (some true) else ((laws_toSnap.f k a0_0 a0_1 l0_2 l0_3).bind fun bt103 => ((spec_EncodeSnap.f k bt103.1 bt103.2.1 bt103.2.2.1 bt103.2.2.2).bind fun t111 => ((laws_toSnap.f k a0_0 a0_1 l0_2 l0_3).bind fun bt114 => ((impl_EncodeSnap.f bt114.1 bt114.2.1 bt114.2.2.1 bt114.2.2.2).bind fun t123 => ((laws_eqByteS.f k t123 t111).bind fun t126 => (if t126 = true then ((laws_toSnap.f k a0_0 a0_1 l0_2 l0_3).bind fun bt127 => ((laws_eqSnap.f k bt114.1 bt114.2.1 bt114.2.2.1 bt114.2.2.2 bt127.1 bt127.2.1 bt127.2.2.1 bt127.2.2.2).bind fun t135 => (if t135 = true then ((laws_markSnap.f k bt114.1 bt114.2.1 bt114.2.2.1 bt114.2.2.2 1).bind fun bt136 => (if bt136.1 < 0 then (some false) else ((laws_eqByteS.f k t123 t111).bind fun t139 => (if t139 = true then ((laws_markByteS.f k t123 1).bind fun bt140 => ((laws_heldByteS.f k bt140.2 1).bind fun t142 => (if t142 < 0 then (some false) else (if t142 = bt140.1 then ((laws_toSnap.f k a0_0 a0_1 l0_2 l0_3).bind fun bt143 => ((impl_EncodeSnap.f bt143.1 bt143.2.1 bt143.2.2.1 bt143.2.2.2).bind fun t151 => ((laws_eqByteS.f k t151 t111).bind fun t154 => (if t154 = true then (some true) else (some false))))) else (some false))))) else (some false))))) else (some false)))) else (some false))))))))) = some true := h
  clear h
  replace H := Option.bind_eq_some_iff.mp H
  obtain ⟨t102, A1_, H⟩ := H
  have A1 := Aside0.mk A1_
  clear A1_
  (try dsimp only at H)
  by_cases c2 : t102 < 0
  · rw [if_pos c2] at H
    have c2b0 : decide (t102 < 0) = true := decide_eq_true c2
    clear c2
    clear H
    (try clear HB)
    have H0 := Aside0.mk (Hist.refl w)
    go_enter Try.func7, Try.ntmps7
    go_wp2_with (first | ((with_reducible refine gate_dst (N := 1) rfl ?_); refine mk ?hw (N := 1) ?hd (cs := #[.int .u32 a0_0, .int .u32 a0_1, .slice A0_2 l0_2.length c0_2, .slice A0_3 l0_3.length c0_3]) (t := 41) ?hr ?_; (case hd => rfl); (case hw => rfl); (case hr => first | (go_simp; done) | (go_simp; rfl)); intro g3 hg7 w4 hbox6 hb5; have H8 := Aside0.mk (Hist.step H0.out hb5); clear H0; have B9 := Aside0.mk hbox6; have G10 := Aside0.mk (Nat.le_of_eq hg7.symm); have L11 := Aside0.mk (blk_lt hbox6); clear hb5 hbox6 hg7; refine normL (a' := ?_) ?hn ?_; (case hn => first | (simp only [Act.put, List.setIfInBounds_toArray, List.set_cons_zero, List.set_cons_succ]; rfl) | rfl)) | ((with_reducible refine gate_dst (N := 11) rfl ?_); refine ld ?hw rfl ?hx (blk_fix2 B9.out ⟨G10.out, L11.out⟩ H8.out.fixes.hd) Try.underlying41 rfl (by kernel_rfl) ?_; (case hw => rfl); (case hx => rfl); refine normL (a' := ?_) ?hn ?_; (case hn => first | (simp only [Act.put, List.setIfInBounds_toArray, List.set_cons_zero, List.set_cons_succ]; rfl) | rfl)) | (((with_reducible refine gate_callee (f := 24) rfl ?_)); refine goesW (some 13) rfl ?hw Try.func24 (by kernel_rfl) rfl #[.agg #[.int .u32 a0_0, .int .u32 a0_1, .slice A0_2 l0_2.length c0_2, .slice A0_3 l0_3.length c0_3], .int .i64 1048576] rfl (by (try simp only [List.map_toArray, List.map_cons, List.map_nil]); first | done | rfl | (simp only [List.length_drop, List.length_take]; rfl)) ?_; (case hw => rfl); with_reducible refine (laws_szSnap.calls a0_0 a0_1 _ _ l0_2 _ _ l0_3 1048576 t102 _ ?side1 ?side2 ?side3 ?side4 A1.out).mono ?_; (case side1 => exact Kd.C_below HR0_2.out H8.out.below); (case side2 => exact HC0_2.out); (case side3 => exact Kd.C_below HR0_3.out H8.out.below); (case side4 => exact HC0_3.out); rintro e w12 ⟨rfl, hb13⟩; refine ⟨_, rfl, ?_⟩; have H14 := Aside0.mk (Hist.pass H8.out hb13); clear H8; clear hb13; refine normL (a' := ?_) ?hn ?_; (case hn => first | (simp only [Act.put, List.setIfInBounds_toArray, List.set_cons_zero, List.set_cons_succ]; rfl) | rfl)))
    go_ret
    exact ⟨rfl, by first | exact H14.out.below | exact Drawn0.refl _⟩
  · rw [if_neg c2] at H
    have c2b0 : decide (t102 < 0) = false := decide_eq_false c2
    clear c2
    replace H := Option.bind_eq_some_iff.mp H
    obtain ⟨⟨t103, t104, t105, t108⟩, A15_, H⟩ := H
    have A15 := Aside0.mk A15_
    clear A15_
    (try dsimp only at H)
    replace H := Option.bind_eq_some_iff.mp H
    obtain ⟨t111, A16_, H⟩ := H
    have A16 := Aside0.mk A16_
    clear A16_
    (try dsimp only at H)
    replace H := Option.bind_eq_some_iff.mp H
    obtain ⟨⟨t114, t115, t116, t119⟩, A17_, H⟩ := H
    have A17 := Aside0.mk A17_
    clear A17_
    (try dsimp only at H)
    replace H := Option.bind_eq_some_iff.mp H
    obtain ⟨t123, A18_, H⟩ := H
    have A18 := Aside0.mk A18_
    clear A18_
    (try dsimp only at H)
    replace H := Option.bind_eq_some_iff.mp H
    obtain ⟨t126, A19_, H⟩ := H
    have A19 := Aside0.mk A19_
    clear A19_
    (try dsimp only at H)
    by_cases c20 : t126 = true
    · rw [if_pos c20] at H
      subst c20
      replace H := Option.bind_eq_some_iff.mp H
      obtain ⟨⟨t127, t128, t129, t132⟩, A21_, H⟩ := H
      have A21 := Aside0.mk A21_
      clear A21_
      (try dsimp only at H)
      replace H := Option.bind_eq_some_iff.mp H
      obtain ⟨t135, A22_, H⟩ := H
      have A22 := Aside0.mk A22_
      clear A22_
      (try dsimp only at H)
      by_cases c23 : t135 = true
      · rw [if_pos c23] at H
        subst c23
        replace H := Option.bind_eq_some_iff.mp H
        obtain ⟨⟨t136, t137, t138⟩, A24_, H⟩ := H
        have A24 := Aside0.mk A24_
        clear A24_
        (try dsimp only at H)
        by_cases c25 : t136 < 0
        · rw [if_pos c25] at H
          exact absurd H (by simp)
        · rw [if_neg c25] at H
          have c25b0 : decide (t136 < 0) = false := decide_eq_false c25
          clear c25
          replace H := Option.bind_eq_some_iff.mp H
          obtain ⟨t139, A26_, H⟩ := H
          have A26 := Aside0.mk A26_
          clear A26_
          (try dsimp only at H)
          by_cases c27 : t139 = true
          · rw [if_pos c27] at H
            subst c27
            replace H := Option.bind_eq_some_iff.mp H
            obtain ⟨⟨t140, t141⟩, A28_, H⟩ := H
            have A28 := Aside0.mk A28_
            clear A28_
            (try dsimp only at H)
            replace H := Option.bind_eq_some_iff.mp H
            obtain ⟨t142, A29_, H⟩ := H
            have A29 := Aside0.mk A29_
            clear A29_
            (try dsimp only at H)
            by_cases c30 : t142 < 0
            · rw [if_pos c30] at H
              exact absurd H (by simp)
            · rw [if_neg c30] at H
              have c30b0 : decide (t142 < 0) = false := decide_eq_false c30
              clear c30
              by_cases c31 : t142 = t140
              · rw [if_pos c31] at H
                have c31b0 : (t142 == t140) = true := beq_iff_eq.mpr c31
                have c31b1 : (t142 != t140) = false := bne_eq_false_iff_eq.mpr c31
                clear c31
                replace H := Option.bind_eq_some_iff.mp H
                obtain ⟨⟨t143, t144, t145, t148⟩, A32_, H⟩ := H
                have A32 := Aside0.mk A32_
                clear A32_
                (try dsimp only at H)
                replace H := Option.bind_eq_some_iff.mp H
                obtain ⟨t151, A33_, H⟩ := H
                have A33 := Aside0.mk A33_
                clear A33_
                (try dsimp only at H)
                replace H := Option.bind_eq_some_iff.mp H
                obtain ⟨t154, A34_, H⟩ := H
                have A34 := Aside0.mk A34_
                clear A34_
                (try dsimp only at H)
                by_cases c35 : t154 = true
                · rw [if_pos c35] at H
                  subst c35
                  clear H
                  (try clear HB)
                  have H0 := Aside0.mk (Hist.refl w)
                  go_enter Try.func7, Try.ntmps7
                  go_wp2_with (first | ((with_reducible refine gate_dst (N := 1) rfl ?_); refine mk ?hw (N := 1) ?hd (cs := #[.int .u32 a0_0, .int .u32 a0_1, .slice A0_2 l0_2.length c0_2, .slice A0_3 l0_3.length c0_3]) (t := 41) ?hr ?_; (case hd => rfl); (case hw => rfl); (case hr => first | (go_simp; done) | (go_simp; rfl)); intro g36 hg40 w37 hbox39 hb38; have H41 := Aside0.mk (Hist.step H0.out hb38); clear H0; have B42 := Aside0.mk hbox39; have G43 := Aside0.mk (Nat.le_of_eq hg40.symm); have L44 := Aside0.mk (blk_lt hbox39); clear hb38 hbox39 hg40; refine normL (a' := ?_) ?hn ?_; (case hn => first | (simp only [Act.put, List.setIfInBounds_toArray, List.set_cons_zero, List.set_cons_succ]; rfl) | rfl)) | ((with_reducible refine gate_dst (N := 11) rfl ?_); refine ld ?hw rfl ?hx (blk_fix2 B42.out ⟨G43.out, L44.out⟩ H41.out.fixes.hd) Try.underlying41 rfl (by kernel_rfl) ?_; (case hw => rfl); (case hx => rfl); refine normL (a' := ?_) ?hn ?_; (case hn => first | (simp only [Act.put, List.setIfInBounds_toArray, List.set_cons_zero, List.set_cons_succ]; rfl) | rfl)) | (((with_reducible refine gate_callee (f := 24) rfl ?_)); refine goesW (some 13) rfl ?hw Try.func24 (by kernel_rfl) rfl #[.agg #[.int .u32 a0_0, .int .u32 a0_1, .slice A0_2 l0_2.length c0_2, .slice A0_3 l0_3.length c0_3], .int .i64 1048576] rfl (by (try simp only [List.map_toArray, List.map_cons, List.map_nil]); first | done | rfl | (simp only [List.length_drop, List.length_take]; rfl)) ?_; (case hw => rfl); with_reducible refine (laws_szSnap.calls a0_0 a0_1 _ _ l0_2 _ _ l0_3 1048576 t102 _ ?side1 ?side2 ?side3 ?side4 A1.out).mono ?_; (case side1 => exact Kd.C_below HR0_2.out H41.out.below); (case side2 => exact HC0_2.out); (case side3 => exact Kd.C_below HR0_3.out H41.out.below); (case side4 => exact HC0_3.out); rintro e w45 ⟨rfl, hb46⟩; refine ⟨_, rfl, ?_⟩; have H47 := Aside0.mk (Hist.pass H41.out hb46); clear H41; clear hb46; refine normL (a' := ?_) ?hn ?_; (case hn => first | (simp only [Act.put, List.setIfInBounds_toArray, List.set_cons_zero, List.set_cons_succ]; rfl) | rfl)) | ((with_reducible refine gate_dst (N := 16) rfl ?_); refine ld ?hw rfl ?hx (blk_fix2 B42.out ⟨G43.out, L44.out⟩ H47.out.fixes.hd) Try.underlying41 rfl (by kernel_rfl) ?_; (case hw => rfl); (case hx => rfl); refine normL (a' := ?_) ?hn ?_; (case hn => first | (simp only [Act.put, List.setIfInBounds_toArray, List.set_cons_zero, List.set_cons_succ]; rfl) | rfl)) | (((with_reducible refine gate_callee (f := 26) rfl ?_)); refine goesW (some 17) rfl ?hw Try.func26 (by kernel_rfl) rfl #[.agg #[.int .u32 a0_0, .int .u32 a0_1, .slice A0_2 l0_2.length c0_2, .slice A0_3 l0_3.length c0_3]] rfl (by (try simp only [List.map_toArray, List.map_cons, List.map_nil]); first | done | rfl | (simp only [List.length_drop, List.length_take]; rfl)) ?_; (case hw => rfl); with_reducible refine (laws_toSnap.calls k a0_0 a0_1 _ _ l0_2 _ _ l0_3 t103 t104 t105 t108 _ ?side1 ?side2 ?side3 ?side4 A15.out).mono ?_; (case side1 => exact Kd.C_below HR0_2.out H47.out.below); (case side2 => exact HC0_2.out); (case side3 => exact Kd.C_below HR0_3.out H47.out.below); (case side4 => exact HC0_3.out); rintro e w48 ⟨v49, v50, rfl, ho51, ho52, hb53⟩; refine ⟨_, rfl, ?_⟩; have H54 := Aside0.mk (Hist.step H47.out hb53); clear H47; clear hb53; have F57 := Aside0.mk ho51; clear ho51; have F61 := Aside0.mk ho52; clear ho52; obtain ⟨Ao55, co56, eo63⟩ := Kd.R_slice F57.out; (first | subst eo63 | (injection eo63 with f1_ f2_ f3_; have f4_ := f1_.symm; have f5_ := f3_.symm; clear f1_ f2_ f3_; subst f4_; subst f5_)); obtain ⟨Ao59, co60, eo64⟩ := Kd.R_slice F61.out; (first | subst eo64 | (injection eo64 with f1_ f2_ f3_; have f4_ := f1_.symm; have f5_ := f3_.symm; clear f1_ f2_ f3_; subst f4_; subst f5_)); refine normL (a' := ?_) ?hn ?_; (case hn => first | (simp only [Act.put, List.setIfInBounds_toArray, List.set_cons_zero, List.set_cons_succ]; rfl) | rfl)) | (((with_reducible refine gate_callee (f := 25) rfl ?_)); refine goesW (some 18) rfl ?hw Try.func25 (by kernel_rfl) rfl #[.agg #[.int .u32 t103, .int .u32 t104, .slice Ao55 t105.length co56, .slice Ao59 t108.length co60]] rfl (by (try simp only [List.map_toArray, List.map_cons, List.map_nil]); first | done | rfl | (simp only [List.length_drop, List.length_take]; rfl)) ?_; (case hw => rfl); with_reducible refine (spec_EncodeSnap.calls k t103 t104 _ _ t105 _ _ t108 t111 _ ?side1 ?side2 ?side3 ?side4 A16.out).mono ?_; (case side1 => exact (Kd.R_reads' (R_fix F57.out H54.out.fixes.hd)).2.2); (case side2 => exact R_capn (R_fix F57.out H54.out.fixes.hd)); (case side3 => exact (Kd.R_reads' (R_fix F61.out H54.out.fixes.hd)).2.2); (case side4 => exact R_capn (R_fix F61.out H54.out.fixes.hd)); rintro e w65 ⟨v66, rfl, ho67, hb68⟩; refine ⟨_, rfl, ?_⟩; have H69 := Aside0.mk (Hist.step H54.out hb68); clear H54; clear hb68; have F72 := Aside0.mk ho67; clear ho67; obtain ⟨Ao70, co71, eo74⟩ := Kd.R_slice F72.out; (first | subst eo74 | (injection eo74 with f1_ f2_ f3_; have f4_ := f1_.symm; have f5_ := f3_.symm; clear f1_ f2_ f3_; subst f4_; subst f5_)); refine normL (a' := ?_) ?hn ?_; (case hn => first | (simp only [Act.put, List.setIfInBounds_toArray, List.set_cons_zero, List.set_cons_succ]; rfl) | rfl)) | ((with_reducible refine gate_dst (N := 19) rfl ?_); refine ld ?hw rfl ?hx (blk_fix2 B42.out ⟨G43.out, L44.out⟩ H69.out.fixes.tl.tl.hd) Try.underlying41 rfl (by kernel_rfl) ?_; (case hw => rfl); (case hx => rfl); refine normL (a' := ?_) ?hn ?_; (case hn => first | (simp only [Act.put, List.setIfInBounds_toArray, List.set_cons_zero, List.set_cons_succ]; rfl) | rfl)) | (((with_reducible refine gate_callee (f := 26) rfl ?_)); refine goesW (some 20) rfl ?hw Try.func26 (by kernel_rfl) rfl #[.agg #[.int .u32 a0_0, .int .u32 a0_1, .slice A0_2 l0_2.length c0_2, .slice A0_3 l0_3.length c0_3]] rfl (by (try simp only [List.map_toArray, List.map_cons, List.map_nil]); first | done | rfl | (simp only [List.length_drop, List.length_take]; rfl)) ?_; (case hw => rfl); with_reducible refine (laws_toSnap.calls k a0_0 a0_1 _ _ l0_2 _ _ l0_3 t114 t115 t116 t119 _ ?side1 ?side2 ?side3 ?side4 A17.out).mono ?_; (case side1 => exact Kd.C_below HR0_2.out H69.out.below); (case side2 => exact HC0_2.out); (case side3 => exact Kd.C_below HR0_3.out H69.out.below); (case side4 => exact HC0_3.out); rintro e w75 ⟨v76, v77, rfl, ho78, ho79, hb80⟩; refine ⟨_, rfl, ?_⟩; have H81 := Aside0.mk (Hist.step H69.out hb80); clear H69; clear hb80; have F84 := Aside0.mk ho78; clear ho78; have F88 := Aside0.mk ho79; clear ho79; obtain ⟨Ao82, co83, eo90⟩ := Kd.R_slice F84.out; (first | subst eo90 | (injection eo90 with f1_ f2_ f3_; have f4_ := f1_.symm; have f5_ := f3_.symm; clear f1_ f2_ f3_; subst f4_; subst f5_)); obtain ⟨Ao86, co87, eo91⟩ := Kd.R_slice F88.out; (first | subst eo91 | (injection eo91 with f1_ f2_ f3_; have f4_ := f1_.symm; have f5_ := f3_.symm; clear f1_ f2_ f3_; subst f4_; subst f5_)); refine normL (a' := ?_) ?hn ?_; (case hn => first | (simp only [Act.put, List.setIfInBounds_toArray, List.set_cons_zero, List.set_cons_succ]; rfl) | rfl)) | ((with_reducible refine gate_dst (N := 5) rfl ?_); refine mk ?hw (N := 5) ?hd (cs := #[.int .u32 0, .int .u32 0, .slice none 0 0, .slice none 0 0]) (t := 44) ?hr ?_; (case hd => rfl); (case hw => rfl); (case hr => first | (go_simp; done) | (go_simp; rfl)); intro g92 hg96 w93 hbox95 hb94; have H97 := Aside0.mk (Hist.step H81.out hb94); clear H81; have B98 := Aside0.mk hbox95; have G99 := Aside0.mk (Nat.le_of_eq hg96.symm); have L100 := Aside0.mk (blk_lt hbox95); clear hb94 hbox95 hg96; refine normL (a' := ?_) ?hn ?_; (case hn => first | (simp only [Act.put, List.setIfInBounds_toArray, List.set_cons_zero, List.set_cons_succ]; rfl) | rfl)) | ((with_reducible refine gate_store (t := 44) (p := 5) rfl ?_); refine st_all ?hw ?hN rfl ?hp (cs := #[.int .u32 t114, .int .u32 t115, .slice Ao82 t116.length co83, .slice Ao86 t119.length co87]) ?hx (blk_fix2 B98.out ⟨G99.out, L100.out⟩ H97.out.fixes.hd) (by kernel_rfl) rfl (by simp [Value.oneCell']) ?_; (case hw => rfl); (case hN => rfl); (case hp => rfl); (case hx => rfl); intro w101 hbox102 hs103; have H104 : Aside0 (Hist w [(w101, w75.heap.size, w93.heap.size), (w75, w65.heap.size, w75.heap.size), (w65, w48.heap.size, w65.heap.size), (w48, w45.heap.size, w48.heap.size), (w37, w.heap.size, w37.heap.size)] w101) := ⟨Hist.mark' (w := w93) (b := w75.heap.size) (t := w93.heap.size) (l1 := []) (l2 := [(w75, w65.heap.size, w75.heap.size), (w65, w48.heap.size, w65.heap.size), (w48, w45.heap.size, w48.heap.size), (w37, w.heap.size, w37.heap.size)]) (by simp only [List.cons_append, List.nil_append]) (by simp only [List.cons_append, List.nil_append]) H97.out hs103 (fun k_ hk_ => by rw [hk_]; exact ⟨G99.out, L100.out⟩)⟩; have B98n := Aside0.mk hbox102; clear hs103 hbox102 H97 B98; have B98 := B98n; clear B98n) | ((with_reducible refine gate_dst (N := 21) rfl ?_); refine ld ?hw rfl ?hx (blk_fix2 B98.out ⟨G99.out, L100.out⟩ H104.out.fixes.hd) Try.underlying44 rfl (by kernel_rfl) ?_; (case hw => rfl); (case hx => rfl); refine normL (a' := ?_) ?hn ?_; (case hn => first | (simp only [Act.put, List.setIfInBounds_toArray, List.set_cons_zero, List.set_cons_succ]; rfl) | rfl)) | (((with_reducible refine gate_callee (f := 27) rfl ?_)); refine goesW (some 22) rfl ?hw Try.func27 (by kernel_rfl) rfl #[.agg #[.int .u32 t114, .int .u32 t115, .slice Ao82 t116.length co83, .slice Ao86 t119.length co87]] rfl (by (try simp only [List.map_toArray, List.map_cons, List.map_nil]); first | done | rfl | (simp only [List.length_drop, List.length_take]; rfl)) ?_; (case hw => rfl); with_reducible refine (impl_EncodeSnap.calls t114 t115 _ _ t116 _ _ t119 t123 _ ?side1 ?side2 ?side3 ?side4 A18.out).mono ?_; (case side1 => exact (Kd.R_reads' (R_fix F84.out H104.out.fixes.tl.hd)).2.2); (case side2 => exact R_capn (R_fix F84.out H104.out.fixes.tl.hd)); (case side3 => exact (Kd.R_reads' (R_fix F88.out H104.out.fixes.tl.hd)).2.2); (case side4 => exact R_capn (R_fix F88.out H104.out.fixes.tl.hd)); rintro e w105 ⟨v106, rfl, ho107, hb108⟩; refine ⟨_, rfl, ?_⟩; have H109 := Aside0.mk (Hist.step H104.out hb108); clear H104; clear hb108; have F112 := Aside0.mk ho107; clear ho107; obtain ⟨Ao110, co111, eo114⟩ := Kd.R_slice F112.out; (first | subst eo114 | (injection eo114 with f1_ f2_ f3_; have f4_ := f1_.symm; have f5_ := f3_.symm; clear f1_ f2_ f3_; subst f4_; subst f5_)); refine normL (a' := ?_) ?hn ?_; (case hn => first | (simp only [Act.put, List.setIfInBounds_toArray, List.set_cons_zero, List.set_cons_succ]; rfl) | rfl)) | (((with_reducible refine gate_callee (f := 14) rfl ?_)); refine goesW (some 25) rfl ?hw Try.func14 (by kernel_rfl) rfl #[.slice Ao110 t123.length co111, .slice Ao70 t111.length co71] rfl (by (try simp only [List.map_toArray, List.map_cons, List.map_nil]); first | done | rfl | (simp only [List.length_drop, List.length_take]; rfl)) ?_; (case hw => rfl); with_reducible refine (laws_eqByteS.calls k _ _ t123 _ _ t111 true _ ?side1 ?side2 ?side3 ?side4 A19.out).mono ?_; (case side1 => exact (Kd.R_reads' (R_fix F112.out H109.out.fixes.hd)).2.2); (case side2 => exact R_capn (R_fix F112.out H109.out.fixes.hd)); (case side3 => exact (Kd.R_reads' (R_fix F72.out H109.out.fixes.tl.tl.tl.hd)).2.2); (case side4 => exact R_capn (R_fix F72.out H109.out.fixes.tl.tl.tl.hd)); rintro e w115 ⟨rfl, hd_⟩; have hb116 := hd_.below; clear hd_; refine ⟨_, rfl, ?_⟩; have H117 := Aside0.mk (Hist.pass H109.out hb116); clear H109; clear hb116; refine normL (a' := ?_) ?hn ?_; (case hn => first | (simp only [Act.put, List.setIfInBounds_toArray, List.set_cons_zero, List.set_cons_succ]; rfl) | rfl)))
                  have H118 := Aside0.mk (Hist.drew H117.out)
                  clear H117
                  refine start_ (n := 5) (S := fun w' => w'.heap[g92]? = some (.cells #[.int .u32 t114, .int .u32 t115, .slice Ao82 t116.length co83, .slice Ao86 t119.length co87] 44 (0, 0)) ∧ w'.heap[g36]? = some (.cells #[.int .u32 a0_0, .int .u32 a0_1, .slice A0_2 l0_2.length c0_2, .slice A0_3 l0_3.length c0_3] 41 (0, 0))) (ds := []) #[false, false, false, false, false] (by kernel_rfl) rfl rfl ⟨(blk_fix2 B98.out ⟨G99.out, L100.out⟩ H118.out.fixes.tl.hd), (blk_fix2 B42.out ⟨G43.out, L44.out⟩ H118.out.fixes.tl.tl.tl.tl.tl.hd)⟩ (fun hHeld => ?_)
                  generalize w115.drew = w119 at H118 hHeld ⊢
                  refine take_ (i := 0) (N := some 27) (v := .agg #[.int .u32 t114, .int .u32 t115, .slice Ao82 t116.length co83, .slice Ao86 t119.length co87]) (a' := ?aaq120) #[true, false, false, false, false] rfl rfl (by kernel_rfl) (fun _ _ _ h => h) (Or.inl ⟨by rfl, ?ylq120⟩) hHeld ?haq120 ?hhq120
                  case ylq120 =>
                    rintro w' ⟨s0, s1⟩
                    exact ld_run (x := .tmp 5) (by rfl) (by rfl) s0 Try.underlying44 rfl (by kernel_rfl)
                  case haq120 =>
                    simp only [Act.put, List.setIfInBounds_toArray, List.set_cons_zero, List.set_cons_succ, i64_w, i32_w]
                    rfl
                  refine take_ (i := 1) (N := some 28) (v := .agg #[.int .u32 a0_0, .int .u32 a0_1, .slice A0_2 l0_2.length c0_2, .slice A0_3 l0_3.length c0_3]) (a' := ?aaq121) #[true, true, false, false, false] rfl rfl (by kernel_rfl) (fun _ _ _ h => h) (Or.inl ⟨by rfl, ?ylq121⟩) hHeld ?haq121 ?hhq121
                  case ylq121 =>
                    rintro w' ⟨s0, s1⟩
                    exact ld_run (x := .tmp 1) (by rfl) (by rfl) s1 Try.underlying41 rfl (by kernel_rfl)
                  case haq121 =>
                    simp only [Act.put, List.setIfInBounds_toArray, List.set_cons_zero, List.set_cons_succ, i64_w, i32_w]
                    rfl
                  refine one_ (i := 2) (N := some 29) #[true, true, true, false, false] rfl rfl (by kernel_rfl) (by decide) (fun K hK => ?_)
                  refine goes_ Try.func26 (by kernel_rfl) rfl #[.agg #[.int .u32 a0_0, .int .u32 a0_1, .slice A0_2 l0_2.length c0_2, .slice A0_3 l0_3.length c0_3]] (by rfl) rfl rfl (by (try simp only [List.map_toArray, List.map_cons, List.map_nil]); first | done | rfl | (simp only [List.length_drop, List.length_take]; rfl)) ?_
                  with_reducible refine (laws_toSnap.calls k a0_0 a0_1 _ _ l0_2 _ _ l0_3 t127 t128 t129 t132 _ ?side1 ?side2 ?side3 ?side4 A21.out).mono ?_
                  (case side1 => exact Kd.C_below HR0_2.out H118.out.below)
                  (case side2 => exact HC0_2.out)
                  (case side3 => exact Kd.C_below HR0_3.out H118.out.below)
                  (case side4 => exact HC0_3.out)
                  rintro e w122 ⟨v123, v124, rfl, ho125, ho126, hb127⟩
                  refine ⟨_, rfl, ?_⟩
                  have H128 := Aside0.mk (Hist.step H118.out hb127)
                  clear H118
                  clear hb127
                  have F131 := Aside0.mk ho125
                  clear ho125
                  have F135 := Aside0.mk ho126
                  clear ho126
                  obtain ⟨Ao129, co130, eo137⟩ := Kd.R_slice F131.out
                  (first | subst eo137 | (injection eo137 with f1_ f2_ f3_; have f4_ := f1_.symm; have f5_ := f3_.symm; clear f1_ f2_ f3_; subst f4_; subst f5_))
                  obtain ⟨Ao133, co134, eo138⟩ := Kd.R_slice F135.out
                  (first | subst eo138 | (injection eo138 with f1_ f2_ f3_; have f4_ := f1_.symm; have f5_ := f3_.symm; clear f1_ f2_ f3_; subst f4_; subst f5_))
                  refine hK.out _ _ ⟨(blk_fix2 B98.out ⟨G99.out, L100.out⟩ H128.out.fixes.tl.tl.hd), (blk_fix2 B42.out ⟨G43.out, L44.out⟩ H128.out.fixes.tl.tl.tl.tl.tl.tl.hd)⟩ (fun hHeld => ?_)
                  clear hK K
                  refine norm_ (a' := ?_) ?_ ?_
                  rotate_left
                  · show Act.put _ (some 29) _ = _
                    simp only [Act.put, List.setIfInBounds_toArray, List.set_cons_zero, List.set_cons_succ, i64_w, i32_w]
                    rfl
                  refine one_ (i := 3) (N := some 30) #[true, true, true, true, false] rfl rfl (by kernel_rfl) (by decide) (fun K hK => ?_)
                  refine goes_ Try.func28 (by kernel_rfl) rfl #[.agg #[.int .u32 t114, .int .u32 t115, .slice Ao82 t116.length co83, .slice Ao86 t119.length co87], .agg #[.int .u32 t127, .int .u32 t128, .slice Ao129 t129.length co130, .slice Ao133 t132.length co134]] (by rfl) rfl rfl (by (try simp only [List.map_toArray, List.map_cons, List.map_nil]); first | done | rfl | (simp only [List.length_drop, List.length_take]; rfl)) ?_
                  with_reducible refine (laws_eqSnap.calls k t114 t115 _ _ t116 _ _ t119 t127 t128 _ _ t129 _ _ t132 true _ ?side1 ?side2 ?side3 ?side4 ?side5 ?side6 ?side7 ?side8 A22.out).mono ?_
                  (case side1 => exact (Kd.R_reads' (R_fix F84.out H128.out.fixes.tl.tl.tl.hd)).2.2)
                  (case side2 => exact R_capn (R_fix F84.out H128.out.fixes.tl.tl.tl.hd))
                  (case side3 => exact (Kd.R_reads' (R_fix F88.out H128.out.fixes.tl.tl.tl.hd)).2.2)
                  (case side4 => exact R_capn (R_fix F88.out H128.out.fixes.tl.tl.tl.hd))
                  (case side5 => exact (Kd.R_reads' (R_fix F131.out H128.out.fixes.hd)).2.2)
                  (case side6 => exact R_capn (R_fix F131.out H128.out.fixes.hd))
                  (case side7 => exact (Kd.R_reads' (R_fix F135.out H128.out.fixes.hd)).2.2)
                  (case side8 => exact R_capn (R_fix F135.out H128.out.fixes.hd))
                  rintro e w139 ⟨rfl, hb140⟩
                  refine ⟨_, rfl, ?_⟩
                  have H141 := Aside0.mk (Hist.pass H128.out hb140)
                  clear H128
                  clear hb140
                  refine hK.out _ _ ⟨(blk_fix2 B98.out ⟨G99.out, L100.out⟩ H141.out.fixes.tl.tl.hd), (blk_fix2 B42.out ⟨G43.out, L44.out⟩ H141.out.fixes.tl.tl.tl.tl.tl.tl.hd)⟩ (fun hHeld => ?_)
                  clear hK K
                  refine norm_ (a' := ?_) ?_ ?_
                  rotate_left
                  · show Act.put _ (some 30) _ = _
                    simp only [Act.put, List.setIfInBounds_toArray, List.set_cons_zero, List.set_cons_succ, i64_w, i32_w]
                    rfl
                  refine pure_ (i := 4) (N := some 31) (v := ?_) (a' := ?_) #[true, true, true, true, true] rfl rfl (by kernel_rfl) (fun _ _ _ h => h) (Or.inl ⟨by rfl, ?_⟩) ?_ ?_
                  rotate_left
                  · intro w'
                    go_simp
                    with_reducible rfl
                  rotate_left
                  · simp only [Act.put, List.setIfInBounds_toArray, List.set_cons_zero, List.set_cons_succ, i64_w, i32_w]
                    rfl
                  refine done_ (by kernel_rfl) ?_
                  go_wp2_with (first | ((with_reducible refine gate_dst (N := 32) rfl ?_); refine ld ?hw rfl ?hx (blk_fix2 B98.out ⟨G99.out, L100.out⟩ H141.out.fixes.tl.tl.hd) Try.underlying44 rfl (by kernel_rfl) ?_; (case hw => rfl); (case hx => rfl); refine normL (a' := ?_) ?hn ?_; (case hn => first | (simp only [Act.put, List.setIfInBounds_toArray, List.set_cons_zero, List.set_cons_succ]; rfl) | rfl)) | (((with_reducible refine gate_callee (f := 29) rfl ?_)); refine goesW (some 34) rfl ?hw Try.func29 (by kernel_rfl) rfl #[.agg #[.int .u32 t114, .int .u32 t115, .slice Ao82 t116.length co83, .slice Ao86 t119.length co87], .int .i64 1] rfl (by (try simp only [List.map_toArray, List.map_cons, List.map_nil]); first | done | rfl | (simp only [List.length_drop, List.length_take]; rfl)) ?_; (case hw => rfl); with_reducible refine (mk_laws_markSnap (Fixes.at (w := w75) (b := w65.heap.size) (t := w75.heap.size) (l1 := [(w122, w119.heap.size, w122.heap.size), (w105, w101.heap.size, w105.heap.size), (w101, w75.heap.size, w93.heap.size)]) (l2 := [(w65, w48.heap.size, w65.heap.size), (w48, w45.heap.size, w48.heap.size), (w37, w.heap.size, w37.heap.size)]) (by simp only [List.cons_append, List.nil_append]) H141.out.fixes) (R_fix F84.out H141.out.fixes.tl.tl.tl.hd) (R_fix F88.out H141.out.fixes.tl.tl.tl.hd) (fun _ h_ => h_.1) A24.out).mono ?_; rintro e w142 ⟨rfl, hr144, hr145, hs143⟩; refine ⟨_, rfl, ?_⟩; have H146 : Aside0 (Hist w [(w122, w119.heap.size, w122.heap.size), (w105, w101.heap.size, w105.heap.size), (w101, w75.heap.size, w93.heap.size), (w142, w65.heap.size, w75.heap.size), (w65, w48.heap.size, w65.heap.size), (w48, w45.heap.size, w48.heap.size), (w37, w.heap.size, w37.heap.size)] w142) := ⟨Hist.mark' (w := w75) (b := w65.heap.size) (t := w75.heap.size) (l1 := [(w122, w119.heap.size, w122.heap.size), (w105, w101.heap.size, w105.heap.size), (w101, w75.heap.size, w93.heap.size)]) (l2 := [(w65, w48.heap.size, w65.heap.size), (w48, w45.heap.size, w48.heap.size), (w37, w.heap.size, w37.heap.size)]) (by simp only [List.cons_append, List.nil_append]) (by simp only [List.cons_append, List.nil_append]) H141.out hs143 (fun k_ hk_ => by first | exact hk_.2 | (rcases hk_ with hk_ | hk_ <;> exact hk_.2))⟩; clear H141 hs143; have F147 := Aside0.mk hr144; have E148 := Aside0.mk (Kd.R_reads' hr144).1; clear hr144; have F149 := Aside0.mk hr145; have E150 := Aside0.mk (Kd.R_reads' hr145).1; clear hr145; refine normL (a' := ?_) ?hn ?_; (case hn => first | (simp only [Act.put, List.setIfInBounds_toArray, List.set_cons_zero, List.set_cons_succ]; rfl) | rfl)) | (((with_reducible refine gate_callee (f := 14) rfl ?_)); refine goesW (some 40) rfl ?hw Try.func14 (by kernel_rfl) rfl #[.slice Ao110 t123.length co111, .slice Ao70 t111.length co71] rfl (by (try simp only [List.map_toArray, List.map_cons, List.map_nil]); first | done | rfl | (simp only [List.length_drop, List.length_take]; rfl)) ?_; (case hw => rfl); with_reducible refine (laws_eqByteS.calls k _ _ t123 _ _ t111 true _ ?side1 ?side2 ?side3 ?side4 A26.out).mono ?_; (case side1 => exact (Kd.R_reads' (R_fix F112.out H146.out.fixes.tl.hd)).2.2); (case side2 => exact R_capn (R_fix F112.out H146.out.fixes.tl.hd)); (case side3 => exact (Kd.R_reads' (R_fix F72.out H146.out.fixes.tl.tl.tl.tl.hd)).2.2); (case side4 => exact R_capn (R_fix F72.out H146.out.fixes.tl.tl.tl.tl.hd)); rintro e w151 ⟨rfl, hd_⟩; have hb152 := hd_.below; clear hd_; refine ⟨_, rfl, ?_⟩; have H153 := Aside0.mk (Hist.pass H146.out hb152); clear H146; clear hb152; refine normL (a' := ?_) ?hn ?_; (case hn => first | (simp only [Act.put, List.setIfInBounds_toArray, List.set_cons_zero, List.set_cons_succ]; rfl) | rfl)) | (((with_reducible refine gate_callee (f := 15) rfl ?_)); refine goesW (some 45) rfl ?hw Try.func15 (by kernel_rfl) rfl #[.slice Ao110 t123.length co111, .int .i64 1] rfl (by (try simp only [List.map_toArray, List.map_cons, List.map_nil]); first | done | rfl | (simp only [List.length_drop, List.length_take]; rfl)) ?_; (case hw => rfl); with_reducible refine (markB (Fixes.at (w := w105) (b := w101.heap.size) (t := w105.heap.size) (l1 := [(w122, w119.heap.size, w122.heap.size)]) (l2 := [(w101, w75.heap.size, w93.heap.size), (w142, w65.heap.size, w75.heap.size), (w65, w48.heap.size, w65.heap.size), (w48, w45.heap.size, w48.heap.size), (w37, w.heap.size, w37.heap.size)]) (by simp only [List.cons_append, List.nil_append]) H153.out.fixes) (R_fix F112.out H153.out.fixes.tl.hd) A28.out).mono ?_; rintro e w154 ⟨rfl, hr156, hs155⟩; refine ⟨_, rfl, ?_⟩; have H157 : Aside0 (Hist w [(w122, w119.heap.size, w122.heap.size), (w154, w101.heap.size, w105.heap.size), (w101, w75.heap.size, w93.heap.size), (w142, w65.heap.size, w75.heap.size), (w65, w48.heap.size, w65.heap.size), (w48, w45.heap.size, w48.heap.size), (w37, w.heap.size, w37.heap.size)] w154) := ⟨Hist.mark' (w := w105) (b := w101.heap.size) (t := w105.heap.size) (l1 := [(w122, w119.heap.size, w122.heap.size)]) (l2 := [(w101, w75.heap.size, w93.heap.size), (w142, w65.heap.size, w75.heap.size), (w65, w48.heap.size, w65.heap.size), (w48, w45.heap.size, w48.heap.size), (w37, w.heap.size, w37.heap.size)]) (by simp only [List.cons_append, List.nil_append]) (by simp only [List.cons_append, List.nil_append]) H153.out hs155 (fun k_ hk_ => by first | exact hk_.2 | (rcases hk_ with hk_ <;> exact hk_.2))⟩; clear H153 hs155; have F158 := Aside0.mk hr156; have E159 := Aside0.mk (Kd.R_reads' hr156).1; clear hr156; refine normL (a' := ?_) ?hn ?_; (case hn => first | (simp only [Act.put, List.setIfInBounds_toArray, List.set_cons_zero, List.set_cons_succ]; rfl) | rfl)) | (((with_reducible refine gate_callee (f := 16) rfl ?_)); refine goesW (some 48) rfl ?hw Try.func16 (by kernel_rfl) rfl #[.slice Ao110 t141.length co111, .int .i64 1] rfl (by (try simp only [List.map_toArray, List.map_cons, List.map_nil]); first | done | rfl | (rw [← E159.out]; first | done | rfl) | (simp only [List.length_drop, List.length_take]; rfl)) ?_; (case hw => rfl); with_reducible refine (laws_heldByteS.calls k _ _ t141 1 t142 _ ?side1 ?side2 A29.out).mono ?_; (case side1 => exact (Kd.R_reads' (R_fix2 F158.out H157.out.fixes.tl.hd)).2.2); (case side2 => exact R_capn (R_fix2 F158.out H157.out.fixes.tl.hd)); rintro e w160 ⟨rfl, hd_⟩; have hb161 := hd_.below; clear hd_; refine ⟨_, rfl, ?_⟩; have H162 := Aside0.mk (Hist.pass H157.out hb161); clear H157; clear hb161; refine normL (a' := ?_) ?hn ?_; (case hn => first | (simp only [Act.put, List.setIfInBounds_toArray, List.set_cons_zero, List.set_cons_succ]; rfl) | rfl)) | ((with_reducible refine gate_dst (N := 54) rfl ?_); refine ld ?hw rfl ?hx (blk_fix2 B42.out ⟨G43.out, L44.out⟩ H162.out.fixes.tl.tl.tl.tl.tl.tl.hd) Try.underlying41 rfl (by kernel_rfl) ?_; (case hw => rfl); (case hx => rfl); refine normL (a' := ?_) ?hn ?_; (case hn => first | (simp only [Act.put, List.setIfInBounds_toArray, List.set_cons_zero, List.set_cons_succ]; rfl) | rfl)) | (((with_reducible refine gate_callee (f := 26) rfl ?_)); refine goesW (some 55) rfl ?hw Try.func26 (by kernel_rfl) rfl #[.agg #[.int .u32 a0_0, .int .u32 a0_1, .slice A0_2 l0_2.length c0_2, .slice A0_3 l0_3.length c0_3]] rfl (by (try simp only [List.map_toArray, List.map_cons, List.map_nil]); first | done | rfl | (simp only [List.length_drop, List.length_take]; rfl)) ?_; (case hw => rfl); with_reducible refine (laws_toSnap.calls k a0_0 a0_1 _ _ l0_2 _ _ l0_3 t143 t144 t145 t148 _ ?side1 ?side2 ?side3 ?side4 A32.out).mono ?_; (case side1 => exact Kd.C_below HR0_2.out H162.out.below); (case side2 => exact HC0_2.out); (case side3 => exact Kd.C_below HR0_3.out H162.out.below); (case side4 => exact HC0_3.out); rintro e w163 ⟨v164, v165, rfl, ho166, ho167, hb168⟩; refine ⟨_, rfl, ?_⟩; have H169 := Aside0.mk (Hist.step H162.out hb168); clear H162; clear hb168; have F172 := Aside0.mk ho166; clear ho166; have F176 := Aside0.mk ho167; clear ho167; obtain ⟨Ao170, co171, eo178⟩ := Kd.R_slice F172.out; (first | subst eo178 | (injection eo178 with f1_ f2_ f3_; have f4_ := f1_.symm; have f5_ := f3_.symm; clear f1_ f2_ f3_; subst f4_; subst f5_)); obtain ⟨Ao174, co175, eo179⟩ := Kd.R_slice F176.out; (first | subst eo179 | (injection eo179 with f1_ f2_ f3_; have f4_ := f1_.symm; have f5_ := f3_.symm; clear f1_ f2_ f3_; subst f4_; subst f5_)); refine normL (a' := ?_) ?hn ?_; (case hn => first | (simp only [Act.put, List.setIfInBounds_toArray, List.set_cons_zero, List.set_cons_succ]; rfl) | rfl)) | (((with_reducible refine gate_callee (f := 27) rfl ?_)); refine goesW (some 56) rfl ?hw Try.func27 (by kernel_rfl) rfl #[.agg #[.int .u32 t143, .int .u32 t144, .slice Ao170 t145.length co171, .slice Ao174 t148.length co175]] rfl (by (try simp only [List.map_toArray, List.map_cons, List.map_nil]); first | done | rfl | (simp only [List.length_drop, List.length_take]; rfl)) ?_; (case hw => rfl); with_reducible refine (impl_EncodeSnap.calls t143 t144 _ _ t145 _ _ t148 t151 _ ?side1 ?side2 ?side3 ?side4 A33.out).mono ?_; (case side1 => exact (Kd.R_reads' (R_fix F172.out H169.out.fixes.hd)).2.2); (case side2 => exact R_capn (R_fix F172.out H169.out.fixes.hd)); (case side3 => exact (Kd.R_reads' (R_fix F176.out H169.out.fixes.hd)).2.2); (case side4 => exact R_capn (R_fix F176.out H169.out.fixes.hd)); rintro e w180 ⟨v181, rfl, ho182, hb183⟩; refine ⟨_, rfl, ?_⟩; have H184 := Aside0.mk (Hist.step H169.out hb183); clear H169; clear hb183; have F187 := Aside0.mk ho182; clear ho182; obtain ⟨Ao185, co186, eo189⟩ := Kd.R_slice F187.out; (first | subst eo189 | (injection eo189 with f1_ f2_ f3_; have f4_ := f1_.symm; have f5_ := f3_.symm; clear f1_ f2_ f3_; subst f4_; subst f5_)); refine normL (a' := ?_) ?hn ?_; (case hn => first | (simp only [Act.put, List.setIfInBounds_toArray, List.set_cons_zero, List.set_cons_succ]; rfl) | rfl)) | (((with_reducible refine gate_callee (f := 14) rfl ?_)); refine goesW (some 59) rfl ?hw Try.func14 (by kernel_rfl) rfl #[.slice Ao185 t151.length co186, .slice Ao70 t111.length co71] rfl (by (try simp only [List.map_toArray, List.map_cons, List.map_nil]); first | done | rfl | (simp only [List.length_drop, List.length_take]; rfl)) ?_; (case hw => rfl); with_reducible refine (laws_eqByteS.calls k _ _ t151 _ _ t111 true _ ?side1 ?side2 ?side3 ?side4 A34.out).mono ?_; (case side1 => exact (Kd.R_reads' (R_fix F187.out H184.out.fixes.hd)).2.2); (case side2 => exact R_capn (R_fix F187.out H184.out.fixes.hd)); (case side3 => exact (Kd.R_reads' (R_fix F72.out H184.out.fixes.tl.tl.tl.tl.tl.tl.hd)).2.2); (case side4 => exact R_capn (R_fix F72.out H184.out.fixes.tl.tl.tl.tl.tl.tl.hd)); rintro e w190 ⟨rfl, hd_⟩; have hb191 := hd_.below; clear hd_; refine ⟨_, rfl, ?_⟩; have H192 := Aside0.mk (Hist.pass H184.out hb191); clear H184; clear hb191; refine normL (a' := ?_) ?hn ?_; (case hn => first | (simp only [Act.put, List.setIfInBounds_toArray, List.set_cons_zero, List.set_cons_succ]; rfl) | rfl)))
                  go_ret
                  exact ⟨rfl, by first | exact H192.out.below | exact Drawn0.refl _⟩
                · rw [if_neg c35] at H
                  exact absurd H (by simp)
              · rw [if_neg c31] at H
                exact absurd H (by simp)
          · rw [if_neg c27] at H
            exact absurd H (by simp)
      · rw [if_neg c23] at H
        exact absurd H (by simp)
    · rw [if_neg c20] at H
      exact absurd H (by simp)

end Go.Proofs.Ytgfadfahbhcllaa.Q
namespace Go.Proofs.Ytgfadfahbhcllaa.O
open Go.RowKit Go.Proofs.YtgfadfahbhcllaaW.PrintWords

/-- Cells that read as data of type t are cells of the kind d, of a value that meets ok. -/
def Opens {α : Type} (P : Program) (t : TypeId) (d : Kd α) (ok : α → Prop) : Prop :=
  ∀ (H : Type) (enc : TypeId × Value → H) (w : World) (fuel : Nat) (cs : List Value) (y : DataW H × List MemPlace),
    DataW.trod enc P w 0 (fun _ => true) true fuel t cs = some y → ∃ x, d.K w x cs ∧ ok x

section
variable {α β : Type} {P : Program} {t e : TypeId} {d : Kd α} {ok : α → Prop}

theorem opens_int {k : IntKind} (ht : P.underlying t = some (.int k)) : Opens P t (Kd.int k) (fun n => (Lit.int k n).wf = true) := by
  intro H enc w fuel cs y h
  obtain ⟨n, rfl, _, hw⟩ := DataW.trod_int ht h
  exact ⟨n, rfl, hw⟩
theorem opens_bool (ht : P.underlying t = some .bool) : Opens P t Kd.bool (fun _ => True) := by
  intro H enc w fuel cs y h
  obtain ⟨n, rfl, _⟩ := DataW.trod_bool ht h
  exact ⟨n, rfl, trivial⟩
theorem list_of {p : Nat → α → Prop} : ∀ n, (∀ i, i < n → ∃ x, p i x) → ∃ xs : List α, xs.length = n ∧ ∀ i x, xs[i]? = some x → p i x
  | 0, _ => ⟨[], rfl, by simp⟩
  | n + 1, h => by
    obtain ⟨xs, hl, hp⟩ := list_of n (fun i hi => h i (by omega))
    obtain ⟨x, hx⟩ := h n (by omega)
    refine ⟨xs ++ [x], by simp [hl], fun i z hz => ?_⟩
    by_cases hi : i < n
    · rw [List.getElem?_append_left (by omega)] at hz
      exact hp i z hz
    · have : i < n + 1 := by
        have := (List.getElem?_eq_some_iff.1 hz).1
        simp [hl] at this
        exact this
      obtain rfl : i = n := by omega
      rw [List.getElem?_append_right (by omega)] at hz
      simp [hl] at hz
      exact hz ▸ hx
theorem opens_slice (ht : P.underlying t = some (.slice e)) (hc : P.cellsOf e = d.sz) (he : Opens P e d ok) :
    Opens P t (Kd.slice e d) (fun xs => xs.length ≤ 9223372036854775807 ∧ ∀ x ∈ xs, ok x) := by
  intro H enc w fuel cs y h
  rcases DataW.trod_slice ht h with ⟨rfl, _⟩ | ⟨a, len, cap, elems, rest, n, _, rfl, _, _, hl, hm, hlen, hel, _, _⟩
  · exact ⟨[], ⟨none, 0, rfl, Nat.le_refl _, Kd.C_nil d w⟩, by simp, by simp⟩
  · have each : ∀ i, i < len → ∃ x, ∃ c, w.cells? 0 (a.add (i * d.sz)) d.sz = some c ∧ d.K w x c ∧ ok x := by
      intro i hi
      have h1 := hel i hi
      rw [hc, List.getElem?_eq_getElem (by omega)] at h1
      obtain ⟨c, h2, h3⟩ := Option.bind_eq_some_iff.1 h1
      obtain ⟨x, hx, hok⟩ := he H enc w n c _ h3
      exact ⟨x, c, h2, hx, hok⟩
    obtain ⟨xs, hxl, hxs⟩ := list_of len each
    refine ⟨xs, ⟨some a, cap, by rw [hxl], by omega, ?_⟩, by unfold maxLen at hm; omega, fun x hx => ?_⟩
    · refine ⟨rfl, by unfold maxLen at hm; omega, fun _ => ⟨a, rfl, fun j p hp => ?_⟩⟩
      obtain ⟨c, h2, h3, _⟩ := hxs j p hp
      refine ⟨c, d.K_len h3, h3, fun i u hu => ?_⟩
      have hi : i < c.length := (List.getElem?_eq_some_iff.1 hu).1
      have h4 := World.cells?_some h2
      rw [d.K_len h3] at hi
      rw [← Addr.add_add, (h4.2.2 i hi), hu]
    · obtain ⟨i, hi⟩ := List.getElem?_of_mem hx
      obtain ⟨_, _, _, hok⟩ := hxs i x hi
      exact hok
/-- A struct's fields from some field on. -/
def OpensFs {α : Type} (P : Program) (fs : List Field) (off : Nat) (d : Kd α) (ok : α → Prop) : Prop :=
  ∀ (H : Type) (enc : TypeId × Value → H) (w : World) (n : Nat) (cs : List Value) (xs : List (DataW H × List MemPlace)),
    cs.length = off + d.sz → (∀ (i : Nat) (f : Field), fs[i]? = some f → DataW.trod enc P w 0 (fun _ => true) true n f.type ((cs.drop f.offset).take (P.cellsOf f.type)) = xs[i]?) →
    fs.length ≤ xs.length → ∃ x, d.K w x (cs.drop off) ∧ ok x
theorem opensFs_one {f : Field} {off : Nat} (ho : f.offset = off) (hc : P.cellsOf f.type = d.sz) (h : Opens P f.type d ok) : OpensFs P [f] off d ok := by
  intro H enc w n cs xs hl hf hx
  have h1 := hf 0 f rfl
  simp only [List.length_cons, List.length_nil] at hx
  rw [List.getElem?_eq_getElem (by omega)] at h1
  rw [ho, hc, List.take_of_length_le (by simp; omega)] at h1
  exact h H enc w n _ _ h1
theorem opensFs_cons {f : Field} {fs : List Field} {off : Nat} {d2 : Kd β} {ok2 : β → Prop} (ho : f.offset = off) (hc : P.cellsOf f.type = d.sz) (h : Opens P f.type d ok)
    (h2 : OpensFs P fs (off + d.sz) d2 ok2) : OpensFs P (f :: fs) off (Kd.pair d d2) (fun x => ok x.1 ∧ ok2 x.2) := by
  intro H enc w n cs xs hl hf hx
  have hl' : cs.length = off + (d.sz + d2.sz) := hl
  simp only [List.length_cons] at hx
  have h1 := hf 0 f rfl
  rw [List.getElem?_eq_getElem (by omega)] at h1
  rw [ho, hc] at h1
  obtain ⟨x, hxk, hxo⟩ := h H enc w n _ _ h1
  obtain ⟨y, hyk, hyo⟩ := h2 H enc w n cs (xs.drop 1) (by omega) (fun i g hg => by
    have := hf (i + 1) g (by simpa using hg)
    rw [this, List.getElem?_drop]
    congr 1
    omega) (by simp; omega)
  refine ⟨(x, y), ⟨_, _, ?_, hxk, hyk⟩, hxo, hyo⟩
  rw [← List.drop_drop]
  exact (List.take_append_drop _ _).symm
theorem opens_struct {fs : List Field} (ht : P.underlying t = some (.struct fs.toArray)) (hc : P.cellsOf t = d.sz) (h : OpensFs P fs 0 d ok) (f : β → α) (g : α → β) (hfg : ∀ a, f (g a) = a) :
    Opens P t (Kd.iso d f) (fun x => ok (f x)) := by
  intro H enc w fuel cs y h0
  obtain ⟨xs, n, _, _, hlen, hxl, hf⟩ := DataW.trod_struct ht h0
  obtain ⟨a, hk, ho⟩ := h H enc w n cs xs (by omega) (fun i f hi => hf i f (by simpa using hi)) (by simp at hxl; omega)
  refine ⟨g a, ?_, ?_⟩
  · show d.K w (f (g a)) cs
    rw [hfg]
    simpa using hk
  · show ok (f (g a))
    rw [hfg]
    exact ho
end
end Go.Proofs.Ytgfadfahbhcllaa.O
namespace Go.Proofs.Ytgfadfahbhcllaa.Q
open Go.RowKit Go.Proofs.YtgfadfahbhcllaaW.PrintWords Go.Proofs.Ytgfadfahbhcllaa.O
def W24 (x : S24) : Prop := (Lit.int .u32 x.f0).wf = true ∧ (Lit.int .i64 x.f1).wf = true ∧ (Lit.int .u32 x.f2).wf = true ∧ (Lit.int .u32 x.f3).wf = true
theorem opens_T24 : Opens Try.prog 24 k24 W24 := opens_struct Try.underlying24 (by kernel_rfl) (opensFs_cons rfl (by kernel_rfl) (opens_int Try.underlying22) (opensFs_cons rfl (by kernel_rfl) (opens_int Try.underlying2) (opensFs_cons rfl (by kernel_rfl) (opens_int Try.underlying22) (opensFs_one rfl (by kernel_rfl) (opens_int Try.underlying22))))) (fun x : S24 => (x.f0, x.f1, x.f2, x.f3)) (fun a => (⟨a.1, a.2.1, a.2.2.1, a.2.2.2⟩ : S24)) (fun _ => rfl)
def W41 (x : S41) : Prop := (Lit.int .u32 x.f0).wf = true ∧ (Lit.int .u32 x.f1).wf = true ∧ (x.f2.length ≤ 9223372036854775807 ∧ ∀ z_ ∈ x.f2, (Lit.int .i64 z_).wf = true) ∧ (x.f3.length ≤ 9223372036854775807 ∧ ∀ z_ ∈ x.f3, (Lit.int .i64 z_).wf = true)
theorem opens_T41 : Opens Try.prog 41 k41 W41 := opens_struct Try.underlying41 (by kernel_rfl) (opensFs_cons rfl (by kernel_rfl) (opens_int Try.underlying22) (opensFs_cons rfl (by kernel_rfl) (opens_int Try.underlying22) (opensFs_cons rfl (by kernel_rfl) (opens_slice Try.underlying39 (by kernel_rfl) (opens_int Try.underlying2)) (opensFs_one rfl (by kernel_rfl) (opens_slice Try.underlying39 (by kernel_rfl) (opens_int Try.underlying2)))))) (fun x : S41 => (x.f0, x.f1, x.f2, x.f3)) (fun a => (⟨a.1, a.2.1, a.2.2.1, a.2.2.2⟩ : S41)) (fun _ => rfl)
end Go.Proofs.Ytgfadfahbhcllaa.Q
namespace Go.Proofs.Ytgfadfahbhcllaa.Q
open Go.RowKit Go.Proofs.YtgfadfahbhcllaaW.PrintWords Go.Proofs.YtgfadfahbhcllaaW.PrintLast Go.Proofs.Ytgfadfahbhcllaa.O
def laws_FnExactEncodeSnap.Pure : Prop := ∀ (x0 : S41) , W41 x0 → ∃ k, laws_FnExactEncodeSnap.f k x0.f0 x0.f1 x0.f2 x0.f3 = some true
end Go.Proofs.Ytgfadfahbhcllaa.Q
