/- Part 5 of 8 of the proof that the law FnExactDevCrash returns true at every input. No further condition. -/
import Derived.Laws.CopyOwn
import Derived.Test.YtbdbeccaopphaaaWWords
import Derived.Test.YtbdbeccaopphaaaMFnExactDevCrash4
namespace Go.Proofs.Ytbdbeccaopphaaa.Q
open Go.RowKit Go.Proofs.YtbdbeccaopphaaaW.PrintWords Go.Proofs.YtbdbeccaopphaaaW.PrintLast Go.Proofs.Ytbdbeccaopphaaa.LK Go.Proofs.YtbdbeccaopphaaaW.PrintMore
attribute [local go_sem] max2_int min2_int max_two min_two max_three min_three max_four min_four   -- for this text's walks alone
set_option linter.unusedVariables false
set_option linter.unusedSimpArgs false

/-! ### laws_eqBoolS: function 77 -/
def laws_eqBoolS.l0 : Nat → List Bool → List Bool → Int → Option (Bool)
  | 0, _, _, _ => none
  | k + 1, x0, x1, x5 => if x5 < (x0.length : Int) then (if 0 ≤ x5 then (if x5 < (x1.length : Int) then (if ((rdOf false x0 x5) != (rdOf false x1 x5)) = true then (some false) else (laws_eqBoolS.l0 k x0 x1 (wrap64 (x5 + 1)))) else (none)) else (none)) else (some true)
def laws_eqBoolS.f (k : Nat) (l0 : List Bool) (l1 : List Bool) : Option (Bool) := if (l0.length : Int) = (l1.length : Int) then (laws_eqBoolS.l0 k l0 l1 0) else (some false)
theorem laws_eqBoolS.mono_l : ∀ k, (∀ y0 y1 y2, LeO (laws_eqBoolS.l0 k y0 y1 y2) (laws_eqBoolS.l0 (k + 1) y0 y1 y2))
  | 0 => fun _ _ _ r h => by simp [laws_eqBoolS.l0] at h
  | k + 1 => by
    have ih0 := laws_eqBoolS.mono_l k
    · intro y0 y1 y2
      unfold laws_eqBoolS.l0
      repeat' first
      | (with_reducible exact ih0 _ _ _)
      | (with_reducible exact LeO.refl _)
      | (with_reducible exact LeO.none _)
      | (with_reducible refine LeO.ite ?_ ?_)
      | (with_reducible refine LeO.bind ?_ (fun _ => ?_))
      | exact ih0 _ _ _
      | exact LeO.none _
      | refine LeO.ite ?_ ?_
      | refine LeO.bind ?_ (fun _ => ?_)
theorem laws_eqBoolS.mono : ∀ a0 a1 k, LeO (laws_eqBoolS.f k a0 a1) (laws_eqBoolS.f (k + 1) a0 a1) := by
  intro a0 a1 k
  have ih0 := laws_eqBoolS.mono_l k
  unfold laws_eqBoolS.f
  repeat' first
      | (with_reducible exact ih0 _ _ _)
      | (with_reducible exact LeO.refl _)
      | (with_reducible exact LeO.none _)
      | (with_reducible refine LeO.ite ?_ ?_)
      | (with_reducible refine LeO.bind ?_ (fun _ => ?_))
      | exact ih0 _ _ _
      | exact LeO.none _
      | refine LeO.ite ?_ ?_
      | refine LeO.bind ?_ (fun _ => ?_)
set_option maxHeartbeats 8000000 in
set_option maxRecDepth 100000 in
theorem laws_eqBoolS.calls (k : Nat) (A0 : Option Addr) (c0 : Nat) (l0 : List Bool) (A1 : Option Addr) (c1 : Nat) (l1 : List Bool) (r : Bool) (w : World) (hr0 : Kd.C Kd.bool w A0 l0.length l0) (hc0 : l0.length ≤ c0) (hr1 : Kd.C Kd.bool w A1 l1.length l1) (hc1 : l1.length ≤ c1) (h : laws_eqBoolS.f k l0 l1 = some r) :
    Calls Try.prog 77 #[.slice A0 l0.length c0, .slice A1 l1.length c1] w fun e w' => e = .returned (.bool r) ∧ Drawn0 w w' := by
  have HR0 := Aside0.mk hr0
  have HC0 := Aside0.mk hc0
  clear hr0 hc0
  have HR1 := Aside0.mk hr1
  have HC1 := Aside0.mk hc1
  clear hr1 hc1
  have H : (if (l0.length : Int) = (l1.length : Int) then (laws_eqBoolS.l0 k l0 l1 0) else (some false)) = some r := h
  clear h
  by_cases c3 : (l0.length : Int) = (l1.length : Int)
  · rw [if_pos c3] at H
    have c3b0 : ((l0.length : Int) == (l1.length : Int)) = true := beq_iff_eq.mpr c3
    have c3b1 : ((l0.length : Int) != (l1.length : Int)) = false := bne_eq_false_iff_eq.mpr c3
    have c3b2 : (l0.length == l1.length) = true := by first | simpa using c3 | (simp at c3 ⊢; omega)
    clear c3
    have H' := Aside0.mk H
    clear H
    go_enter Try.func77, Try.ntmps77
    go_wp2
    repeat (go_quiet (fail); try go_wp2)
    go_loopg [5] k (fun kq v5 w' => ∃ (x5_1 : Int), v5 = .int .i64 x5_1 ∧ Aside0 (laws_eqBoolS.l0 kq l0 l1 x5_1 = some r) ∧ Aside0 (kq ≤ k) ∧ Drawn0 w w')
    case atStart => exact ⟨(0), (by first | rfl | (simp; done) | (simp [*]; done)), H', ⟨Nat.le_refl _⟩, by repeat (first | exact Drawn0.refl _ | apply Drawn0.step)⟩
    case round =>
      clear H'
      try clear c1
      try clear p2
      try clear c3
      try clear c3b0
      try clear c3b1
      try clear c3b2
      obtain ⟨x5_1, rfl, HA, HK1, ⟨m1, rfl⟩⟩ := hrel
      cases gk with
      | zero => exact absurd HA.out (by simp [laws_eqBoolS.l0])
      | succ k1 =>
        have H := HA.out
        clear HA
        simp only [laws_eqBoolS.l0] at H
        by_cases c4 : x5_1 < (l0.length : Int)
        · rw [if_pos c4] at H
          have c4b0 : decide (x5_1 < (l0.length : Int)) = true := decide_eq_true c4
          clear c4
          by_cases c5 : 0 ≤ x5_1
          · rw [if_pos c5] at H
            have c5b0 : decide (0 ≤ x5_1) = true := decide_eq_true c5
            clear c5
            by_cases c6 : x5_1 < (l1.length : Int)
            · rw [if_pos c6] at H
              have c6b0 : decide (x5_1 < (l1.length : Int)) = true := decide_eq_true c6
              clear c6
              by_cases c7 : ((rdOf false l0 x5_1) != (rdOf false l1 x5_1)) = true
              · rw [if_pos c7] at H
                have c7b0 : ((rdOf false l0 x5_1) != (rdOf false l1 x5_1)) = true := c7
                (try (have c7b1 : decide ((rdOf false l0 x5_1) = (rdOf false l1 x5_1)) = false := by simpa using c7))
                (try (have c7b2 : ((rdOf false l0 x5_1) == (rdOf false l1 x5_1)) = false := by simpa using c7))
                (try (have c7b3 : ¬ ((rdOf false l0 x5_1) = (rdOf false l1 x5_1)) := by simpa using c7))
                clear c7
                obtain rfl := Option.some.inj H
                have p101 : 0 ≤ (x5_1 : Int) := of_decide_eq_true (by first | (with_reducible assumption) | assumption)
                have q101 : x5_1 < (l0.length : Int) := of_decide_eq_true (by first | (with_reducible assumption) | assumption)
                obtain ⟨ad101, e101, hx101_0⟩ := Kd.at_bool HR0.out x5_1 p101 q101
                cases e101
                replace p101 := eq_true p101
                replace q101 := eq_true q101
                have p102 : 0 ≤ (x5_1 : Int) := of_decide_eq_true (by first | (with_reducible assumption) | assumption)
                have q102 : x5_1 < (l1.length : Int) := of_decide_eq_true (by first | (with_reducible assumption) | assumption)
                obtain ⟨ad102, e102, hx102_0⟩ := Kd.at_bool HR1.out x5_1 p102 q102
                cases e102
                replace p102 := eq_true p102
                replace q102 := eq_true q102
                go_wp2
                repeat (go_quiet (fail); try go_wp2)
                go_ret
                exact ⟨by first | rfl | (simp; done) | (simp [*]; done), by repeat (first | exact Drawn0.refl _ | apply Drawn0.step)⟩
              · rw [if_neg c7] at H
                have c7b0 : ((rdOf false l0 x5_1) != (rdOf false l1 x5_1)) = false := by simpa using c7
                (try (have c7b1 : decide ((rdOf false l0 x5_1) = (rdOf false l1 x5_1)) = true := by simpa using c7))
                (try (have c7b2 : ((rdOf false l0 x5_1) == (rdOf false l1 x5_1)) = true := by simpa using c7))
                clear c7
                have H' := Aside0.mk H
                clear H
                have p101 : 0 ≤ (x5_1 : Int) := of_decide_eq_true (by first | (with_reducible assumption) | assumption)
                have q101 : x5_1 < (l0.length : Int) := of_decide_eq_true (by first | (with_reducible assumption) | assumption)
                obtain ⟨ad101, e101, hx101_0⟩ := Kd.at_bool HR0.out x5_1 p101 q101
                cases e101
                replace p101 := eq_true p101
                replace q101 := eq_true q101
                have p102 : 0 ≤ (x5_1 : Int) := of_decide_eq_true (by first | (with_reducible assumption) | assumption)
                have q102 : x5_1 < (l1.length : Int) := of_decide_eq_true (by first | (with_reducible assumption) | assumption)
                obtain ⟨ad102, e102, hx102_0⟩ := Kd.at_bool HR1.out x5_1 p102 q102
                cases e102
                replace p102 := eq_true p102
                replace q102 := eq_true q102
                go_wp2
                repeat (go_quiet (fail); try go_wp2)
                go_roundg k1
                case measure => have := HK1.out; omega
                case rel => exact ⟨(wrap64 (x5_1 + 1)), (by first | rfl | (simp; done) | (simp [*]; done)), H', ⟨by have := HK1.out; omega⟩, by repeat (first | exact Drawn0.refl _ | apply Drawn0.step)⟩
            · rw [if_neg c6] at H
              exact absurd H (by simp)
          · rw [if_neg c5] at H
            exact absurd H (by simp)
        · rw [if_neg c4] at H
          have c4b0 : decide (x5_1 < (l0.length : Int)) = false := decide_eq_false c4
          clear c4
          obtain rfl := Option.some.inj H
          go_wp2
          repeat (go_quiet (fail); try go_wp2)
          go_ret
          exact ⟨by first | rfl | (simp; done) | (simp [*]; done), by repeat (first | exact Drawn0.refl _ | apply Drawn0.step)⟩
  · rw [if_neg c3] at H
    have c3b0 : ((l0.length : Int) == (l1.length : Int)) = false := beq_eq_false_iff_ne.mpr c3
    have c3b1 : ((l0.length : Int) != (l1.length : Int)) = true := bne_iff_ne.mpr c3
    have c3b2 : (l0.length == l1.length) = false := by first | simpa using c3 | (simp at c3 ⊢; omega)
    obtain rfl := Option.some.inj H
    go_enter Try.func77, Try.ntmps77
    go_wp2
    repeat (go_quiet (fail); try go_wp2)
    go_ret
    exact ⟨by first | rfl | (simp; done) | (simp [*]; done), by repeat (first | exact Drawn0.refl _ | apply Drawn0.step)⟩

end Go.Proofs.Ytbdbeccaopphaaa.Q
namespace Go.Proofs.Ytbdbeccaopphaaa.Q
open Go.RowKit Go.Proofs.YtbdbeccaopphaaaW.PrintWords Go.Proofs.YtbdbeccaopphaaaW.PrintLast Go.Proofs.Ytbdbeccaopphaaa.LK Go.Proofs.YtbdbeccaopphaaaW.PrintMore
attribute [local go_sem] max2_int min2_int max_two min_two max_three min_three max_four min_four   -- for this text's walks alone
set_option linter.unusedVariables false
set_option linter.unusedSimpArgs false

/-! ### laws_eqCrash: function 43 -/
def laws_eqCrash.f (k : Nat) (l0_0 : List Bool) (a0_1 : Int) (a0_2 : Int) (l1_0 : List Bool) (a1_1 : Int) (a1_2 : Int) : Option (Bool) := (laws_eqBoolS.f k l0_0 l1_0).bind fun t103 => (if t103 = true then (if a0_1 = a1_1 then (if a0_2 = a1_2 then (some true) else (some false)) else (some false)) else (some false))
theorem laws_eqCrash.mono : ∀ a0 a1 a2 a3 a4 a5 k, LeO (laws_eqCrash.f k a0 a1 a2 a3 a4 a5) (laws_eqCrash.f (k + 1) a0 a1 a2 a3 a4 a5) := by
  intro a0 a1 a2 a3 a4 a5 k
  unfold laws_eqCrash.f
  repeat' first
      | (with_reducible exact laws_eqBoolS.mono _ _ _)
      | (with_reducible exact LeO.refl _)
      | (with_reducible exact LeO.none _)
      | (with_reducible refine LeO.ite ?_ ?_)
      | (with_reducible refine LeO.bind ?_ (fun _ => ?_))
      | exact laws_eqBoolS.mono _ _ _
      | exact LeO.none _
      | refine LeO.ite ?_ ?_
      | refine LeO.bind ?_ (fun _ => ?_)
set_option maxHeartbeats 8000000 in
set_option maxRecDepth 100000 in
theorem laws_eqCrash.calls (k : Nat) (A0_0 : Option Addr) (c0_0 : Nat) (l0_0 : List Bool) (a0_1 : Int) (a0_2 : Int) (A1_0 : Option Addr) (c1_0 : Nat) (l1_0 : List Bool) (a1_1 : Int) (a1_2 : Int) (r : Bool) (w : World) (hr0_0 : Kd.C Kd.bool w A0_0 l0_0.length l0_0) (hc0_0 : l0_0.length ≤ c0_0) (hr1_0 : Kd.C Kd.bool w A1_0 l1_0.length l1_0) (hc1_0 : l1_0.length ≤ c1_0) (h : laws_eqCrash.f k l0_0 a0_1 a0_2 l1_0 a1_1 a1_2 = some r) :
    Calls Try.prog 43 #[.agg #[.slice A0_0 l0_0.length c0_0, .int .i64 a0_1, .int .i64 a0_2], .agg #[.slice A1_0 l1_0.length c1_0, .int .i64 a1_1, .int .i64 a1_2]] w fun e w' => e = .returned (.bool r) ∧ Below w.heap.size w w' := by
  have hu58 := Try.underlying58
  have HR0_0 := Aside0.mk hr0_0
  have HC0_0 := Aside0.mk hc0_0
  clear hr0_0 hc0_0
  have HR1_0 := Aside0.mk hr1_0
  have HC1_0 := Aside0.mk hc1_0
  clear hr1_0 hc1_0
  have HB := Aside0.mk (Below.refl w.heap.size w)
  have H : ((laws_eqBoolS.f k l0_0 l1_0).bind fun t103 => (if t103 = true then (if a0_1 = a1_1 then (if a0_2 = a1_2 then (some true) else (some false)) else (some false)) else (some false))) = some r := h
  clear h
  replace H := Option.bind_eq_some_iff.mp H
  obtain ⟨t103, A30, H⟩ := H
  replace H : (if t103 = true then (if a0_1 = a1_1 then (if a0_2 = a1_2 then (some true) else (some false)) else (some false)) else (some false)) = some r := H
  have A3 := Aside0.mk A30
  clear A30
  by_cases c4 : t103 = true
  · subst c4
    have H1 : (if a0_1 = a1_1 then (if a0_2 = a1_2 then (some true) else (some false)) else (some false)) = some r := by rw [if_pos rfl] at H; exact H
    clear H
    have H := H1
    clear H1
    by_cases c5 : a0_1 = a1_1
    · rw [if_pos c5] at H
      have c5b0 : (a0_1 == a1_1) = true := beq_iff_eq.mpr c5
      have c5b1 : (a0_1 != a1_1) = false := bne_eq_false_iff_eq.mpr c5
      clear c5
      by_cases c6 : a0_2 = a1_2
      · rw [if_pos c6] at H
        have c6b0 : (a0_2 == a1_2) = true := beq_iff_eq.mpr c6
        have c6b1 : (a0_2 != a1_2) = false := bne_eq_false_iff_eq.mpr c6
        clear c6
        obtain rfl := Option.some.inj H
        go_enter Try.func43, Try.ntmps43
        go_wp2_with (first | ((with_reducible refine gate_dst (N := 2) rfl ?_); refine box_event ?hg (N := 2) ?hd (cs := #[.slice A0_0 l0_0.length c0_0, .int .i64 a0_1, .int .i64 a0_2]) (t := 58) ?hr ?_; (case hd => rfl); (case hg => rfl); (case hr => first | (go_simp; done) | (go_simp; rfl)); intro gb101 hg w7 hbox hb; have n0_ := Aside0.mk (below_step (by repeat (first | (with_reducible first | exact HB.out | apply below_alloc | apply pw_below_drewN | apply below_drew1) | exact HB.out)) hb); have n1_ := Aside0.mk (hbox); have n2_ := Aside0.mk ((by rw [hg]; exact (below_size (by repeat (first | (with_reducible first | exact HB.out | apply below_alloc | apply pw_below_drewN | apply below_drew1) | exact HB.out))) : w.heap.size ≤ gb101)); have n3_ := Aside0.mk ((by rw [hg]; exact (below_size (by repeat (first | (with_reducible first | exact HB.out | apply below_alloc | apply pw_below_drewN | apply below_drew1) | exact HB.out))) : w.heap.size ≤ gb101)); clear HB; have HB := n0_; have BK101 := n1_; have GW101 := n2_; have GE101 := n3_; clear n0_ n1_ n2_ n3_; clear hb hbox hg) | ((with_reducible refine gate_dst (N := 3) rfl ?_); refine box_event ?hg (N := 3) ?hd (cs := #[.slice A1_0 l1_0.length c1_0, .int .i64 a1_1, .int .i64 a1_2]) (t := 58) ?hr ?_; (case hd => rfl); (case hg => rfl); (case hr => first | (go_simp; done) | (go_simp; rfl)); intro gb102 hg w8 hbox hb; have n0_ := Aside0.mk (blk_below (g := gb101) (o := .cells #[.slice A0_0 l0_0.length c0_0, .int .i64 a0_1, .int .i64 a0_2] 58 (0, 0)) (by (with_reducible repeat (first | refine blk_drewN ?_ _ | refine blk_drew ?_ | refine blk_alloc ?_ _)); exact BK101.out) hb); have n1_ := Aside0.mk (below_step (by repeat (first | (with_reducible first | exact HB.out | apply below_alloc | apply pw_below_drewN | apply below_drew1 | refine below_set ?_ GE101.out) | exact HB.out)) hb); have n2_ := Aside0.mk (hbox); have n3_ := Aside0.mk ((by rw [hg]; exact (below_size (by repeat (first | (with_reducible first | exact HB.out | apply below_alloc | apply pw_below_drewN | apply below_drew1 | refine below_set ?_ GE101.out) | exact HB.out))) : w.heap.size ≤ gb102)); have n4_ := Aside0.mk ((by rw [hg]; exact (below_size (by repeat (first | (with_reducible first | exact HB.out | apply below_alloc | apply pw_below_drewN | apply below_drew1 | refine below_set ?_ GE101.out) | exact HB.out))) : w.heap.size ≤ gb102)); have n5_ := Aside0.mk ((by rw [hg]; exact Nat.ne_of_lt (blk_lt (g := gb101) (o := .cells #[.slice A0_0 l0_0.length c0_0, .int .i64 a0_1, .int .i64 a0_2] 58 (0, 0)) (by (with_reducible repeat (first | refine blk_drewN ?_ _ | refine blk_drew ?_ | refine blk_alloc ?_ _)); exact BK101.out)) : gb101 ≠ gb102)); have n6_ := Aside0.mk ((by rw [hg]; exact Nat.ne_of_gt (blk_lt (g := gb101) (o := .cells #[.slice A0_0 l0_0.length c0_0, .int .i64 a0_1, .int .i64 a0_2] 58 (0, 0)) (by (with_reducible repeat (first | refine blk_drewN ?_ _ | refine blk_drew ?_ | refine blk_alloc ?_ _)); exact BK101.out)) : gb102 ≠ gb101)); clear BK101; clear HB; have BK101 := n0_; have HB := n1_; have BK102 := n2_; have GW102 := n3_; have GE102 := n4_; have NB101_102 := n5_; have NB102_101 := n6_; clear n0_ n1_ n2_ n3_ n4_ n5_ n6_; clear hb hbox hg; have hnb9 := NB101_102.out; have hnc9 := NB102_101.out; have hcz10_0 : w8.cell? ⟨gb101, 0, none⟩ = some (.slice A0_0 l0_0.length c0_0) := (blk_cell BK101.out 0).trans rfl; have hcz10_1 : w8.cell? ⟨gb101, 1, none⟩ = some (.int .i64 a0_1) := (blk_cell BK101.out 1).trans rfl; have hcz10_2 : w8.cell? ⟨gb101, 2, none⟩ = some (.int .i64 a0_2) := (blk_cell BK101.out 2).trans rfl; have hfz10_0 := blk_frozen BK101.out 0; have hfz10_1 := blk_frozen BK101.out 1; have hfz10_2 := blk_frozen BK101.out 2; have hcz11_0 : w8.cell? ⟨gb102, 0, none⟩ = some (.slice A1_0 l1_0.length c1_0) := (blk_cell BK102.out 0).trans rfl; have hcz11_1 : w8.cell? ⟨gb102, 1, none⟩ = some (.int .i64 a1_1) := (blk_cell BK102.out 1).trans rfl; have hcz11_2 : w8.cell? ⟨gb102, 2, none⟩ = some (.int .i64 a1_2) := (blk_cell BK102.out 2).trans rfl; have hfz11_0 := blk_frozen BK102.out 0; have hfz11_1 := blk_frozen BK102.out 1; have hfz11_2 := blk_frozen BK102.out 2) | ((with_reducible refine gate_callee (f := 77) rfl ?_); refine goesL_ (some 9) rfl rfl Try.func77 (by kernel_rfl) rfl #[.slice A0_0 l0_0.length c0_0, .slice A1_0 l1_0.length c1_0] rfl (by (try simp only [List.map_toArray, List.map_cons, List.map_nil]); first | done | rfl | (simp only [List.length_drop, List.length_take]; rfl)) ?_; (with_reducible refine (laws_eqBoolS.calls k _ _ l0_0 _ _ l1_0 true _ ?side1 ?side2 ?side3 ?side4 A3.out).mono ?_); (case side1 => repeat (first | exact (Kd.C_below HR0_0.out HB.out) | (with_reducible refine Kd.C_alloc ?_ _) | (with_reducible refine Kd.C_drewN ?_ _) | (with_reducible refine Kd.C_drew ?_))); (case side2 => exact HC0_0.out); (case side3 => repeat (first | exact (Kd.C_below HR1_0.out HB.out) | (with_reducible refine Kd.C_alloc ?_ _) | (with_reducible refine Kd.C_drewN ?_ _) | (with_reducible refine Kd.C_drew ?_))); (case side4 => exact HC1_0.out); rintro e w' ⟨rfl, ⟨nd, rfl⟩⟩; refine ⟨_, rfl, ?_⟩))
        go_ret
        exact ⟨by first | rfl | (simp [errW_none, errW_some] <;> rfl) | (simp [*, errW_none, errW_some] <;> rfl), by repeat (first | (with_reducible first | exact HB.out | apply below_alloc | apply pw_below_drewN | apply below_drew1 | refine below_set ?_ GE101.out | refine below_set ?_ GE102.out) | exact HB.out)⟩
      · rw [if_neg c6] at H
        have c6b0 : (a0_2 == a1_2) = false := beq_eq_false_iff_ne.mpr c6
        have c6b1 : (a0_2 != a1_2) = true := bne_iff_ne.mpr c6
        obtain rfl := Option.some.inj H
        go_enter Try.func43, Try.ntmps43
        go_wp2_with (first | ((with_reducible refine gate_dst (N := 2) rfl ?_); refine box_event ?hg (N := 2) ?hd (cs := #[.slice A0_0 l0_0.length c0_0, .int .i64 a0_1, .int .i64 a0_2]) (t := 58) ?hr ?_; (case hd => rfl); (case hg => rfl); (case hr => first | (go_simp; done) | (go_simp; rfl)); intro gb101 hg w12 hbox hb; have n0_ := Aside0.mk (below_step (by repeat (first | (with_reducible first | exact HB.out | apply below_alloc | apply pw_below_drewN | apply below_drew1) | exact HB.out)) hb); have n1_ := Aside0.mk (hbox); have n2_ := Aside0.mk ((by rw [hg]; exact (below_size (by repeat (first | (with_reducible first | exact HB.out | apply below_alloc | apply pw_below_drewN | apply below_drew1) | exact HB.out))) : w.heap.size ≤ gb101)); have n3_ := Aside0.mk ((by rw [hg]; exact (below_size (by repeat (first | (with_reducible first | exact HB.out | apply below_alloc | apply pw_below_drewN | apply below_drew1) | exact HB.out))) : w.heap.size ≤ gb101)); clear HB; have HB := n0_; have BK101 := n1_; have GW101 := n2_; have GE101 := n3_; clear n0_ n1_ n2_ n3_; clear hb hbox hg) | ((with_reducible refine gate_dst (N := 3) rfl ?_); refine box_event ?hg (N := 3) ?hd (cs := #[.slice A1_0 l1_0.length c1_0, .int .i64 a1_1, .int .i64 a1_2]) (t := 58) ?hr ?_; (case hd => rfl); (case hg => rfl); (case hr => first | (go_simp; done) | (go_simp; rfl)); intro gb102 hg w13 hbox hb; have n0_ := Aside0.mk (blk_below (g := gb101) (o := .cells #[.slice A0_0 l0_0.length c0_0, .int .i64 a0_1, .int .i64 a0_2] 58 (0, 0)) (by (with_reducible repeat (first | refine blk_drewN ?_ _ | refine blk_drew ?_ | refine blk_alloc ?_ _)); exact BK101.out) hb); have n1_ := Aside0.mk (below_step (by repeat (first | (with_reducible first | exact HB.out | apply below_alloc | apply pw_below_drewN | apply below_drew1 | refine below_set ?_ GE101.out) | exact HB.out)) hb); have n2_ := Aside0.mk (hbox); have n3_ := Aside0.mk ((by rw [hg]; exact (below_size (by repeat (first | (with_reducible first | exact HB.out | apply below_alloc | apply pw_below_drewN | apply below_drew1 | refine below_set ?_ GE101.out) | exact HB.out))) : w.heap.size ≤ gb102)); have n4_ := Aside0.mk ((by rw [hg]; exact (below_size (by repeat (first | (with_reducible first | exact HB.out | apply below_alloc | apply pw_below_drewN | apply below_drew1 | refine below_set ?_ GE101.out) | exact HB.out))) : w.heap.size ≤ gb102)); have n5_ := Aside0.mk ((by rw [hg]; exact Nat.ne_of_lt (blk_lt (g := gb101) (o := .cells #[.slice A0_0 l0_0.length c0_0, .int .i64 a0_1, .int .i64 a0_2] 58 (0, 0)) (by (with_reducible repeat (first | refine blk_drewN ?_ _ | refine blk_drew ?_ | refine blk_alloc ?_ _)); exact BK101.out)) : gb101 ≠ gb102)); have n6_ := Aside0.mk ((by rw [hg]; exact Nat.ne_of_gt (blk_lt (g := gb101) (o := .cells #[.slice A0_0 l0_0.length c0_0, .int .i64 a0_1, .int .i64 a0_2] 58 (0, 0)) (by (with_reducible repeat (first | refine blk_drewN ?_ _ | refine blk_drew ?_ | refine blk_alloc ?_ _)); exact BK101.out)) : gb102 ≠ gb101)); clear BK101; clear HB; have BK101 := n0_; have HB := n1_; have BK102 := n2_; have GW102 := n3_; have GE102 := n4_; have NB101_102 := n5_; have NB102_101 := n6_; clear n0_ n1_ n2_ n3_ n4_ n5_ n6_; clear hb hbox hg; have hnb14 := NB101_102.out; have hnc14 := NB102_101.out; have hcz15_0 : w13.cell? ⟨gb101, 0, none⟩ = some (.slice A0_0 l0_0.length c0_0) := (blk_cell BK101.out 0).trans rfl; have hcz15_1 : w13.cell? ⟨gb101, 1, none⟩ = some (.int .i64 a0_1) := (blk_cell BK101.out 1).trans rfl; have hcz15_2 : w13.cell? ⟨gb101, 2, none⟩ = some (.int .i64 a0_2) := (blk_cell BK101.out 2).trans rfl; have hfz15_0 := blk_frozen BK101.out 0; have hfz15_1 := blk_frozen BK101.out 1; have hfz15_2 := blk_frozen BK101.out 2; have hcz16_0 : w13.cell? ⟨gb102, 0, none⟩ = some (.slice A1_0 l1_0.length c1_0) := (blk_cell BK102.out 0).trans rfl; have hcz16_1 : w13.cell? ⟨gb102, 1, none⟩ = some (.int .i64 a1_1) := (blk_cell BK102.out 1).trans rfl; have hcz16_2 : w13.cell? ⟨gb102, 2, none⟩ = some (.int .i64 a1_2) := (blk_cell BK102.out 2).trans rfl; have hfz16_0 := blk_frozen BK102.out 0; have hfz16_1 := blk_frozen BK102.out 1; have hfz16_2 := blk_frozen BK102.out 2) | ((with_reducible refine gate_callee (f := 77) rfl ?_); refine goesL_ (some 9) rfl rfl Try.func77 (by kernel_rfl) rfl #[.slice A0_0 l0_0.length c0_0, .slice A1_0 l1_0.length c1_0] rfl (by (try simp only [List.map_toArray, List.map_cons, List.map_nil]); first | done | rfl | (simp only [List.length_drop, List.length_take]; rfl)) ?_; (with_reducible refine (laws_eqBoolS.calls k _ _ l0_0 _ _ l1_0 true _ ?side1 ?side2 ?side3 ?side4 A3.out).mono ?_); (case side1 => repeat (first | exact (Kd.C_below HR0_0.out HB.out) | (with_reducible refine Kd.C_alloc ?_ _) | (with_reducible refine Kd.C_drewN ?_ _) | (with_reducible refine Kd.C_drew ?_))); (case side2 => exact HC0_0.out); (case side3 => repeat (first | exact (Kd.C_below HR1_0.out HB.out) | (with_reducible refine Kd.C_alloc ?_ _) | (with_reducible refine Kd.C_drewN ?_ _) | (with_reducible refine Kd.C_drew ?_))); (case side4 => exact HC1_0.out); rintro e w' ⟨rfl, ⟨nd, rfl⟩⟩; refine ⟨_, rfl, ?_⟩))
        go_ret
        exact ⟨by first | rfl | (simp [errW_none, errW_some] <;> rfl) | (simp [*, errW_none, errW_some] <;> rfl), by repeat (first | (with_reducible first | exact HB.out | apply below_alloc | apply pw_below_drewN | apply below_drew1 | refine below_set ?_ GE101.out | refine below_set ?_ GE102.out) | exact HB.out)⟩
    · rw [if_neg c5] at H
      have c5b0 : (a0_1 == a1_1) = false := beq_eq_false_iff_ne.mpr c5
      have c5b1 : (a0_1 != a1_1) = true := bne_iff_ne.mpr c5
      obtain rfl := Option.some.inj H
      go_enter Try.func43, Try.ntmps43
      go_wp2_with (first | ((with_reducible refine gate_dst (N := 2) rfl ?_); refine box_event ?hg (N := 2) ?hd (cs := #[.slice A0_0 l0_0.length c0_0, .int .i64 a0_1, .int .i64 a0_2]) (t := 58) ?hr ?_; (case hd => rfl); (case hg => rfl); (case hr => first | (go_simp; done) | (go_simp; rfl)); intro gb101 hg w17 hbox hb; have n0_ := Aside0.mk (below_step (by repeat (first | (with_reducible first | exact HB.out | apply below_alloc | apply pw_below_drewN | apply below_drew1) | exact HB.out)) hb); have n1_ := Aside0.mk (hbox); have n2_ := Aside0.mk ((by rw [hg]; exact (below_size (by repeat (first | (with_reducible first | exact HB.out | apply below_alloc | apply pw_below_drewN | apply below_drew1) | exact HB.out))) : w.heap.size ≤ gb101)); have n3_ := Aside0.mk ((by rw [hg]; exact (below_size (by repeat (first | (with_reducible first | exact HB.out | apply below_alloc | apply pw_below_drewN | apply below_drew1) | exact HB.out))) : w.heap.size ≤ gb101)); clear HB; have HB := n0_; have BK101 := n1_; have GW101 := n2_; have GE101 := n3_; clear n0_ n1_ n2_ n3_; clear hb hbox hg) | ((with_reducible refine gate_dst (N := 3) rfl ?_); refine box_event ?hg (N := 3) ?hd (cs := #[.slice A1_0 l1_0.length c1_0, .int .i64 a1_1, .int .i64 a1_2]) (t := 58) ?hr ?_; (case hd => rfl); (case hg => rfl); (case hr => first | (go_simp; done) | (go_simp; rfl)); intro gb102 hg w18 hbox hb; have n0_ := Aside0.mk (blk_below (g := gb101) (o := .cells #[.slice A0_0 l0_0.length c0_0, .int .i64 a0_1, .int .i64 a0_2] 58 (0, 0)) (by (with_reducible repeat (first | refine blk_drewN ?_ _ | refine blk_drew ?_ | refine blk_alloc ?_ _)); exact BK101.out) hb); have n1_ := Aside0.mk (below_step (by repeat (first | (with_reducible first | exact HB.out | apply below_alloc | apply pw_below_drewN | apply below_drew1 | refine below_set ?_ GE101.out) | exact HB.out)) hb); have n2_ := Aside0.mk (hbox); have n3_ := Aside0.mk ((by rw [hg]; exact (below_size (by repeat (first | (with_reducible first | exact HB.out | apply below_alloc | apply pw_below_drewN | apply below_drew1 | refine below_set ?_ GE101.out) | exact HB.out))) : w.heap.size ≤ gb102)); have n4_ := Aside0.mk ((by rw [hg]; exact (below_size (by repeat (first | (with_reducible first | exact HB.out | apply below_alloc | apply pw_below_drewN | apply below_drew1 | refine below_set ?_ GE101.out) | exact HB.out))) : w.heap.size ≤ gb102)); have n5_ := Aside0.mk ((by rw [hg]; exact Nat.ne_of_lt (blk_lt (g := gb101) (o := .cells #[.slice A0_0 l0_0.length c0_0, .int .i64 a0_1, .int .i64 a0_2] 58 (0, 0)) (by (with_reducible repeat (first | refine blk_drewN ?_ _ | refine blk_drew ?_ | refine blk_alloc ?_ _)); exact BK101.out)) : gb101 ≠ gb102)); have n6_ := Aside0.mk ((by rw [hg]; exact Nat.ne_of_gt (blk_lt (g := gb101) (o := .cells #[.slice A0_0 l0_0.length c0_0, .int .i64 a0_1, .int .i64 a0_2] 58 (0, 0)) (by (with_reducible repeat (first | refine blk_drewN ?_ _ | refine blk_drew ?_ | refine blk_alloc ?_ _)); exact BK101.out)) : gb102 ≠ gb101)); clear BK101; clear HB; have BK101 := n0_; have HB := n1_; have BK102 := n2_; have GW102 := n3_; have GE102 := n4_; have NB101_102 := n5_; have NB102_101 := n6_; clear n0_ n1_ n2_ n3_ n4_ n5_ n6_; clear hb hbox hg; have hnb19 := NB101_102.out; have hnc19 := NB102_101.out; have hcz20_0 : w18.cell? ⟨gb101, 0, none⟩ = some (.slice A0_0 l0_0.length c0_0) := (blk_cell BK101.out 0).trans rfl; have hcz20_1 : w18.cell? ⟨gb101, 1, none⟩ = some (.int .i64 a0_1) := (blk_cell BK101.out 1).trans rfl; have hcz20_2 : w18.cell? ⟨gb101, 2, none⟩ = some (.int .i64 a0_2) := (blk_cell BK101.out 2).trans rfl; have hfz20_0 := blk_frozen BK101.out 0; have hfz20_1 := blk_frozen BK101.out 1; have hfz20_2 := blk_frozen BK101.out 2; have hcz21_0 : w18.cell? ⟨gb102, 0, none⟩ = some (.slice A1_0 l1_0.length c1_0) := (blk_cell BK102.out 0).trans rfl; have hcz21_1 : w18.cell? ⟨gb102, 1, none⟩ = some (.int .i64 a1_1) := (blk_cell BK102.out 1).trans rfl; have hcz21_2 : w18.cell? ⟨gb102, 2, none⟩ = some (.int .i64 a1_2) := (blk_cell BK102.out 2).trans rfl; have hfz21_0 := blk_frozen BK102.out 0; have hfz21_1 := blk_frozen BK102.out 1; have hfz21_2 := blk_frozen BK102.out 2) | ((with_reducible refine gate_callee (f := 77) rfl ?_); refine goesL_ (some 9) rfl rfl Try.func77 (by kernel_rfl) rfl #[.slice A0_0 l0_0.length c0_0, .slice A1_0 l1_0.length c1_0] rfl (by (try simp only [List.map_toArray, List.map_cons, List.map_nil]); first | done | rfl | (simp only [List.length_drop, List.length_take]; rfl)) ?_; (with_reducible refine (laws_eqBoolS.calls k _ _ l0_0 _ _ l1_0 true _ ?side1 ?side2 ?side3 ?side4 A3.out).mono ?_); (case side1 => repeat (first | exact (Kd.C_below HR0_0.out HB.out) | (with_reducible refine Kd.C_alloc ?_ _) | (with_reducible refine Kd.C_drewN ?_ _) | (with_reducible refine Kd.C_drew ?_))); (case side2 => exact HC0_0.out); (case side3 => repeat (first | exact (Kd.C_below HR1_0.out HB.out) | (with_reducible refine Kd.C_alloc ?_ _) | (with_reducible refine Kd.C_drewN ?_ _) | (with_reducible refine Kd.C_drew ?_))); (case side4 => exact HC1_0.out); rintro e w' ⟨rfl, ⟨nd, rfl⟩⟩; refine ⟨_, rfl, ?_⟩))
      go_ret
      exact ⟨by first | rfl | (simp [errW_none, errW_some] <;> rfl) | (simp [*, errW_none, errW_some] <;> rfl), by repeat (first | (with_reducible first | exact HB.out | apply below_alloc | apply pw_below_drewN | apply below_drew1 | refine below_set ?_ GE101.out | refine below_set ?_ GE102.out) | exact HB.out)⟩
  · replace c4 := Bool.eq_false_iff.mpr c4
    subst c4
    have H1 : (some false) = some r := by rw [if_neg (show ¬ (false = true) by decide)] at H; exact H
    clear H
    have H := H1
    clear H1
    obtain rfl := Option.some.inj H
    go_enter Try.func43, Try.ntmps43
    go_wp2_with (first | ((with_reducible refine gate_dst (N := 2) rfl ?_); refine box_event ?hg (N := 2) ?hd (cs := #[.slice A0_0 l0_0.length c0_0, .int .i64 a0_1, .int .i64 a0_2]) (t := 58) ?hr ?_; (case hd => rfl); (case hg => rfl); (case hr => first | (go_simp; done) | (go_simp; rfl)); intro gb101 hg w22 hbox hb; have n0_ := Aside0.mk (below_step (by repeat (first | (with_reducible first | exact HB.out | apply below_alloc | apply pw_below_drewN | apply below_drew1) | exact HB.out)) hb); have n1_ := Aside0.mk (hbox); have n2_ := Aside0.mk ((by rw [hg]; exact (below_size (by repeat (first | (with_reducible first | exact HB.out | apply below_alloc | apply pw_below_drewN | apply below_drew1) | exact HB.out))) : w.heap.size ≤ gb101)); have n3_ := Aside0.mk ((by rw [hg]; exact (below_size (by repeat (first | (with_reducible first | exact HB.out | apply below_alloc | apply pw_below_drewN | apply below_drew1) | exact HB.out))) : w.heap.size ≤ gb101)); clear HB; have HB := n0_; have BK101 := n1_; have GW101 := n2_; have GE101 := n3_; clear n0_ n1_ n2_ n3_; clear hb hbox hg) | ((with_reducible refine gate_dst (N := 3) rfl ?_); refine box_event ?hg (N := 3) ?hd (cs := #[.slice A1_0 l1_0.length c1_0, .int .i64 a1_1, .int .i64 a1_2]) (t := 58) ?hr ?_; (case hd => rfl); (case hg => rfl); (case hr => first | (go_simp; done) | (go_simp; rfl)); intro gb102 hg w23 hbox hb; have n0_ := Aside0.mk (blk_below (g := gb101) (o := .cells #[.slice A0_0 l0_0.length c0_0, .int .i64 a0_1, .int .i64 a0_2] 58 (0, 0)) (by (with_reducible repeat (first | refine blk_drewN ?_ _ | refine blk_drew ?_ | refine blk_alloc ?_ _)); exact BK101.out) hb); have n1_ := Aside0.mk (below_step (by repeat (first | (with_reducible first | exact HB.out | apply below_alloc | apply pw_below_drewN | apply below_drew1 | refine below_set ?_ GE101.out) | exact HB.out)) hb); have n2_ := Aside0.mk (hbox); have n3_ := Aside0.mk ((by rw [hg]; exact (below_size (by repeat (first | (with_reducible first | exact HB.out | apply below_alloc | apply pw_below_drewN | apply below_drew1 | refine below_set ?_ GE101.out) | exact HB.out))) : w.heap.size ≤ gb102)); have n4_ := Aside0.mk ((by rw [hg]; exact (below_size (by repeat (first | (with_reducible first | exact HB.out | apply below_alloc | apply pw_below_drewN | apply below_drew1 | refine below_set ?_ GE101.out) | exact HB.out))) : w.heap.size ≤ gb102)); have n5_ := Aside0.mk ((by rw [hg]; exact Nat.ne_of_lt (blk_lt (g := gb101) (o := .cells #[.slice A0_0 l0_0.length c0_0, .int .i64 a0_1, .int .i64 a0_2] 58 (0, 0)) (by (with_reducible repeat (first | refine blk_drewN ?_ _ | refine blk_drew ?_ | refine blk_alloc ?_ _)); exact BK101.out)) : gb101 ≠ gb102)); have n6_ := Aside0.mk ((by rw [hg]; exact Nat.ne_of_gt (blk_lt (g := gb101) (o := .cells #[.slice A0_0 l0_0.length c0_0, .int .i64 a0_1, .int .i64 a0_2] 58 (0, 0)) (by (with_reducible repeat (first | refine blk_drewN ?_ _ | refine blk_drew ?_ | refine blk_alloc ?_ _)); exact BK101.out)) : gb102 ≠ gb101)); clear BK101; clear HB; have BK101 := n0_; have HB := n1_; have BK102 := n2_; have GW102 := n3_; have GE102 := n4_; have NB101_102 := n5_; have NB102_101 := n6_; clear n0_ n1_ n2_ n3_ n4_ n5_ n6_; clear hb hbox hg; have hnb24 := NB101_102.out; have hnc24 := NB102_101.out; have hcz25_0 : w23.cell? ⟨gb101, 0, none⟩ = some (.slice A0_0 l0_0.length c0_0) := (blk_cell BK101.out 0).trans rfl; have hcz25_1 : w23.cell? ⟨gb101, 1, none⟩ = some (.int .i64 a0_1) := (blk_cell BK101.out 1).trans rfl; have hcz25_2 : w23.cell? ⟨gb101, 2, none⟩ = some (.int .i64 a0_2) := (blk_cell BK101.out 2).trans rfl; have hfz25_0 := blk_frozen BK101.out 0; have hfz25_1 := blk_frozen BK101.out 1; have hfz25_2 := blk_frozen BK101.out 2; have hcz26_0 : w23.cell? ⟨gb102, 0, none⟩ = some (.slice A1_0 l1_0.length c1_0) := (blk_cell BK102.out 0).trans rfl; have hcz26_1 : w23.cell? ⟨gb102, 1, none⟩ = some (.int .i64 a1_1) := (blk_cell BK102.out 1).trans rfl; have hcz26_2 : w23.cell? ⟨gb102, 2, none⟩ = some (.int .i64 a1_2) := (blk_cell BK102.out 2).trans rfl; have hfz26_0 := blk_frozen BK102.out 0; have hfz26_1 := blk_frozen BK102.out 1; have hfz26_2 := blk_frozen BK102.out 2) | ((with_reducible refine gate_callee (f := 77) rfl ?_); refine goesL_ (some 9) rfl rfl Try.func77 (by kernel_rfl) rfl #[.slice A0_0 l0_0.length c0_0, .slice A1_0 l1_0.length c1_0] rfl (by (try simp only [List.map_toArray, List.map_cons, List.map_nil]); first | done | rfl | (simp only [List.length_drop, List.length_take]; rfl)) ?_; (with_reducible refine (laws_eqBoolS.calls k _ _ l0_0 _ _ l1_0 false _ ?side1 ?side2 ?side3 ?side4 A3.out).mono ?_); (case side1 => repeat (first | exact (Kd.C_below HR0_0.out HB.out) | (with_reducible refine Kd.C_alloc ?_ _) | (with_reducible refine Kd.C_drewN ?_ _) | (with_reducible refine Kd.C_drew ?_))); (case side2 => exact HC0_0.out); (case side3 => repeat (first | exact (Kd.C_below HR1_0.out HB.out) | (with_reducible refine Kd.C_alloc ?_ _) | (with_reducible refine Kd.C_drewN ?_ _) | (with_reducible refine Kd.C_drew ?_))); (case side4 => exact HC1_0.out); rintro e w' ⟨rfl, ⟨nd, rfl⟩⟩; refine ⟨_, rfl, ?_⟩))
    go_ret
    exact ⟨by first | rfl | (simp [errW_none, errW_some] <;> rfl) | (simp [*, errW_none, errW_some] <;> rfl), by repeat (first | (with_reducible first | exact HB.out | apply below_alloc | apply pw_below_drewN | apply below_drew1 | refine below_set ?_ GE101.out | refine below_set ?_ GE102.out) | exact HB.out)⟩

end Go.Proofs.Ytbdbeccaopphaaa.Q
namespace Go.Proofs.Ytbdbeccaopphaaa.Q
open Go.RowKit Go.Proofs.YtbdbeccaopphaaaW.PrintWords Go.Proofs.YtbdbeccaopphaaaW.PrintLast Go.Proofs.Ytbdbeccaopphaaa.LK Go.Proofs.YtbdbeccaopphaaaW.PrintMore
attribute [local go_sem] max2_int min2_int max_two min_two max_three min_three max_four min_four   -- for this text's walks alone
set_option linter.unusedVariables false
set_option linter.unusedSimpArgs false

/-! ### laws_markBoolS: function 78 -/
def laws_markBoolS.l0 : Nat → List Bool → Int → Int → Option (Int × List Bool)
  | 0, _, _, _ => none
  | k + 1, x0, x1, x5 => if x5 < (x0.length : Int) then (if 0 ≤ x5 then (laws_markBoolS.l0 k (x0.set (x5 : Int).toNat ((Int.tmod x1 3) == 0)) (wrap64 (x1 + 1)) (wrap64 (x5 + 1))) else (none)) else (some (x1, x0))
def laws_markBoolS.f (k : Nat) (l0 : List Bool) (a1 : Int) : Option (Int × List Bool) := laws_markBoolS.l0 k l0 a1 0
theorem laws_markBoolS.mono_l : ∀ k, (∀ y0 y1 y2, LeO (laws_markBoolS.l0 k y0 y1 y2) (laws_markBoolS.l0 (k + 1) y0 y1 y2))
  | 0 => fun _ _ _ r h => by simp [laws_markBoolS.l0] at h
  | k + 1 => by
    have ih0 := laws_markBoolS.mono_l k
    · intro y0 y1 y2
      unfold laws_markBoolS.l0
      repeat' first
      | (with_reducible exact ih0 _ _ _)
      | (with_reducible exact LeO.refl _)
      | (with_reducible exact LeO.none _)
      | (with_reducible refine LeO.ite ?_ ?_)
      | (with_reducible refine LeO.bind ?_ (fun _ => ?_))
      | exact ih0 _ _ _
      | exact LeO.none _
      | refine LeO.ite ?_ ?_
      | refine LeO.bind ?_ (fun _ => ?_)
theorem laws_markBoolS.mono : ∀ a0 a1 k, LeO (laws_markBoolS.f k a0 a1) (laws_markBoolS.f (k + 1) a0 a1) := by
  intro a0 a1 k
  have ih0 := laws_markBoolS.mono_l k
  unfold laws_markBoolS.f
  repeat' first
      | (with_reducible exact ih0 _ _ _)
      | (with_reducible exact LeO.refl _)
      | (with_reducible exact LeO.none _)
      | (with_reducible refine LeO.ite ?_ ?_)
      | (with_reducible refine LeO.bind ?_ (fun _ => ?_))
      | exact ih0 _ _ _
      | exact LeO.none _
      | refine LeO.ite ?_ ?_
      | refine LeO.bind ?_ (fun _ => ?_)
set_option maxHeartbeats 8000000 in
set_option maxRecDepth 100000 in
theorem laws_markBoolS.calls (k : Nat) (P0_ : Nat → Prop) (u9000_ : Value) (l0 : List Bool) (a1 : Int) (r1 : Int) (r2 : List Bool) (w0 w : World) (hB : Below w0.heap.size w0 w) (ho0 : Kd.R Kd.bool 4 w w0.heap.size P0_ u9000_ l0) (h : laws_markBoolS.f k l0 a1 = some (r1, r2)) :
    Calls Try.prog 78 #[u9000_, .int .i64 a1] w fun e w' => e = .returned (.int .i64 r1) ∧ Kd.R Kd.bool 4 w' w0.heap.size (fun k_ => (P0_ k_ ∨ w.heap.size ≤ k_)) u9000_ r2 ∧ Below w0.heap.size w0 w' ∧ Kept w w' (fun k_ => P0_ k_) := by
  have HO0 := Aside0.mk (show Kd.R Kd.bool 4 w w0.heap.size (fun k_ => (P0_ k_ ∨ w.heap.size ≤ k_)) u9000_ l0 from Kd.R_mono ho0 (fun k_ hk => (.inl hk)))
  have HK := Aside0.mk (Kept.refl w (fun k_ => P0_ k_))
  have HW0 := Aside0.mk hB.size
  have HB := Aside0.mk hB
  clear hB
  have H : (laws_markBoolS.l0 k l0 a1 0) = some (r1, r2) := h
  clear h
  have H' := Aside0.mk H
  clear H
  go_enter Try.func78, Try.ntmps78
  go_wp2
  go_loopg [1, 5] k (fun kq v1 v5 w' => ∃ (x0_1 : List Bool) (x1_1 : Int) (x5_1 : Int), v1 = .int .i64 x1_1 ∧ v5 = .int .i64 x5_1 ∧ Aside0 (laws_markBoolS.l0 kq x0_1 x1_1 x5_1 = some (r1, r2)) ∧ Aside0 (kq ≤ k) ∧ Aside0 (Kd.R Kd.bool 4 w' w0.heap.size (fun k_ => (P0_ k_ ∨ w.heap.size ≤ k_)) u9000_ x0_1) ∧ Aside0 (Kept w w' (fun k_ => P0_ k_)) ∧ Aside0 (Below w0.heap.size w0 w'))
  case atStart => exact ⟨(l0), (a1), (0), (by first | rfl | (simp; done) | (simp [*]; done)), (by first | rfl | (simp; done) | (simp [*]; done)), H', ⟨Nat.le_refl _⟩, ⟨by (with_reducible repeat (first | apply Kd.R_alloc | apply Kd.R_drewN | apply Kd.R_drew)); exact HO0.out⟩, ⟨by repeat (first | (with_reducible first | exact HK.out | apply Kept.alloc | apply Kept.drewN | apply Kept.drew) | exact HK.out)⟩, ⟨by repeat (first | (with_reducible first | exact HB.out | apply below_alloc | apply pw_below_drewN | apply below_drew1) | exact HB.out)⟩⟩
  case round =>
    clear H'
    try clear p2
    obtain ⟨x0_1, x1_1, x5_1, rfl, rfl, HA, HK1, HO_0, HK, HB⟩ := hrel
    cases gk with
    | zero => exact absurd HA.out (by simp [laws_markBoolS.l0])
    | succ k1 =>
      have H := HA.out
      clear HA
      simp only [laws_markBoolS.l0] at H
      by_cases c3 : x5_1 < (x0_1.length : Int)
      · rw [if_pos c3] at H
        have c3b0 : decide (x5_1 < (x0_1.length : Int)) = true := decide_eq_true c3
        clear c3
        by_cases c4 : 0 ≤ x5_1
        · rw [if_pos c4] at H
          have c4b0 : decide (0 ≤ x5_1) = true := decide_eq_true c4
          clear c4
          obtain ⟨y101, hy101⟩ : ∃ y_ : List Bool, y_ = (x0_1.set (x5_1 : Int).toNat ((Int.tmod x1_1 3) == 0)) := ⟨_, rfl⟩
          replace H : (laws_markBoolS.l0 k1 y101 (wrap64 (x1_1 + 1)) (wrap64 (x5_1 + 1))) = some (r1, r2) := by first | (rw [hy101]; with_reducible exact H) | (have H2_ := (Option.bind_some _ _).symm.trans H; rw [hy101]; with_reducible exact H2_) | (have H2_ := (Option.bind_some _ _).symm.trans H; with_reducible exact H2_) | with_reducible exact H | (rw [hy101]; exact H) | exact H
          have Ny101 := Aside0.mk hy101
          clear hy101
          have H' := Aside0.mk H
          clear H
          obtain ⟨Ao6, co6, eo6⟩ := Kd.R_slice HO_0.out
          subst eo6
          have p5 : 0 ≤ (x5_1 : Int) := of_decide_eq_true (by first | (with_reducible assumption) | assumption)
          have q5 : (x5_1 : Int) < ((x0_1.length : Int) : Int) := of_decide_eq_true (by first | (with_reducible assumption) | assumption)
          obtain ⟨go5, co5, eo5, gb5, gl5, cl5, HG5⟩ := Kd.R_form HO_0.out (by omega)
          (first | cases eo5 | (injection eo5 with ea_ en_ ec_; (first | subst ea_ | (injection ea_ with ea_; subst ea_)); subst ec_; clear en_))
          have GB5 := Aside0.mk gb5
          have GG5 := Aside0.mk HG5
          clear gb5 gl5 HG5
          have HMgo5 := Aside0.mk (show (P0_ go5 ∨ w.heap.size ≤ go5) from (HO_0.out.1 _ rfl))
          obtain ⟨hx5_0, hf5_0⟩ := Kd.R_celln false HO_0.out (x5_1 : Int) p5 q5
          replace p5 := eq_true p5
          replace q5 := eq_true q5
          have HP7 := Kd.R_putg HO_0.out (x5_1 : Int) ((Int.tmod x1_1 3) == 0)
          go_wp2_with (first | ((with_reducible refine gate_store (t := 4) (p := 17) rfl ?_); refine store_event (t := 4) (p := 17) (v := ?vo_w8) (w1 := (wr.setCell ⟨go5, (x5_1 : Int).toNat, none⟩ (.bool ((Int.tmod x1_1 3) == 0)))) ?hg ?ho ?hn ?hr ?_; (case ho => rfl); (case hg => rfl); (case hn => rfl); (case hr => first | (go_simp; done) | (go_simp; rfl)); intro w8 hw; have hg : wr.grownBy w8 (some go5) := (by rw [hw]; exact HP7.2); have hp_ : Kd.R Kd.bool 4 w8 w0.heap.size (fun k_ => (P0_ k_ ∨ w.heap.size ≤ k_)) (.slice (some ⟨go5, 0, none⟩) x0_1.length co6) y101 := (by rw [hw, Ny101.out]; exact HP7.1); clear HP7; have n0_ := Aside0.mk (hp_); have n1_ := Aside0.mk ((by rw [hw]; exact below_set (HB.out) GB5.out : Below w0.heap.size w0 w8)); have n2_ := Aside0.mk (Kept.of_grown (S := (fun k_ => P0_ k_)) hg (by repeat (first | (with_reducible first | exact HK.out | apply Kept.alloc | apply Kept.drewN | apply Kept.drew) | exact HK.out)) (fun k_ e_ => (HO_0.out.1 k_ e_))); clear HO_0; clear HB; clear HK; have HO_0 := n0_; have HB := n1_; have HK := n2_; clear n0_ n1_ n2_; clear hg hw hp_))
          go_roundg k1
          case measure => have := HK1.out; omega
          case rel => exact ⟨(y101), (wrap64 (x1_1 + 1)), (wrap64 (x5_1 + 1)), (by first | rfl | (simp; done) | (simp [*]; done)), (by first | rfl | (simp; done) | (simp [*]; done)), H', ⟨by have := HK1.out; omega⟩, ⟨by (with_reducible repeat (first | apply Kd.R_alloc | apply Kd.R_drewN | apply Kd.R_drew)); exact HO_0.out⟩, ⟨by repeat (first | (with_reducible first | exact HK.out | apply Kept.alloc | apply Kept.drewN | apply Kept.drew) | exact HK.out)⟩, ⟨by repeat (first | (with_reducible first | exact HB.out | apply below_alloc | apply pw_below_drewN | apply below_drew1) | exact HB.out)⟩⟩
        · rw [if_neg c4] at H
          exact absurd H (by simp)
      · rw [if_neg c3] at H
        have c3b0 : decide (x5_1 < (x0_1.length : Int)) = false := decide_eq_false c3
        clear c3
        simp only [Option.some.injEq, Prod.mk.injEq] at H
        obtain ⟨rfl, rfl⟩ := H
        obtain ⟨Ao9, co9, eo9⟩ := Kd.R_slice HO_0.out
        subst eo9
        go_wp2
        go_ret
        exact ⟨by first | rfl | (simp [errW_none, errW_some] <;> rfl) | (simp [*, errW_none, errW_some] <;> rfl), by (with_reducible repeat (first | apply Kd.R_alloc | apply Kd.R_drewN | apply Kd.R_drew)); exact HO_0.out, by repeat (first | (with_reducible first | exact HB.out | apply below_alloc | apply pw_below_drewN | apply below_drew1) | exact HB.out), by repeat (first | (with_reducible first | exact HK.out | apply Kept.alloc | apply Kept.drewN | apply Kept.drew) | exact HK.out)⟩

end Go.Proofs.Ytbdbeccaopphaaa.Q
namespace Go.Proofs.Ytbdbeccaopphaaa.Q
open Go.RowKit Go.Proofs.YtbdbeccaopphaaaW.PrintWords Go.Proofs.YtbdbeccaopphaaaW.PrintLast Go.Proofs.Ytbdbeccaopphaaa.LK Go.Proofs.YtbdbeccaopphaaaW.PrintMore
attribute [local go_sem] max2_int min2_int max_two min_two max_three min_three max_four min_four   -- for this text's walks alone
set_option linter.unusedVariables false
set_option linter.unusedSimpArgs false

/-! ### laws_markCrash: function 44 -/
def laws_markCrash.f (k : Nat) (l0_0 : List Bool) (a0_1 : Int) (a0_2 : Int) (a1 : Int) : Option (Int × List Bool) := (laws_markBoolS.f k l0_0 a1).bind fun bt102 => (some (bt102.1, bt102.2))
theorem laws_markCrash.mono : ∀ a0 a1 a2 a3 k, LeO (laws_markCrash.f k a0 a1 a2 a3) (laws_markCrash.f (k + 1) a0 a1 a2 a3) := by
  intro a0 a1 a2 a3 k
  unfold laws_markCrash.f
  repeat' first
      | (with_reducible exact laws_markBoolS.mono _ _ _)
      | (with_reducible exact LeO.refl _)
      | (with_reducible exact LeO.none _)
      | (with_reducible refine LeO.ite ?_ ?_)
      | (with_reducible refine LeO.bind ?_ (fun _ => ?_))
      | exact laws_markBoolS.mono _ _ _
      | exact LeO.none _
      | refine LeO.ite ?_ ?_
      | refine LeO.bind ?_ (fun _ => ?_)
set_option maxHeartbeats 8000000 in
set_option maxRecDepth 100000 in
theorem laws_markCrash.calls (k : Nat) (P0_0_ : Nat → Prop) (u9000_ : Value) (l0_0 : List Bool) (a0_1 : Int) (a0_2 : Int) (a1 : Int) (r1 : Int) (r2 : List Bool) (w0 w : World) (hB : Below w0.heap.size w0 w) (ho0_0 : Kd.R Kd.bool 4 w w0.heap.size P0_0_ u9000_ l0_0) (h : laws_markCrash.f k l0_0 a0_1 a0_2 a1 = some (r1, r2)) :
    Calls Try.prog 44 #[.agg #[u9000_, .int .i64 a0_1, .int .i64 a0_2], .int .i64 a1] w fun e w' => e = .returned (.int .i64 r1) ∧ Kd.R Kd.bool 4 w' w0.heap.size (fun k_ => (P0_0_ k_ ∨ w.heap.size ≤ k_)) u9000_ r2 ∧ Below w0.heap.size w0 w' ∧ Kept w w' (fun k_ => P0_0_ k_) := by
  have hu58 := Try.underlying58
  have HO0_0 := Aside0.mk (show Kd.R Kd.bool 4 w w0.heap.size (fun k_ => (P0_0_ k_ ∨ w.heap.size ≤ k_)) u9000_ l0_0 from Kd.R_mono ho0_0 (fun k_ hk => (.inl hk)))
  have HK := Aside0.mk (Kept.refl w (fun k_ => P0_0_ k_))
  have HW0 := Aside0.mk hB.size
  have HB := Aside0.mk hB
  clear hB
  have H : ((laws_markBoolS.f k l0_0 a1).bind fun bt102 => (some (bt102.1, bt102.2))) = some (r1, r2) := h
  clear h
  replace H := Option.bind_eq_some_iff.mp H
  obtain ⟨⟨t102, t103⟩, A30, H⟩ := H
  replace H : (some (t102, t103)) = some (r1, r2) := H
  have A3 := Aside0.mk A30
  clear A30
  simp only [Option.some.injEq, Prod.mk.injEq] at H
  obtain ⟨rfl, rfl⟩ := H
  obtain ⟨Ao4, co4, eo4⟩ := Kd.R_slice HO0_0.out
  subst eo4
  go_enter Try.func44, Try.ntmps44
  go_wp2_with (first | ((with_reducible refine gate_dst (N := 2) rfl ?_); refine box_event ?hg (N := 2) ?hd (cs := #[.slice Ao4 l0_0.length co4, .int .i64 a0_1, .int .i64 a0_2]) (t := 58) ?hr ?_; (case hd => rfl); (case hg => rfl); (case hr => first | (go_simp; done) | (go_simp; rfl)); intro gb101 hg w5 hbox hb; have n0_ := Aside0.mk (Kd.R_below (by (with_reducible repeat (first | apply Kd.R_alloc | apply Kd.R_drewN | apply Kd.R_drew)); exact HO0_0.out) hb); have n1_ := Aside0.mk (Kept.below (S := (fun k_ => P0_0_ k_)) (by repeat (first | (with_reducible first | exact HK.out | apply Kept.alloc | apply Kept.drewN | apply Kept.drew) | exact HK.out)) hb); have n2_ := Aside0.mk (below_step (by repeat (first | (with_reducible first | exact HB.out | apply below_alloc | apply pw_below_drewN | apply below_drew1) | exact HB.out)) hb); have n3_ := Aside0.mk (hbox); have n4_ := Aside0.mk ((by rw [hg]; exact (by first | exact HK.out.1 | exact (show Kept w _ (fun k_ => P0_0_ k_) from by repeat (first | (with_reducible first | exact HK.out | apply Kept.alloc | apply Kept.drewN | apply Kept.drew) | exact HK.out)).1) : w.heap.size ≤ gb101)); have n5_ := Aside0.mk ((by rw [hg]; exact (below_size (by repeat (first | (with_reducible first | exact HB.out | apply below_alloc | apply pw_below_drewN | apply below_drew1) | exact HB.out))) : w0.heap.size ≤ gb101)); clear HO0_0; clear HK; clear HB; have HO0_0 := n0_; have HK := n1_; have HB := n2_; have BK101 := n3_; have GW101 := n4_; have GE101 := n5_; clear n0_ n1_ n2_ n3_ n4_ n5_; clear hb hbox hg; have hcz6_0 : w5.cell? ⟨gb101, 0, none⟩ = some (.slice Ao4 l0_0.length co4) := (blk_cell BK101.out 0).trans rfl; have hcz6_1 : w5.cell? ⟨gb101, 1, none⟩ = some (.int .i64 a0_1) := (blk_cell BK101.out 1).trans rfl; have hcz6_2 : w5.cell? ⟨gb101, 2, none⟩ = some (.int .i64 a0_2) := (blk_cell BK101.out 2).trans rfl; have hfz6_0 := blk_frozen BK101.out 0; have hfz6_1 := blk_frozen BK101.out 1; have hfz6_2 := blk_frozen BK101.out 2) | ((with_reducible refine gate_callee (f := 78) rfl ?_); refine goesL_ (some 8) rfl rfl Try.func78 (by kernel_rfl) rfl #[.slice Ao4 l0_0.length co4, .int .i64 a1] rfl (by (try simp only [List.map_toArray, List.map_cons, List.map_nil]); first | done | rfl | (simp only [List.length_drop, List.length_take]; rfl)) ?_; (with_reducible refine (laws_markBoolS.calls k (fun k_ => some k_ = (.slice Ao4 l0_0.length co4 : Value).ownBlock) (.slice Ao4 l0_0.length co4) l0_0 a1 t102 t103 w0 _ ?side1 ?side2 A3.out).mono ?_); (case side1 => repeat (first | (with_reducible first | exact HB.out | apply below_alloc | apply pw_below_drewN | apply below_drew1 | refine below_set ?_ GE101.out) | exact HB.out)); (case side2 => exact Kd.R_tight rfl HO0_0.out); rintro e w7 ⟨rfl, hy0, hb, hkp⟩; refine ⟨_, rfl, ?_⟩; have n0_ := Aside0.mk (Kd.R_reok rfl hy0 (fun k_ e_ => HO0_0.out.1 k_ e_)); have n1_ := Aside0.mk (blk_kept (by (with_reducible repeat (first | refine blk_drewN ?_ _ | refine blk_drew ?_ | refine blk_alloc ?_ _)); exact BK101.out) hkp (fun hs_ => (fun e_ => (Kd.R_ne HO0_0.out BK101.out (by decide)) e_) hs_)); have n2_ := Aside0.mk (Kept.then_ (S := (fun k_ => P0_0_ k_)) (by repeat (first | (with_reducible first | exact HK.out | apply Kept.alloc | apply Kept.drewN | apply Kept.drew | refine Kept.setCell ?_ (.inr GW101.out) _) | exact HK.out)) hkp (fun k_ hs_ => (fun e_ => (HO0_0.out.1 k_ e_.symm)) hs_)); have n3_ := Aside0.mk (hb); clear HO0_0; clear BK101; clear HK; clear HB; have HO0_0 := n0_; have BK101 := n1_; have HK := n2_; have HB := n3_; clear n0_ n1_ n2_ n3_; (try clear hb); (try clear hkp); (try clear hy0)))
  go_ret
  exact ⟨by first | rfl | (simp [errW_none, errW_some] <;> rfl) | (simp [*, errW_none, errW_some] <;> rfl), by (with_reducible repeat (first | apply Kd.R_alloc | apply Kd.R_drewN | apply Kd.R_drew)); exact HO0_0.out, by repeat (first | (with_reducible first | exact HB.out | apply below_alloc | apply pw_below_drewN | apply below_drew1 | refine below_set ?_ GE101.out) | exact HB.out), by repeat (first | (with_reducible first | exact HK.out | apply Kept.alloc | apply Kept.drewN | apply Kept.drew | refine Kept.setCell ?_ (.inr GW101.out) _) | exact HK.out)⟩

end Go.Proofs.Ytbdbeccaopphaaa.Q
namespace Go.Proofs.Ytbdbeccaopphaaa.LK
open Go.RowKit Go.Proofs.YtbdbeccaopphaaaW.PrintWords Go.Proofs.YtbdbeccaopphaaaW.PrintLast
set_option linter.unusedVariables false

/-- The blocks of l hold what l tells, and were made since w0; what w0 had is as it was. -/
structure Bx (w0 : World) (l : List (Nat × Array Value × Nat)) (W : World) : Prop where
  below : Below w0.heap.size w0 W
  at_ : ∀ b ∈ l, w0.heap.size ≤ b.1 ∧ W.heap[b.1]? = some (.cells b.2.1 b.2.2 (0, 0))
  once : (l.map (·.1)).Nodup
section
variable {w0 W W' : World} {l l1 l2 : List (Nat × Array Value × Nat)} {g t : Nat} {cs cs' : Array Value}
theorem Bx.refl (w : World) : Bx w [] w := ⟨Below.refl _ _, by simp, by simp⟩
theorem Bx.of {w0 W : World} (h : Below w0.heap.size w0 W) : Bx w0 [] W := ⟨h, by simp, by simp⟩
theorem Bx.new (h : Bx w0 l W) (hg : g = W.heap.size) (hb : W'.heap[g]? = some (.cells cs t (0, 0))) (hs : Below W.heap.size W W') : Bx w0 ((g, cs, t) :: l) W' := by
  refine ⟨below_step h.below hs, fun b hm => ?_, ?_⟩
  · rcases List.mem_cons.1 hm with rfl | hm
    · exact ⟨hg ▸ h.below.size, hb⟩
    · have h1 := h.at_ b hm
      exact ⟨h1.1, (hs.block _ (blk_lt h1.2)).trans h1.2⟩
  · rw [List.map_cons, List.nodup_cons]
    refine ⟨fun hm => ?_, h.once⟩
    obtain ⟨b, hb1, hb2⟩ := List.mem_map.1 hm
    have h2 : b.1 = g := hb2
    have := blk_lt (h.at_ b hb1).2
    omega
theorem Bx.step (h : Bx w0 l W) (hs : Below W.heap.size W W') : Bx w0 l W' :=
  ⟨below_step h.below hs, fun b hm => ⟨(h.at_ b hm).1, (hs.block _ (blk_lt (h.at_ b hm).2)).trans (h.at_ b hm).2⟩, h.once⟩
theorem Bx.drew (h : Bx w0 l W) : Bx w0 l W.drew := ⟨below_drew1 h.below, h.at_, h.once⟩
/-- A step that changes blocks of S alone, none of them in l and none of w0's. -/
theorem Bx.stp {S : Nat → Prop} (h : Bx w0 l W) (hs : Stp S W W') (h0 : ∀ k, S k → w0.heap.size ≤ k) (hl : ∀ b ∈ l, ¬ S b.1) : Bx w0 l W' :=
  ⟨⟨hs.os.trans h.below.os, hs.tape.trans h.below.tape, hs.output.trans h.below.output, Nat.le_trans h.below.size hs.size, fun i hi => (hs.block i (Nat.lt_of_lt_of_le hi h.below.size) (fun hk => by have := h0 i hk; omega)).trans (h.below.block i hi)⟩,
    fun b hm => ⟨(h.at_ b hm).1, (hs.block _ (blk_lt (h.at_ b hm).2) (hl b hm)).trans (h.at_ b hm).2⟩, h.once⟩
theorem Bx.write' (h : Bx w0 (l1 ++ (g, cs, t) :: l2) W) (hb : W'.heap[g]? = some (.cells cs' t (0, 0))) (hs : Stp (fun k => k = g) W W') : Bx w0 (l1 ++ (g, cs', t) :: l2) W' := by
  have hg := h.at_ (g, cs, t) (by simp)
  have hone : ∀ b ∈ l1 ++ l2, b.1 ≠ g := by
    intro b hm
    have h1 := h.once
    rw [List.map_append, List.map_cons] at h1
    have h2 := (List.perm_middle (a := g) (l₁ := l1.map (·.1)) (l₂ := l2.map (·.1))).nodup_iff.1 h1
    rw [List.nodup_cons, ← List.map_append] at h2
    exact fun he => h2.1 (List.mem_map.2 ⟨b, hm, he⟩)
  refine ⟨⟨hs.os.trans h.below.os, hs.tape.trans h.below.tape, hs.output.trans h.below.output, Nat.le_trans h.below.size hs.size, fun i hi => (hs.block i (Nat.lt_of_lt_of_le hi h.below.size) (fun hk => by have := hg.1; have h3 : i = g := hk; simp only at this; omega)).trans (h.below.block i hi)⟩, fun b hm => ?_, ?_⟩
  · rcases List.mem_append.1 hm with hm | hm
    · have h1 := h.at_ b (List.mem_append_left _ hm)
      exact ⟨h1.1, (hs.block _ (blk_lt h1.2) (hone b (List.mem_append_left _ hm))).trans h1.2⟩
    · rcases List.mem_cons.1 hm with rfl | hm
      · exact ⟨hg.1, hb⟩
      · have h1 := h.at_ b (List.mem_append_right _ (List.mem_cons_of_mem _ hm))
        exact ⟨h1.1, (hs.block _ (blk_lt h1.2) (hone b (List.mem_append_right _ hm))).trans h1.2⟩
  · have h1 := h.once
    rw [List.map_append, List.map_cons] at h1 ⊢
    exact h1
theorem Bx.wr0 {l : List (Nat × Array Value × Nat)} (h : Bx w0 ((g, cs, t) :: l) W) (hb : W'.heap[g]? = some (.cells cs' t (0, 0))) (hs : Stp (fun k => k = g) W W') : Bx w0 ((g, cs', t) :: l) W' := Bx.write' (l1 := []) h hb hs
theorem Bx.wr1 {l : List (Nat × Array Value × Nat)} {a : Nat × Array Value × Nat} (h : Bx w0 (a :: (g, cs, t) :: l) W) (hb : W'.heap[g]? = some (.cells cs' t (0, 0))) (hs : Stp (fun k => k = g) W W') : Bx w0 (a :: (g, cs', t) :: l) W' := Bx.write' (l1 := [a]) h hb hs
theorem Bx.wr2 {l : List (Nat × Array Value × Nat)} {a b : Nat × Array Value × Nat} (h : Bx w0 (a :: b :: (g, cs, t) :: l) W) (hb : W'.heap[g]? = some (.cells cs' t (0, 0))) (hs : Stp (fun k => k = g) W W') : Bx w0 (a :: b :: (g, cs', t) :: l) W' := Bx.write' (l1 := [a, b]) h hb hs
theorem Bx.wr3 {l : List (Nat × Array Value × Nat)} {a b c : Nat × Array Value × Nat} (h : Bx w0 (a :: b :: c :: (g, cs, t) :: l) W) (hb : W'.heap[g]? = some (.cells cs' t (0, 0))) (hs : Stp (fun k => k = g) W W') : Bx w0 (a :: b :: c :: (g, cs', t) :: l) W' := Bx.write' (l1 := [a, b, c]) h hb hs
theorem Bx.gt0 (h : Bx w0 ((g, cs, t) :: l) W) : W.heap[g]? = some (.cells cs t (0, 0)) := (h.at_ (g, cs, t) (by simp)).2
theorem Bx.gt1 {a : Nat × Array Value × Nat} (h : Bx w0 (a :: (g, cs, t) :: l) W) : W.heap[g]? = some (.cells cs t (0, 0)) := (h.at_ (g, cs, t) (by simp)).2
theorem Bx.gt2 {a b : Nat × Array Value × Nat} (h : Bx w0 (a :: b :: (g, cs, t) :: l) W) : W.heap[g]? = some (.cells cs t (0, 0)) := (h.at_ (g, cs, t) (by simp)).2
theorem Bx.gt3 {a b c : Nat × Array Value × Nat} (h : Bx w0 (a :: b :: c :: (g, cs, t) :: l) W) : W.heap[g]? = some (.cells cs t (0, 0)) := (h.at_ (g, cs, t) (by simp)).2
theorem Bx.gt4 {a b c d : Nat × Array Value × Nat} (h : Bx w0 (a :: b :: c :: d :: (g, cs, t) :: l) W) : W.heap[g]? = some (.cells cs t (0, 0)) := (h.at_ (g, cs, t) (by simp)).2
theorem Bx.gt5 {a b c d e : Nat × Array Value × Nat} (h : Bx w0 (a :: b :: c :: d :: e :: (g, cs, t) :: l) W) : W.heap[g]? = some (.cells cs t (0, 0)) := (h.at_ (g, cs, t) (by simp)).2
theorem Bx.wr4 {l : List (Nat × Array Value × Nat)} {a b c d : Nat × Array Value × Nat} (h : Bx w0 (a :: b :: c :: d :: (g, cs, t) :: l) W) (hb : W'.heap[g]? = some (.cells cs' t (0, 0))) (hs : Stp (fun k => k = g) W W') : Bx w0 (a :: b :: c :: d :: (g, cs', t) :: l) W' := Bx.write' (l1 := [a, b, c, d]) h hb hs
theorem Bx.tail {a : Nat × Array Value × Nat} (h : Bx w0 (a :: l) W) : Bx w0 l W := ⟨h.below, fun b hm => h.at_ b (List.mem_cons_of_mem _ hm), by have := h.once; rw [List.map_cons, List.nodup_cons] at this; exact this.2⟩
variable {α : Type} {d : Kd α} {e b : Nat} {ok : Nat → Prop} {v : Value} {xs : List α}
/-- A block below a row's base is written. -/
theorem R_away (h : d.R e W b ok v xs) (hs : Stp (fun k => k = g) W W') (hg : g < b) : d.R e W' b ok v xs :=
  Kd.R_mono (Kd.R_step (Kd.R_bound h) (fun k hk hlt => hs.block k hlt (fun he => by have := hk.2.1; have h2 : k = g := he; omega))) (fun _ hk => hk.1)
theorem S_away (h : d.S e W b ok v xs) (hs : Stp (fun k => k = g) W W') (hg : g < b) : d.S e W' b ok v xs :=
  Kd.S_mono (Kd.S_step (Kd.S_bound h) (fun k hk hlt => hs.block k hlt (fun he => by have := hk.2.1; have h2 : k = g := he; omega))) (fun _ hk => hk.1)
/-- A block of another type is written. -/
theorem R_other (h : d.R e W b ok v xs) (hb : W.heap[g]? = some (.cells cs t (0, 0))) (ht : ∀ q, q ∈ e :: d.E → q ≠ t) (hs : Stp (fun k => k = g) W W') : d.R e W' b ok v xs :=
  Kd.R_mono (Kd.R_step (Kd.R_types h hb ht) (fun k hk hlt => hs.block k hlt (fun he => hk.2 he))) (fun _ hk => hk.1)
theorem S_other (h : d.S e W b ok v xs) (hb : W.heap[g]? = some (.cells cs t (0, 0))) (ht : ∀ q, q ∈ e :: d.E → q ≠ t) (hs : Stp (fun k => k = g) W W') : d.S e W' b ok v xs :=
  Kd.S_mono (Kd.S_step (Kd.S_types h hb ht) (fun k hk hlt => hs.block k hlt (fun he => hk.2 he))) (fun _ hk => hk.1)
end
end Go.Proofs.Ytbdbeccaopphaaa.LK
namespace Go.Proofs.Ytbdbeccaopphaaa.Q
open Go.RowKit Go.Proofs.YtbdbeccaopphaaaW.PrintWords Go.Proofs.YtbdbeccaopphaaaW.PrintLast Go.Proofs.YtbdbeccaopphaaaW.PrintMore Go.Proofs.Ytbdbeccaopphaaa.LK
set_option linter.unusedVariables false
set_option linter.unusedSimpArgs false
def bytesV (l : List Int) : List Value := l.map (Value.int .u8)
theorem bytesV_length (l : List Int) : (bytesV l).length = l.length := by unfold bytesV; exact List.length_map ..
theorem bytesV_one (l : List Int) : ∀ v ∈ bytesV l, v.oneCell' = true := by
  intro v hv
  unfold bytesV at hv
  obtain ⟨x, _, rfl⟩ := List.mem_map.1 hv
  rfl
/-- The bytes that a slice leads to, cell by cell. -/
theorem bytes_at {w : World} {A : Option Addr} {l : List Int} (h : Kd.C (Kd.int .u8) w A l.length l) : 0 < l.length → ∃ ad, A = some ad ∧ ∀ j v, (bytesV l)[j]? = some v → w.cell? (ad.add j) = some v := by
  intro hp
  obtain ⟨_, _, h3⟩ := Kd.reads_of_C (enc := Value.int .u8) (d := (0 : Int)) (h1 := fun _ => rfl) h
  obtain ⟨ad, e, hc⟩ := h3 hp
  refine ⟨ad, e, fun j v hv => ?_⟩
  unfold bytesV at hv
  rw [List.getElem?_map] at hv
  obtain ⟨x, hx, rfl⟩ := Option.map_eq_some_iff.1 hv
  have hj := (List.getElem?_eq_some_iff.1 hx).1
  rw [hc j hj, List.getD_eq_getElem?_getD, hx]
  rfl
/-- A whole array is a row. -/
theorem R_arr {w : World} {base g t : Nat} {l : List Int} (hb : w.heap[g]? = some (.cells (bytesV l).toArray t (0, 0))) (hg : base ≤ g) (hl : l.length ≤ 9223372036854775807) : Kd.R (Kd.int .u8) t w base (fun _ => True) (.slice (some ⟨g, 0, none⟩) l.length l.length) l := by
  refine ⟨fun _ _ => trivial, bytesV l, ⟨?_, .inr ⟨g, l.length, (bytesV l).toArray, rfl, hg, hb, Nat.le_refl _, by unfold maxLen; exact hl, ?_, ?_⟩⟩, ?_⟩
  · rw [bytesV_length]; exact (Nat.mul_one _).symm
  · rw [List.size_toArray, bytesV_length]; exact (Nat.mul_one _).symm
  · show (bytesV l).take (l.length * 1) = bytesV l
    rw [Nat.mul_one, List.take_of_length_le (by rw [bytesV_length]; exact Nat.le_refl _)]
  · refine ⟨by rw [bytesV_length]; exact (Nat.mul_one _).symm, fun j p hj => ?_⟩
    show ((bytesV l).drop (j * 1)).take 1 = [.int .u8 p]
    obtain ⟨hj1, rfl⟩ := List.getElem?_eq_some_iff.1 hj
    unfold bytesV
    rw [Nat.mul_one, ← List.map_drop, ← List.map_take, List.drop_eq_getElem_cons hj1]
    rfl
theorem bytesV_append (l m : List Int) : bytesV (l ++ m) = bytesV l ++ bytesV m := by unfold bytesV; exact List.map_append
theorem bytesV_splice (l m : List Int) (tl : List Value) (o : Nat) (h : o + m.length ≤ l.length) : splice (bytesV l ++ tl) o (bytesV m) = bytesV (splice l o m) ++ tl := by
  unfold splice
  rw [List.take_append_of_le_length (by rw [bytesV_length]; omega), bytesV_length, List.drop_append_of_le_length (by rw [bytesV_length]; omega), bytesV_append, bytesV_append]
  unfold bytesV
  rw [List.map_take, List.map_drop, List.append_assoc, List.append_assoc]
/-- A row of one's own that has an element is a block from its first cell on. -/
theorem R_block {w : World} {base e n c : Nat} {ok : Nat → Prop} {A : Option Addr} {l : List Int} (h : Kd.R (Kd.int .u8) e w base ok (.slice A n c) l) (hp : 0 < l.length) :
    ∃ (B : Nat) (tl : List Value), A = some ⟨B, 0, none⟩ ∧ n = l.length ∧ c = l.length + tl.length ∧ base ≤ B ∧ ok B ∧ B < w.heap.size ∧ w.heap[B]? = some (.cells (bytesV l ++ tl).toArray e (0, 0)) ∧ c ≤ 9223372036854775807 := by
  obtain ⟨h0, inner, ⟨hn, ho⟩, hl, hi⟩ := h
  have ei : inner = bytesV l := by
    refine List.ext_getElem? (fun j => ?_)
    by_cases hj : j < l.length
    · have h1 := hi j l[j] (List.getElem?_eq_getElem hj)
      have h2 : (inner.drop (j * 1)).take 1 = [.int .u8 l[j]] := h1
      rw [Nat.mul_one] at h2
      have h3 : j < inner.length := by rw [hl]; show j < l.length * 1; omega
      rw [List.drop_eq_getElem_cons h3, List.take_succ_cons, List.take_zero] at h2
      injection h2 with h2 _
      rw [List.getElem?_eq_getElem h3, h2]
      unfold bytesV
      rw [List.getElem?_map, List.getElem?_eq_getElem hj]
      rfl
    · rw [List.getElem?_eq_none (by rw [hl]; show l.length * 1 ≤ j; omega), List.getElem?_eq_none (by rw [bytesV_length]; omega)]
  rcases ho with ⟨ho, he⟩ | ⟨g, cap, cur, ho, hg, hh, hc, hm, hsz, htk⟩
  · omega
  · injection ho with a1 a2 a3
    subst a1 a2 a3
    have hs2 : cur.size = c := by rw [hsz]; exact Nat.mul_one _
    have e2 : cur.toList = bytesV l ++ cur.toList.drop l.length := by
      rw [← ei, ← htk]
      rw [show l.length * (Kd.int .u8).sz = l.length from Nat.mul_one _]
      exact (List.take_append_drop _ _).symm
    refine ⟨g, cur.toList.drop l.length, rfl, rfl, ?_, hg, h0 g rfl, blk_lt hh, ?_, hm⟩
    · show c = l.length + (cur.toList.drop l.length).length
      have h9 : cur.toList.length = cur.size := rfl
      rw [List.length_drop]; omega
    · rw [← e2]; exact hh
theorem R_of_block {w : World} {base B e : Nat} {l : List Int} {tl : List Value} (hb : w.heap[B]? = some (.cells (bytesV l ++ tl).toArray e (0, 0))) (hg : base ≤ B) (hm : l.length + tl.length ≤ 9223372036854775807) :
    Kd.R (Kd.int .u8) e w base (fun k => k = B) (.slice (some ⟨B, 0, none⟩) l.length (l.length + tl.length)) l := by
  refine ⟨fun k hk => ?_, bytesV l, ⟨?_, .inr ⟨B, l.length + tl.length, (bytesV l ++ tl).toArray, rfl, hg, hb, Nat.le_add_right _ _, hm, ?_, ?_⟩⟩, ?_⟩
  · have : some B = some k := hk
    injection this with this
    exact this.symm
  · rw [bytesV_length]; exact (Nat.mul_one _).symm
  · rw [List.size_toArray, List.length_append, bytesV_length]; exact (Nat.mul_one _).symm
  · show (bytesV l ++ tl).take (l.length * 1) = bytesV l
    rw [Nat.mul_one, List.take_append_of_le_length (by rw [bytesV_length]; exact Nat.le_refl _), List.take_of_length_le (by rw [bytesV_length]; exact Nat.le_refl _)]
  · refine ⟨by rw [bytesV_length]; exact (Nat.mul_one _).symm, fun j p hj => ?_⟩
    show ((bytesV l).drop (j * 1)).take 1 = [.int .u8 p]
    obtain ⟨hj1, rfl⟩ := List.getElem?_eq_some_iff.1 hj
    unfold bytesV
    rw [Nat.mul_one, ← List.map_drop, ← List.map_take, List.drop_eq_getElem_cons hj1]
    rfl
theorem below_stp {w0 W W' : World} {S : Nat → Prop} (h : Below w0.heap.size w0 W) (s : Stp S W W') (hn : ∀ k, S k → w0.heap.size ≤ k) : Below w0.heap.size w0 W' :=
  ⟨s.os.trans h.os, s.tape.trans h.tape, s.output.trans h.output, Nat.le_trans h.size s.size, fun i hi => (s.block i (Nat.lt_of_lt_of_le hi h.size) (fun hk => by have := hn i hk; omega)).trans (h.block i hi)⟩
/-- A block that is there already is told with the others. -/
theorem Bx_add {w0 W : World} {l : List (Nat × Array Value × Nat)} {B t : Nat} {cs : Array Value} (h : Bx w0 l W) (hB : w0.heap.size ≤ B) (hb : W.heap[B]? = some (.cells cs t (0, 0))) (hf : ∀ b ∈ l, b.1 ≠ B) : Bx w0 ((B, cs, t) :: l) W := by
  refine ⟨h.below, fun b hm => ?_, ?_⟩
  · rcases List.mem_cons.1 hm with rfl | hm
    · exact ⟨hB, hb⟩
    · exact h.at_ b hm
  · rw [List.map_cons, List.nodup_cons]
    refine ⟨fun hm => ?_, h.once⟩
    obtain ⟨b, hb1, hb2⟩ := List.mem_map.1 hm
    exact hf b hb1 hb2
section
variable {P : Program} {ops : Array Oper} {o : Oper} {rest : List Oper} {a : Act} {W : World} {Q : Exit → Act → World → Prop} {K : Act → World → Prop}
theorem stp_setRow (W : World) (g : Nat) (cs : Array Value) : Stp (fun k => k = g) W (W.setRow g cs) := ⟨rfl, rfl, rfl, by simp [World.setRow], fun i _ hn => setRow_other W g i cs (fun he => hn he)⟩
/-- copy into a block, as a step of a region that draws. -/
theorem copy_step {N : Option Tmp} (hw : Region.wanted o (yielded ops a.tmps) = true) (hN : o.dst = N) (d s : Operand) (dT sT : TypeId)
    (ho : o.op = .call { callee := .builtin .copy, args := #[d, s], argTypes := #[dT, sT] }) (elem : TypeId) (hu : P.underlying dT = some (.slice elem)) (hsz : (P.info? elem).map (·.size) = some 1)
    (dp sp : Option Addr) (dLen dCap sLen sCap : Nat) (hd : a.eval d = .slice dp dLen dCap) (hs : a.eval s = .slice sp sLen sCap)
    (g off : Nat) (cur : List Value) (t : TypeId) (hg : W.heap[g]? = some (.cells cur.toArray t (0, 0))) (cs : List Value) (hn : cs.length = Nat.min sLen dLen)
    (hpos : 0 < cs.length → dp = some ⟨g, off, none⟩ ∧ ∃ ad, sp = some ad ∧ ∀ j v, cs[j]? = some v → W.cell? (ad.add j) = some v)
    (hfit : off + cs.length ≤ cur.length) (h1 : ∀ v ∈ cs, v.oneCell' = true)
    (h : ∀ w', w'.heap[g]? = some (.cells (splice cur off cs).toArray t (0, 0)) → Stp (fun k => k = g) W w' → K (a.put N (goInt cs.length)) w') :
    if Region.wanted o (yielded ops a.tmps) = true then Oper.wp P o a W K Q else K (a.put N undef) W := by
  rw [if_pos hw]
  subst hN
  by_cases h0 : cs.length = 0
  · obtain rfl : cs = [] := List.eq_nil_of_length_eq_zero h0
    have hrun := run_copy_none (P := P) W dT sT o.type elem dp sp dLen dCap sLen sCap hu hsz (by simpa using hn.symm)
    unfold Oper.wp
    simp [execOp, ho, resolve, invoke, builtin, hd, hs, hrun, Result.andThen]
    exact h W (by simpa [splice] using hg) (Stp.refl _ _)
  · obtain ⟨rfl, ad, rfl, hsrc⟩ := hpos (by omega)
    have hrun := run_copy_row (P := P) W dT sT o.type elem g off dLen dCap ad sLen sCap cur.toArray t cs hu hsz hg hn hsrc (by simpa using hfit) h1
    unfold Oper.wp
    simp [execOp, ho, resolve, invoke, builtin, hd, hs, hrun, Result.andThen]
    exact h _ (by simpa [splice] using setRow_heap W g _ _ t _ hg) (stp_setRow _ _ _)
/-- copy into a block, in a plain region. -/
theorem copy_list (hgd : o.guard = none) (d s : Operand) (dT sT : TypeId)
    (ho : o.op = .call { callee := .builtin .copy, args := #[d, s], argTypes := #[dT, sT] }) (elem : TypeId) (hu : P.underlying dT = some (.slice elem)) (hsz : (P.info? elem).map (·.size) = some 1)
    (dp sp : Option Addr) (dLen dCap sLen sCap : Nat) (hd : a.eval d = .slice dp dLen dCap) (hs : a.eval s = .slice sp sLen sCap)
    (g off : Nat) (cur : List Value) (t : TypeId) (hg : W.heap[g]? = some (.cells cur.toArray t (0, 0))) (cs : List Value) (hn : cs.length = Nat.min sLen dLen)
    (hpos : 0 < cs.length → dp = some ⟨g, off, none⟩ ∧ ∃ ad, sp = some ad ∧ ∀ j v, cs[j]? = some v → W.cell? (ad.add j) = some v)
    (hfit : off + cs.length ≤ cur.length) (h1 : ∀ v ∈ cs, v.oneCell' = true)
    (h : ∀ w', w'.heap[g]? = some (.cells (splice cur off cs).toArray t (0, 0)) → Stp (fun k => k = g) W w' → wpList P ops Q rest (a.put o.dst (goInt cs.length)) w') :
    wpList P ops Q (o :: rest) a W := by
  by_cases h0 : cs.length = 0
  · obtain rfl : cs = [] := List.eq_nil_of_length_eq_zero h0
    refine wpList_copy_nothing hgd d s dT sT ho elem hu hsz dp sp dLen dCap sLen sCap hd hs (by simpa using hn.symm) ?_
    exact h W (by simpa [splice] using hg) (Stp.refl _ _)
  · obtain ⟨rfl, ad, rfl, hsrc⟩ := hpos (by omega)
    refine wpList_copy_own hgd d s dT sT ho elem hu hsz g off dLen dCap ad sLen sCap hd hs cur.toArray t hg cs hn hsrc (by simpa using hfit) h1 ?_
    exact h _ (by simpa [splice] using setRow_heap W g _ _ t _ hg) (stp_setRow _ _ _)
/-- The rest of a block, cut off inside its room. -/
theorem cut_block {t e : TypeId} (kl : IntKind) {i : TypeInfo} (ht : P.underlying t = some (.slice e)) (hi : P.info? e = some i) (hsz : i.size = 1) (B n c : Nat) (j : Int) (h0 : 0 ≤ j) (h1 : j ≤ n) (h2 : j < c) (W : World) :
    (Instr.slice t (.slice (some ⟨B, 0, none⟩) n c) (some (.int kl j)) none none).run P W = .ok (.slice (some ⟨B, j.toNat, none⟩) (n - j.toNat) (c - j.toNat)) W := by
  have hel : P.elem t = e := by simp [Program.elem, ht]
  have hu : P.underlying t = some (.slice (P.elem t)) := by rw [hel]; exact ht
  have hne : ¬ c = j.toNat := by omega
  rw [run_slice_l W t _ n c hu kl j h0 h1, hel]
  simp [sizeOf, typeInfo, hi, hsz, sliced, Result.andThen, hne, Addr.add]
  omega
/-- A whole variable in memory is written, as a step of a region that draws. -/
theorem st_step {T g t : Nat} {p x : Operand} {cur cs : Array Value} (hw : Region.wanted o (yielded ops a.tmps) = true) (hN : o.dst = none) (ho : o.op = .store T p x)
    (hp : a.eval p = .pointer (some ⟨g, 0, none⟩)) (hx : a.eval x = .agg cs) (hh : W.heap[g]? = some (.cells cur t (0, 0))) (ht : (P.info? T).map (·.size) = some cs.size) (hsz : cs.size = cur.size) (h1 : ∀ q ∈ cs.toList, q.oneCell' = true)
    (h : ∀ w1, w1.heap[g]? = some (.cells cs t (0, 0)) → Stp (fun k => k = g) W w1 → K a w1) : if Region.wanted o (yielded ops a.tmps) = true then Oper.wp P o a W K Q else K (a.put none undef) W := by
  rw [if_pos hw]
  obtain ⟨cur', h3, _, h5⟩ := setCells_row cs.toList 0 W cur hh (by simp; omega)
  obtain ⟨s1, s2, s3, s4⟩ := setCells_same g cs.toList 0 W
  have hr := run_store_run (P := P) (o := 0) T (.agg cs) cs.toList hh rfl (by simpa using ht) (by simp; omega) h1
  unfold Oper.wp execOp
  simp only [ho, hp, hx, Sem.run_bind, Sem.run_pure, Result.andThen_ok, hr]
  show K (a.put o.dst undef) _
  rw [hN]
  refine h _ ?_ ⟨s1, s2, s3, Nat.le_of_eq s4.symm, fun i _ hi => setCells_far cs.toList 0 i hi⟩
  have e : cur' = cs := by
    apply Array.toList_inj.1
    rw [List.take_zero, List.nil_append, List.drop_of_length_le (by simp; omega), List.append_nil] at h5
    exact h5
  rw [e] at h3
  exact h3
end
end Go.Proofs.Ytbdbeccaopphaaa.Q
namespace Go.Proofs.Ytbdbeccaopphaaa.P
open Go.RowKit Go.Proofs.YtbdbeccaopphaaaW.PrintWords

/-- From some number of rounds on, f answers a. -/
def Ev {α : Type} (f : Nat → Option α) (a : α) : Prop := ∃ K, ∀ k, K ≤ k → f k = some a
section
variable {α β γ : Type} {f g : Nat → Option α} {a : α} {b : β}
theorem Ev.ex (h : Ev f a) : ∃ k, f k = some a := by
  obtain ⟨K, h⟩ := h
  exact ⟨K, h K (Nat.le_refl _)⟩
theorem Ev.const {o : Option α} (h : o = some a) : Ev (fun _ => o) a := ⟨0, fun _ _ => h⟩
theorem Ev.bind {g : Nat → α → Option β} (h : Ev f a) (h2 : Ev (fun k => g k a) b) : Ev (fun k => (f k).bind (g k)) b := by
  obtain ⟨K, h⟩ := h
  obtain ⟨K2, h2⟩ := h2
  exact ⟨max K K2, fun k hk => by show (f k).bind (g k) = some b; rw [h k (by omega)]; exact h2 k (by omega)⟩
theorem Ev.pos {c : Prop} [Decidable c] (hc : c) (h : Ev f a) : Ev (fun k => if c then f k else g k) a := by
  obtain ⟨K, h⟩ := h
  exact ⟨K, fun k hk => (if_pos hc).trans (h k hk)⟩
theorem Ev.neg {c : Prop} [Decidable c] (hc : ¬ c) (h : Ev g a) : Ev (fun k => if c then f k else g k) a := by
  obtain ⟨K, h⟩ := h
  exact ⟨K, fun k hk => (if_neg hc).trans (h k hk)⟩
theorem Ev.step (h : ∃ K, ∀ k, K ≤ k → f (k + 1) = g k) (e : Ev g a) : Ev f a := by
  obtain ⟨K, h⟩ := h
  obtain ⟨K2, e⟩ := e
  refine ⟨max K K2 + 1, fun k hk => ?_⟩
  obtain ⟨j, rfl⟩ : ∃ j, k = j + 1 := ⟨k - 1, by omega⟩
  rw [h j (by omega)]
  exact e j (by omega)
theorem Ev.last (h : ∃ K, ∀ k, K ≤ k → f (k + 1) = some a) : Ev f a := Ev.step (g := fun _ => some a) h (Ev.const rfl)
theorem Ev.congr (h : ∀ k, f k = g k) (e : Ev g a) : Ev f a := by
  obtain ⟨K, e⟩ := e
  exact ⟨K, fun k hk => (h k).trans (e k hk)⟩
theorem Ev.loop {σ ρ : Type} (l : Nat → σ → Option ρ) (st : Nat → σ) (n : Nat) (r : ρ) (hstep : ∀ i, i < n → ∃ K, ∀ k, K ≤ k → l (k + 1) (st i) = l k (st (i + 1)))
    (hend : Ev (fun k => l k (st n)) r) : ∀ j i, i + j = n → Ev (fun k => l k (st i)) r
  | 0, i, h => by
    obtain rfl : i = n := by omega
    exact hend
  | j + 1, i, h => Ev.step (hstep i (by omega)) (Ev.loop l st n r hstep hend j (i + 1) (by omega))
theorem Ev.loop0 {σ ρ : Type} (l : Nat → σ → Option ρ) (st : Nat → σ) (n : Nat) (r : ρ) (hstep : ∀ i, i < n → ∃ K, ∀ k, K ≤ k → l (k + 1) (st i) = l k (st (i + 1)))
    (hend : Ev (fun k => l k (st n)) r) : Ev (fun k => l k (st 0)) r := Ev.loop l st n r hstep hend n 0 (by omega)
/-- What ends for one number of rounds ends from there on, where more rounds give the same. -/
theorem Ev.of_mono (hm : ∀ k, LeO (f k) (f (k + 1))) (h : ∃ k, f k = some a) : Ev f a := by
  obtain ⟨K, h⟩ := h
  exact ⟨K, fun k hk => at_rounds hm hk h⟩
theorem Ev.uniq {a' : α} (h : Ev f a) (h' : Ev f a') : a = a' := by
  obtain ⟨K, h⟩ := h
  obtain ⟨K', h'⟩ := h'
  have e := h (max K K') (by omega)
  rw [h' (max K K') (by omega)] at e
  exact (Option.some.inj e).symm
end
theorem w64 {n : Int} (h : -9223372036854775808 ≤ n) (h2 : n ≤ 9223372036854775807) : wrap64 n = n := by unfold wrap64; omega
theorem w64s {i n : Nat} (h : i < n) (hn : n ≤ 4611686018427387904) : wrap64 ((i : Int) + 1) = ((i + 1 : Nat) : Int) := by rw [w64 (by omega) (by omega)]; rfl
theorem rd_at {xs : List Int} {i : Nat} {a : Int} (h : xs[i]? = some a) : rd xs (i : Int) = a := by
  unfold rd
  rw [Int.toNat_natCast, List.getD_eq_getElem?_getD, h]
  rfl
theorem rdOf_at {α : Type} {d : α} {xs : List α} {i : Nat} {a : α} (h : xs[i]? = some a) : rdOf d xs (i : Int) = a := by
  unfold rdOf
  rw [Int.toNat_natCast, List.getD_eq_getElem?_getD, h]
  rfl
theorem getD_at {α : Type} {d : α} {xs : List α} {i : Nat} {a : α} (h : xs[i]? = some a) : xs.getD ((i : Int)).toNat d = a := by
  rw [Int.toNat_natCast, List.getD_eq_getElem?_getD, h]
  rfl
theorem some_at {α : Type} {xs : List α} {i : Nat} (h : i < xs.length) : ∃ a, xs[i]? = some a := ⟨xs[i], List.getElem?_eq_getElem h⟩
theorem take_set {α : Type} (L x : List α) (i : Nat) (a : α) (h : L[i]? = some a) (h3 : L.length = x.length) : (L.take i ++ x.drop i).set i a = L.take (i + 1) ++ x.drop (i + 1) := by
  obtain ⟨hi, rfl⟩ := List.getElem?_eq_some_iff.1 h
  have hl : (L.take i).length = i := by simp; omega
  rw [List.set_append_right _ _ (by omega), hl, Nat.sub_self, List.drop_eq_getElem_cons (by omega : i < x.length), List.set_cons_zero, List.take_succ_eq_append_getElem hi, List.append_assoc]
  rfl
/-- Element by element into a row of the same length. -/
theorem copy_ends {α β : Type} (l : Nat → List β → Int → Option (List β)) (conv : α → β) (x0 : List α) (x3 : List β) (h3 : x0.length = x3.length)
    (hstep : ∀ (i : Nat) (a : α) (y : List β), x0[i]? = some a → i < x0.length → y.length = x0.length → ∃ K, ∀ k, K ≤ k → l (k + 1) y (i : Int) = l k (y.set i (conv a)) ((i + 1 : Nat) : Int))
    (hend : ∀ k y, y.length = x0.length → l (k + 1) y (x0.length : Int) = some y) : Ev (fun k => l k x3 0) (x0.map conv) := by
  have h := Ev.loop0 (fun k (s : List β × Int) => l k s.1 s.2) (fun i => ((x0.map conv).take i ++ x3.drop i, (i : Int))) x0.length (x0.map conv) ?_ ?_
  · simpa using h
  · intro i hi
    obtain ⟨a, ha⟩ := some_at hi
    obtain ⟨K, hK⟩ := hstep i a ((x0.map conv).take i ++ x3.drop i) ha hi (by simp; omega)
    refine ⟨K, fun k hk => ?_⟩
    have := hK k hk
    rw [take_set (x0.map conv) x3 i (conv a) (by simp [ha]) (by simpa using h3)] at this
    exact this
  · refine Ev.last ⟨0, fun k _ => ?_⟩
    have := hend k ((x0.map conv).take x0.length ++ x3.drop x0.length) (by simp; omega)
    simp only [this]
    rw [List.take_of_length_le (by simp), List.drop_of_length_le (by omega), List.append_nil]
/-- A check of each element. -/
theorem each_ends {ρ : Type} (l : Nat → Int → Option ρ) (n : Nat) (r : ρ) (hstep : ∀ i : Nat, i < n → ∃ K, ∀ k, K ≤ k → l (k + 1) (i : Int) = l k ((i + 1 : Nat) : Int)) (hend : ∀ k, l (k + 1) (n : Int) = some r) : Ev (fun k => l k 0) r :=
  Ev.loop0 l (fun i => (i : Int)) n r hstep (Ev.last ⟨0, fun k _ => hend k⟩)
/-- A check that stops at the first that fails. -/
theorem all_loop {α : Type} (l : Nat → Int → Option Bool) (xs : List α) (p : α → Bool) (hstep : ∀ (i : Nat) (a : α), xs[i]? = some a → i < xs.length → ∃ K, ∀ k, K ≤ k → l (k + 1) (i : Int) = if p a = true then l k ((i + 1 : Nat) : Int) else some false)
    (hend : ∀ k, l (k + 1) (xs.length : Int) = some true) : Ev (fun k => l k 0) (xs.all p) := by
  have key : ∀ (rest done : List α), done ++ rest = xs → Ev (fun k => l k (done.length : Int)) (rest.all p) := by
    intro rest
    induction rest with
    | nil =>
      intro done hd
      have : xs.length = done.length := by rw [← hd, List.append_nil]
      refine Ev.last ⟨0, fun k _ => ?_⟩
      show l (k + 1) (done.length : Int) = some true
      rw [← this]
      exact hend k
    | cons a rest ih =>
      intro done hd
      have hlen : done.length + (rest.length + 1) = xs.length := by rw [← hd, List.length_append, List.length_cons]
      obtain ⟨K, hK⟩ := hstep done.length a (by rw [← hd]; simp) (by omega)
      cases hp : p a with
      | true =>
        have h1 := ih (done ++ [a]) (by rw [← hd]; simp)
        rw [List.length_append, List.length_singleton] at h1
        rw [List.all_cons, hp, Bool.true_and]
        refine Ev.step ⟨K, fun k hk => ?_⟩ h1
        have := hK k hk
        rw [hp, if_pos rfl] at this
        exact this
      | false =>
        rw [List.all_cons, hp, Bool.false_and]
        refine Ev.last ⟨K, fun k hk => ?_⟩
        have := hK k hk
        rw [hp, if_neg (by simp)] at this
        exact this
  exact key xs [] rfl
/-- Elements counted upwards are written over a row (f: what is written for a count). -/
def ups {β : Type} (f : Int → β) (m : Int) (n : Nat) : List β := (List.range n).map fun (i : Nat) => f (m + i)
theorem ups_length {β : Type} (f : Int → β) (m : Int) (n : Nat) : (ups f m n).length = n := by simp [ups]
theorem ups_at {β : Type} (f : Int → β) (m : Int) {n i : Nat} (h : i < n) : (ups f m n)[i]? = some (f (m + i)) := by simp [ups, h]
theorem mark_ends {β : Type} (l : Nat → List β → Int → Int → Option (Int × List β)) (f : Int → β) (x : List β) (m : Int) (h0 : 0 ≤ m) (hm : m + x.length ≤ 4611686018427387904)
    (hstep : ∀ (k i : Nat) (y : List β) (c : Int), i < x.length → y.length = x.length → l (k + 1) y c (i : Int) = l k (y.set i (f c)) (wrap64 (c + 1)) (wrap64 ((i : Int) + 1)))
    (hend : ∀ (k : Nat) (y : List β) (c : Int), y.length = x.length → l (k + 1) y c (x.length : Int) = some (c, y)) : Ev (fun k => l k x m 0) (m + x.length, ups f m x.length) := by
  have h := Ev.loop0 (fun k (s : List β × Int × Int) => l k s.1 s.2.1 s.2.2) (fun i => ((ups f m x.length).take i ++ x.drop i, m + i, (i : Int))) x.length (m + x.length, ups f m x.length) ?_ ?_
  · simpa using h
  · intro i hi
    refine ⟨0, fun k _ => ?_⟩
    have := hstep k i ((ups f m x.length).take i ++ x.drop i) (m + i) hi (by simp [ups_length]; omega)
    rw [take_set (ups f m x.length) x i _ (ups_at f m hi) (ups_length f m _), w64s hi (by omega), w64 (by omega) (by omega)] at this
    refine this.trans ?_
    show l k _ (m + i + 1) _ = l k _ (m + ((i + 1 : Nat) : Int)) _
    rw [show m + (i : Int) + 1 = m + ((i + 1 : Nat) : Int) from by omega]
  · refine Ev.last ⟨0, fun k _ => ?_⟩
    have := hend k ((ups f m x.length).take x.length ++ x.drop x.length) (m + x.length) (by simp [ups_length])
    simp only [this]
    rw [List.take_of_length_le (by simp [ups_length]), List.drop_of_length_le (by omega), List.append_nil]
theorem held_ends (l : Nat → Int → Int → Option Int) (n : Nat) (m : Int) (h0 : 0 ≤ m) (hm : m + n ≤ 4611686018427387904)
    (hstep : ∀ (k i : Nat), i < n → l (k + 1) (m + i) (i : Int) = l k (wrap64 (m + i + 1)) (wrap64 ((i : Int) + 1)))
    (hend : ∀ (k : Nat), l (k + 1) (m + n) (n : Int) = some (m + n)) : Ev (fun k => l k m 0) (m + n) := by
  have h := Ev.loop0 (fun k (s : Int × Int) => l k s.1 s.2) (fun i => (m + i, (i : Int))) n (m + n) ?_ ?_
  · simpa using h
  · intro i hi
    refine ⟨0, fun k _ => ?_⟩
    have := hstep k i hi
    rw [w64s hi (by omega), w64 (by omega) (by omega)] at this
    refine this.trans ?_
    show l k (m + i + 1) _ = l k (m + ((i + 1 : Nat) : Int)) _
    rw [show m + (i : Int) + 1 = m + ((i + 1 : Nat) : Int) from by omega]
  · exact Ev.last ⟨0, fun k _ => hend k⟩
end Go.Proofs.Ytbdbeccaopphaaa.P
namespace Go.Proofs.Ytbdbeccaopphaaa.Q
open Go.RowKit Go.Proofs.YtbdbeccaopphaaaW.PrintWords Go.Proofs.YtbdbeccaopphaaaW.PrintLast Go.Proofs.Ytbdbeccaopphaaa.LK Go.Proofs.YtbdbeccaopphaaaW.PrintMore
attribute [local go_sem] max2_int min2_int max_two min_two max_three min_three max_four min_four   -- for this text's walks alone
set_option linter.unusedVariables false
set_option linter.unusedSimpArgs false

/-! ### laws_markByteS: function 33 -/
def laws_markByteS.l0 : Nat → List Int → Int → Int → Option (Int × List Int)
  | 0, _, _, _ => none
  | k + 1, x0, x1, x5 => if x5 < (x0.length : Int) then (if 0 ≤ x5 then (laws_markByteS.l0 k (x0.set (x5 : Int).toNat ((x1) % 256)) (wrap64 (x1 + 1)) (wrap64 (x5 + 1))) else (none)) else (some (x1, x0))
def laws_markByteS.f (k : Nat) (l0 : List Int) (a1 : Int) : Option (Int × List Int) := laws_markByteS.l0 k l0 a1 0
theorem laws_markByteS.mono_l : ∀ k, (∀ y0 y1 y2, LeO (laws_markByteS.l0 k y0 y1 y2) (laws_markByteS.l0 (k + 1) y0 y1 y2))
  | 0 => fun _ _ _ r h => by simp [laws_markByteS.l0] at h
  | k + 1 => by
    have ih0 := laws_markByteS.mono_l k
    · intro y0 y1 y2
      unfold laws_markByteS.l0
      repeat' first
      | (with_reducible exact ih0 _ _ _)
      | (with_reducible exact LeO.refl _)
      | (with_reducible exact LeO.none _)
      | (with_reducible refine LeO.ite ?_ ?_)
      | (with_reducible refine LeO.bind ?_ (fun _ => ?_))
      | exact ih0 _ _ _
      | exact LeO.none _
      | refine LeO.ite ?_ ?_
      | refine LeO.bind ?_ (fun _ => ?_)
theorem laws_markByteS.mono : ∀ a0 a1 k, LeO (laws_markByteS.f k a0 a1) (laws_markByteS.f (k + 1) a0 a1) := by
  intro a0 a1 k
  have ih0 := laws_markByteS.mono_l k
  unfold laws_markByteS.f
  repeat' first
      | (with_reducible exact ih0 _ _ _)
      | (with_reducible exact LeO.refl _)
      | (with_reducible exact LeO.none _)
      | (with_reducible refine LeO.ite ?_ ?_)
      | (with_reducible refine LeO.bind ?_ (fun _ => ?_))
      | exact ih0 _ _ _
      | exact LeO.none _
      | refine LeO.ite ?_ ?_
      | refine LeO.bind ?_ (fun _ => ?_)
set_option maxHeartbeats 8000000 in
set_option maxRecDepth 100000 in
theorem laws_markByteS.calls (k : Nat) (P0_ : Nat → Prop) (u9000_ : Value) (l0 : List Int) (a1 : Int) (r1 : Int) (r2 : List Int) (w0 w : World) (hB : Below w0.heap.size w0 w) (ho0 : Kd.R (Kd.int .u8) 5 w w0.heap.size P0_ u9000_ l0) (h : laws_markByteS.f k l0 a1 = some (r1, r2)) :
    Calls Try.prog 33 #[u9000_, .int .i64 a1] w fun e w' => e = .returned (.int .i64 r1) ∧ Kd.R (Kd.int .u8) 5 w' w0.heap.size (fun k_ => (P0_ k_ ∨ w.heap.size ≤ k_)) u9000_ r2 ∧ Below w0.heap.size w0 w' ∧ Kept w w' (fun k_ => P0_ k_) := by
  have HO0 := Aside0.mk (show Kd.R (Kd.int .u8) 5 w w0.heap.size (fun k_ => (P0_ k_ ∨ w.heap.size ≤ k_)) u9000_ l0 from Kd.R_mono ho0 (fun k_ hk => (.inl hk)))
  have HK := Aside0.mk (Kept.refl w (fun k_ => P0_ k_))
  have HW0 := Aside0.mk hB.size
  have HB := Aside0.mk hB
  clear hB
  have H : (laws_markByteS.l0 k l0 a1 0) = some (r1, r2) := h
  clear h
  have H' := Aside0.mk H
  clear H
  go_enter Try.func33, Try.ntmps33
  go_wp2
  go_loopg [1, 5] k (fun kq v1 v5 w' => ∃ (x0_1 : List Int) (x1_1 : Int) (x5_1 : Int), v1 = .int .i64 x1_1 ∧ v5 = .int .i64 x5_1 ∧ Aside0 (laws_markByteS.l0 kq x0_1 x1_1 x5_1 = some (r1, r2)) ∧ Aside0 (kq ≤ k) ∧ Aside0 (Kd.R (Kd.int .u8) 5 w' w0.heap.size (fun k_ => (P0_ k_ ∨ w.heap.size ≤ k_)) u9000_ x0_1) ∧ Aside0 (Kept w w' (fun k_ => P0_ k_)) ∧ Aside0 (Below w0.heap.size w0 w'))
  case atStart => exact ⟨(l0), (a1), (0), (by first | rfl | (simp; done) | (simp [*]; done)), (by first | rfl | (simp; done) | (simp [*]; done)), H', ⟨Nat.le_refl _⟩, ⟨by (with_reducible repeat (first | apply Kd.R_alloc | apply Kd.R_drewN | apply Kd.R_drew)); exact HO0.out⟩, ⟨by repeat (first | (with_reducible first | exact HK.out | apply Kept.alloc | apply Kept.drewN | apply Kept.drew) | exact HK.out)⟩, ⟨by repeat (first | (with_reducible first | exact HB.out | apply below_alloc | apply pw_below_drewN | apply below_drew1) | exact HB.out)⟩⟩
  case round =>
    clear H'
    try clear p2
    obtain ⟨x0_1, x1_1, x5_1, rfl, rfl, HA, HK1, HO_0, HK, HB⟩ := hrel
    cases gk with
    | zero => exact absurd HA.out (by simp [laws_markByteS.l0])
    | succ k1 =>
      have H := HA.out
      clear HA
      simp only [laws_markByteS.l0] at H
      by_cases c3 : x5_1 < (x0_1.length : Int)
      · rw [if_pos c3] at H
        have c3b0 : decide (x5_1 < (x0_1.length : Int)) = true := decide_eq_true c3
        clear c3
        by_cases c4 : 0 ≤ x5_1
        · rw [if_pos c4] at H
          have c4b0 : decide (0 ≤ x5_1) = true := decide_eq_true c4
          clear c4
          obtain ⟨y101, hy101⟩ : ∃ y_ : List Int, y_ = (x0_1.set (x5_1 : Int).toNat ((x1_1) % 256)) := ⟨_, rfl⟩
          replace H : (laws_markByteS.l0 k1 y101 (wrap64 (x1_1 + 1)) (wrap64 (x5_1 + 1))) = some (r1, r2) := by first | (rw [hy101]; with_reducible exact H) | (have H2_ := (Option.bind_some _ _).symm.trans H; rw [hy101]; with_reducible exact H2_) | (have H2_ := (Option.bind_some _ _).symm.trans H; with_reducible exact H2_) | with_reducible exact H | (rw [hy101]; exact H) | exact H
          have Ny101 := Aside0.mk hy101
          clear hy101
          have H' := Aside0.mk H
          clear H
          obtain ⟨Ao6, co6, eo6⟩ := Kd.R_slice HO_0.out
          subst eo6
          have p5 : 0 ≤ (x5_1 : Int) := of_decide_eq_true (by first | (with_reducible assumption) | assumption)
          have q5 : (x5_1 : Int) < ((x0_1.length : Int) : Int) := of_decide_eq_true (by first | (with_reducible assumption) | assumption)
          obtain ⟨go5, co5, eo5, gb5, gl5, cl5, HG5⟩ := Kd.R_form HO_0.out (by omega)
          (first | cases eo5 | (injection eo5 with ea_ en_ ec_; (first | subst ea_ | (injection ea_ with ea_; subst ea_)); subst ec_; clear en_))
          have GB5 := Aside0.mk gb5
          have GG5 := Aside0.mk HG5
          clear gb5 gl5 HG5
          have HMgo5 := Aside0.mk (show (P0_ go5 ∨ w.heap.size ≤ go5) from (HO_0.out.1 _ rfl))
          obtain ⟨hx5_0, hf5_0⟩ := Kd.R_celln 0 HO_0.out (x5_1 : Int) p5 q5
          replace p5 := eq_true p5
          replace q5 := eq_true q5
          have HP7 := Kd.R_putg HO_0.out (x5_1 : Int) ((x1_1) % 256)
          go_wp2_with (first | ((with_reducible refine gate_store (t := 5) (p := 16) rfl ?_); refine store_event (t := 5) (p := 16) (v := ?vo_w8) (w1 := (wr.setCell ⟨go5, (x5_1 : Int).toNat, none⟩ (.int .u8 ((x1_1) % 256)))) ?hg ?ho ?hn ?hr ?_; (case ho => rfl); (case hg => rfl); (case hn => rfl); (case hr => first | (go_simp; done) | (go_simp; rfl)); intro w8 hw; have hg : wr.grownBy w8 (some go5) := (by rw [hw]; exact HP7.2); have hp_ : Kd.R (Kd.int .u8) 5 w8 w0.heap.size (fun k_ => (P0_ k_ ∨ w.heap.size ≤ k_)) (.slice (some ⟨go5, 0, none⟩) x0_1.length co6) y101 := (by rw [hw, Ny101.out]; exact HP7.1); clear HP7; have n0_ := Aside0.mk (hp_); have n1_ := Aside0.mk ((by rw [hw]; exact below_set (HB.out) GB5.out : Below w0.heap.size w0 w8)); have n2_ := Aside0.mk (Kept.of_grown (S := (fun k_ => P0_ k_)) hg (by repeat (first | (with_reducible first | exact HK.out | apply Kept.alloc | apply Kept.drewN | apply Kept.drew) | exact HK.out)) (fun k_ e_ => (HO_0.out.1 k_ e_))); clear HO_0; clear HB; clear HK; have HO_0 := n0_; have HB := n1_; have HK := n2_; clear n0_ n1_ n2_; clear hg hw hp_))
          go_roundg k1
          case measure => have := HK1.out; omega
          case rel => exact ⟨(y101), (wrap64 (x1_1 + 1)), (wrap64 (x5_1 + 1)), (by first | rfl | (simp; done) | (simp [*]; done)), (by first | rfl | (simp; done) | (simp [*]; done)), H', ⟨by have := HK1.out; omega⟩, ⟨by (with_reducible repeat (first | apply Kd.R_alloc | apply Kd.R_drewN | apply Kd.R_drew)); exact HO_0.out⟩, ⟨by repeat (first | (with_reducible first | exact HK.out | apply Kept.alloc | apply Kept.drewN | apply Kept.drew) | exact HK.out)⟩, ⟨by repeat (first | (with_reducible first | exact HB.out | apply below_alloc | apply pw_below_drewN | apply below_drew1) | exact HB.out)⟩⟩
        · rw [if_neg c4] at H
          exact absurd H (by simp)
      · rw [if_neg c3] at H
        have c3b0 : decide (x5_1 < (x0_1.length : Int)) = false := decide_eq_false c3
        clear c3
        simp only [Option.some.injEq, Prod.mk.injEq] at H
        obtain ⟨rfl, rfl⟩ := H
        obtain ⟨Ao9, co9, eo9⟩ := Kd.R_slice HO_0.out
        subst eo9
        go_wp2
        go_ret
        exact ⟨by first | rfl | (simp [errW_none, errW_some] <;> rfl) | (simp [*, errW_none, errW_some] <;> rfl), by (with_reducible repeat (first | apply Kd.R_alloc | apply Kd.R_drewN | apply Kd.R_drew)); exact HO_0.out, by repeat (first | (with_reducible first | exact HB.out | apply below_alloc | apply pw_below_drewN | apply below_drew1) | exact HB.out), by repeat (first | (with_reducible first | exact HK.out | apply Kept.alloc | apply Kept.drewN | apply Kept.drew) | exact HK.out)⟩

end Go.Proofs.Ytbdbeccaopphaaa.Q
namespace Go.Proofs.Ytbdbeccaopphaaa.P
open Go.RowKit Go.Proofs.YtbdbeccaopphaaaW.PrintWords Go.Proofs.Ytbdbeccaopphaaa.Q
set_option linter.unusedVariables false
set_option linter.unusedSimpArgs false
theorem toByteS_ev (l : List Int) (h : l.length ≤ 281474976710656) : Ev (fun k => laws_toByteS.f k l) l := by
  have h1 := copy_ends (fun k y i => laws_toByteS.l0 k l y i) id l (List.replicate ((l.length : Int)).toNat 0) (by simp) ?_ ?_
  · rw [List.map_id] at h1
    refine Ev.congr (fun k => ?_) h1
    simp only [laws_toByteS.f]
    rw [if_pos (by omega), if_pos (by omega)]
  · intro i a y ha hi hy
    refine ⟨0, fun k _ => ?_⟩
    simp only [laws_toByteS.l0]
    rw [if_pos (by omega), if_pos (by omega), if_pos (by omega), w64s hi (by omega), rd_at ha]
    rfl
  · intro k y hy
    simp only [laws_toByteS.l0]
    rw [if_neg (by omega)]
theorem eqByteS_ev (l : List Int) (h : l.length ≤ 4611686018427387904) : Ev (fun k => laws_eqByteS.f k l l) true := by
  refine Ev.congr (fun k => ?_) (each_ends (fun k i => laws_eqByteS.l0 k l l i) l.length true ?_ ?_)
  · simp only [laws_eqByteS.f]
    rw [if_pos trivial]
  · intro i hi
    refine ⟨0, fun k _ => ?_⟩
    simp only [laws_eqByteS.l0]
    rw [if_pos (by omega), if_pos (by omega), if_pos (by omega), if_pos trivial, w64s hi (by omega)]
  · intro k
    simp only [laws_eqByteS.l0]
    rw [if_neg (by omega)]
theorem szByteS_is (l : List Int) (a : Int) (h0 : 0 ≤ a) (h1 : a ≤ 1048576) (hl : l.length ≤ 9223372036854775807) : ∃ t, laws_szByteS.f l a = some t ∧ (t < 0 ∨ (t = a - l.length ∧ 0 ≤ t)) := by
  simp only [laws_szByteS.f]
  rw [w64 (by omega) (by omega)]
  by_cases h : a - (l.length : Int) < 0
  · rw [if_pos h]
    exact ⟨_, rfl, .inl (by omega)⟩
  · rw [if_neg h]
    exact ⟨_, rfl, .inr ⟨rfl, by omega⟩⟩
def mkByteS (m : Int) (n : Nat) : List Int := ups (fun c => c % 256) m n
theorem mkByteS_length (m : Int) (n : Nat) : (mkByteS m n).length = n := ups_length _ _ _
theorem mkByteS_at (m : Int) {n i : Nat} (h : i < n) : (mkByteS m n)[i]? = some ((fun c => c % 256) (m + i)) := ups_at _ m h
theorem markByteS_ev (l : List Int) (m : Int) (h0 : 0 ≤ m) (hm : m + l.length ≤ 4611686018427387904) : Ev (fun k => laws_markByteS.f k l m) (m + l.length, mkByteS m l.length) := by
  refine mark_ends (fun k y c i => laws_markByteS.l0 k y c i) (fun c => c % 256) l m h0 hm ?_ ?_
  · intro k i y c hi hy
    simp only [laws_markByteS.l0]
    rw [if_pos (by omega), if_pos (by omega)]
    rfl
  · intro k y c hy
    simp only [laws_markByteS.l0]
    rw [if_neg (by omega)]
theorem heldByteS_ev (n : Nat) (m : Int) (h0 : 0 ≤ m) (hm : m + n ≤ 4611686018427387904) : Ev (fun k => laws_heldByteS.f k (mkByteS m n) m) (m + n) := by
  refine held_ends (fun k c i => laws_heldByteS.l0 k (mkByteS m n) c i) n m h0 hm ?_ ?_
  · intro k i hi
    simp only [laws_heldByteS.l0, mkByteS_length]
    rw [if_pos (by omega), if_pos (by omega), rd_at (mkByteS_at m hi), if_pos rfl]
  · intro k
    simp only [laws_heldByteS.l0, mkByteS_length]
    rw [if_neg (by omega)]
end Go.Proofs.Ytbdbeccaopphaaa.P
namespace Go.Proofs.Ytbdbeccaopphaaa.Q
open Go.RowKit Go.Proofs.YtbdbeccaopphaaaW.PrintWords Go.Proofs.YtbdbeccaopphaaaW.PrintLast Go.Proofs.Ytbdbeccaopphaaa.LK Go.Proofs.YtbdbeccaopphaaaW.PrintMore
attribute [local go_sem] max2_int min2_int max_two min_two max_three min_three max_four min_four   -- for this text's walks alone
set_option linter.unusedVariables false
set_option linter.unusedSimpArgs false

set_option maxHeartbeats 8000000 in
set_option maxRecDepth 100000 in
theorem laws_markByteS.callsE {e_ : Nat} (k : Nat) (P0_ : Nat → Prop) (u9000_ : Value) (l0 : List Int) (a1 : Int) (r1 : Int) (r2 : List Int) (w0 w : World) (hB : Below w0.heap.size w0 w) (ho0 : Kd.R (Kd.int .u8) e_ w w0.heap.size P0_ u9000_ l0) (h : laws_markByteS.f k l0 a1 = some (r1, r2)) :
    Calls Try.prog 33 #[u9000_, .int .i64 a1] w fun e w' => e = .returned (.int .i64 r1) ∧ Kd.R (Kd.int .u8) e_ w' w0.heap.size (fun k_ => (P0_ k_ ∨ w.heap.size ≤ k_)) u9000_ r2 ∧ Below w0.heap.size w0 w' ∧ Kept w w' (fun k_ => P0_ k_) := by
  have HO0 := Aside0.mk (show Kd.R (Kd.int .u8) e_ w w0.heap.size (fun k_ => (P0_ k_ ∨ w.heap.size ≤ k_)) u9000_ l0 from Kd.R_mono ho0 (fun k_ hk => (.inl hk)))
  have HK := Aside0.mk (Kept.refl w (fun k_ => P0_ k_))
  have HW0 := Aside0.mk hB.size
  have HB := Aside0.mk hB
  clear hB
  have H : (laws_markByteS.l0 k l0 a1 0) = some (r1, r2) := h
  clear h
  have H' := Aside0.mk H
  clear H
  go_enter Try.func33, Try.ntmps33
  go_wp2
  go_loopg [1, 5] k (fun kq v1 v5 w' => ∃ (x0_1 : List Int) (x1_1 : Int) (x5_1 : Int), v1 = .int .i64 x1_1 ∧ v5 = .int .i64 x5_1 ∧ Aside0 (laws_markByteS.l0 kq x0_1 x1_1 x5_1 = some (r1, r2)) ∧ Aside0 (kq ≤ k) ∧ Aside0 (Kd.R (Kd.int .u8) e_ w' w0.heap.size (fun k_ => (P0_ k_ ∨ w.heap.size ≤ k_)) u9000_ x0_1) ∧ Aside0 (Kept w w' (fun k_ => P0_ k_)) ∧ Aside0 (Below w0.heap.size w0 w'))
  case atStart => exact ⟨(l0), (a1), (0), (by first | rfl | (simp; done) | (simp [*]; done)), (by first | rfl | (simp; done) | (simp [*]; done)), H', ⟨Nat.le_refl _⟩, ⟨by (with_reducible repeat (first | apply Kd.R_alloc | apply Kd.R_drewN | apply Kd.R_drew)); exact HO0.out⟩, ⟨by repeat (first | (with_reducible first | exact HK.out | apply Kept.alloc | apply Kept.drewN | apply Kept.drew) | exact HK.out)⟩, ⟨by repeat (first | (with_reducible first | exact HB.out | apply below_alloc | apply pw_below_drewN | apply below_drew1) | exact HB.out)⟩⟩
  case round =>
    clear H'
    try clear p2
    obtain ⟨x0_1, x1_1, x5_1, rfl, rfl, HA, HK1, HO_0, HK, HB⟩ := hrel
    cases gk with
    | zero => exact absurd HA.out (by simp [laws_markByteS.l0])
    | succ k1 =>
      have H := HA.out
      clear HA
      simp only [laws_markByteS.l0] at H
      by_cases c3 : x5_1 < (x0_1.length : Int)
      · rw [if_pos c3] at H
        have c3b0 : decide (x5_1 < (x0_1.length : Int)) = true := decide_eq_true c3
        clear c3
        by_cases c4 : 0 ≤ x5_1
        · rw [if_pos c4] at H
          have c4b0 : decide (0 ≤ x5_1) = true := decide_eq_true c4
          clear c4
          obtain ⟨y101, hy101⟩ : ∃ y_ : List Int, y_ = (x0_1.set (x5_1 : Int).toNat ((x1_1) % 256)) := ⟨_, rfl⟩
          replace H : (laws_markByteS.l0 k1 y101 (wrap64 (x1_1 + 1)) (wrap64 (x5_1 + 1))) = some (r1, r2) := by first | (rw [hy101]; with_reducible exact H) | (have H2_ := (Option.bind_some _ _).symm.trans H; rw [hy101]; with_reducible exact H2_) | (have H2_ := (Option.bind_some _ _).symm.trans H; with_reducible exact H2_) | with_reducible exact H | (rw [hy101]; exact H) | exact H
          have Ny101 := Aside0.mk hy101
          clear hy101
          have H' := Aside0.mk H
          clear H
          obtain ⟨Ao6, co6, eo6⟩ := Kd.R_slice HO_0.out
          subst eo6
          have p5 : 0 ≤ (x5_1 : Int) := of_decide_eq_true (by first | (with_reducible assumption) | assumption)
          have q5 : (x5_1 : Int) < ((x0_1.length : Int) : Int) := of_decide_eq_true (by first | (with_reducible assumption) | assumption)
          obtain ⟨go5, co5, eo5, gb5, gl5, cl5, HG5⟩ := Kd.R_form HO_0.out (by omega)
          (first | cases eo5 | (injection eo5 with ea_ en_ ec_; (first | subst ea_ | (injection ea_ with ea_; subst ea_)); subst ec_; clear en_))
          have GB5 := Aside0.mk gb5
          have GG5 := Aside0.mk HG5
          clear gb5 gl5 HG5
          have HMgo5 := Aside0.mk (show (P0_ go5 ∨ w.heap.size ≤ go5) from (HO_0.out.1 _ rfl))
          obtain ⟨hx5_0, hf5_0⟩ := Kd.R_celln 0 HO_0.out (x5_1 : Int) p5 q5
          replace p5 := eq_true p5
          replace q5 := eq_true q5
          have HP7 := Kd.R_putg HO_0.out (x5_1 : Int) ((x1_1) % 256)
          go_wp2_with (first | ((with_reducible refine gate_store (t := 5) (p := 16) rfl ?_); refine store_event (t := 5) (p := 16) (v := ?vo_w8) (w1 := (wr.setCell ⟨go5, (x5_1 : Int).toNat, none⟩ (.int .u8 ((x1_1) % 256)))) ?hg ?ho ?hn ?hr ?_; (case ho => rfl); (case hg => rfl); (case hn => rfl); (case hr => first | (go_simp; done) | (go_simp; rfl)); intro w8 hw; have hg : wr.grownBy w8 (some go5) := (by rw [hw]; exact HP7.2); have hp_ : Kd.R (Kd.int .u8) e_ w8 w0.heap.size (fun k_ => (P0_ k_ ∨ w.heap.size ≤ k_)) (.slice (some ⟨go5, 0, none⟩) x0_1.length co6) y101 := (by rw [hw, Ny101.out]; exact HP7.1); clear HP7; have n0_ := Aside0.mk (hp_); have n1_ := Aside0.mk ((by rw [hw]; exact below_set (HB.out) GB5.out : Below w0.heap.size w0 w8)); have n2_ := Aside0.mk (Kept.of_grown (S := (fun k_ => P0_ k_)) hg (by repeat (first | (with_reducible first | exact HK.out | apply Kept.alloc | apply Kept.drewN | apply Kept.drew) | exact HK.out)) (fun k_ e_ => (HO_0.out.1 k_ e_))); clear HO_0; clear HB; clear HK; have HO_0 := n0_; have HB := n1_; have HK := n2_; clear n0_ n1_ n2_; clear hg hw hp_))
          go_roundg k1
          case measure => have := HK1.out; omega
          case rel => exact ⟨(y101), (wrap64 (x1_1 + 1)), (wrap64 (x5_1 + 1)), (by first | rfl | (simp; done) | (simp [*]; done)), (by first | rfl | (simp; done) | (simp [*]; done)), H', ⟨by have := HK1.out; omega⟩, ⟨by (with_reducible repeat (first | apply Kd.R_alloc | apply Kd.R_drewN | apply Kd.R_drew)); exact HO_0.out⟩, ⟨by repeat (first | (with_reducible first | exact HK.out | apply Kept.alloc | apply Kept.drewN | apply Kept.drew) | exact HK.out)⟩, ⟨by repeat (first | (with_reducible first | exact HB.out | apply below_alloc | apply pw_below_drewN | apply below_drew1) | exact HB.out)⟩⟩
        · rw [if_neg c4] at H
          exact absurd H (by simp)
      · rw [if_neg c3] at H
        have c3b0 : decide (x5_1 < (x0_1.length : Int)) = false := decide_eq_false c3
        clear c3
        simp only [Option.some.injEq, Prod.mk.injEq] at H
        obtain ⟨rfl, rfl⟩ := H
        obtain ⟨Ao9, co9, eo9⟩ := Kd.R_slice HO_0.out
        subst eo9
        go_wp2
        go_ret
        exact ⟨by first | rfl | (simp [errW_none, errW_some] <;> rfl) | (simp [*, errW_none, errW_some] <;> rfl), by (with_reducible repeat (first | apply Kd.R_alloc | apply Kd.R_drewN | apply Kd.R_drew)); exact HO_0.out, by repeat (first | (with_reducible first | exact HB.out | apply below_alloc | apply pw_below_drewN | apply below_drew1) | exact HB.out), by repeat (first | (with_reducible first | exact HK.out | apply Kept.alloc | apply Kept.drewN | apply Kept.drew) | exact HK.out)⟩

end Go.Proofs.Ytbdbeccaopphaaa.Q
namespace Go.Proofs.Ytbdbeccaopphaaa.Q
open Go.RowKit Go.Proofs.YtbdbeccaopphaaaW.PrintWords Go.Proofs.YtbdbeccaopphaaaW.PrintLast Go.Proofs.YtbdbeccaopphaaaW.PrintMore Go.Proofs.Ytbdbeccaopphaaa.LK
set_option linter.unusedVariables false
set_option linter.unusedSimpArgs false

def trunc (w : World) (b : Nat) : World := { w with heap := w.heap.extract 0 b }
theorem trunc_size {w : World} {b : Nat} (h : b ≤ w.heap.size) : (trunc w b).heap.size = b := by simp [trunc]; omega
theorem trunc_below {w : World} {b : Nat} (h : b ≤ w.heap.size) : Below b (trunc w b) w :=
  ⟨rfl, rfl, rfl, by rw [trunc_size h]; exact h, fun i hi => by
    simp only [trunc]
    rw [Array.getElem?_extract]
    simp only [hi, Nat.sub_zero, Nat.zero_add, Nat.lt_min, true_and]
    by_cases h2 : i < w.heap.size
    · simp [h2]
    · rw [if_neg h2, Array.getElem?_eq_none (by omega)]⟩

theorem markB {k b e_ : Nat} {P0 : Nat → Prop} {v : Value} {l l' : List Int} {m m' : Int} {w : World} (hbw : b ≤ w.heap.size) (hr : Kd.R (Kd.int .u8) e_ w b P0 v l) (h : laws_markByteS.f k l m = some (m', l')) :
    Calls Try.prog 33 #[v, .int .i64 m] w fun e w' => e = .returned (.int .i64 m') ∧ Kd.R (Kd.int .u8) e_ w' b P0 v l' ∧ Stp P0 w w' := by
  have hs := trunc_size hbw
  have hb := trunc_below hbw
  refine (laws_markByteS.callsE k P0 v l m m' l' (trunc w b) w (by rw [hs]; exact hb) (by rw [hs]; exact hr) h).mono ?_
  rintro e w' ⟨rfl, hr', hb', hk⟩
  rw [hs] at hr' hb'
  exact ⟨rfl, Kd.R_mono (Kd.R_tight rfl hr') (fun q hq => hr.1 q hq.symm), ⟨hb'.os.trans hb.os.symm, hb'.tape.trans hb.tape.symm, hb'.output.trans hb.output.symm, hk.1, hk.2⟩⟩

end Go.Proofs.Ytbdbeccaopphaaa.Q
namespace Go.Proofs.Ytbdbeccaopphaaa.Q
open Go.RowKit Go.Proofs.YtbdbeccaopphaaaW.PrintWords Go.Proofs.YtbdbeccaopphaaaW.PrintLast Go.Proofs.YtbdbeccaopphaaaW.PrintMore Go.Proofs.Ytbdbeccaopphaaa.LK
set_option linter.unusedVariables false
set_option linter.unusedSimpArgs false

def laws_markPendS.l0 : Nat → List S101 → Int → Int → Option (Int × List S101)
  | 0, _, _, _ => none
  | k + 1, xs, m, i => if i < (xs.length : Int) then (if 0 ≤ i then ((laws_markByteS.f k (rd_T101 xs i).f1 (wrap64 (m + 1))).bind fun t => laws_markPendS.l0 k (xs.set i.toNat ⟨m, t.2⟩) t.1 (wrap64 (i + 1))) else none) else some (m, xs)
def laws_markPendS.f (k : Nat) (l0 : List S101) (a1 : Int) : Option (Int × List S101) := laws_markPendS.l0 k l0 a1 0
theorem laws_markPendS.mono_l : ∀ k, (∀ y0 y1 y2, LeO (laws_markPendS.l0 k y0 y1 y2) (laws_markPendS.l0 (k + 1) y0 y1 y2))
  | 0 => fun _ _ _ r h => by simp [laws_markPendS.l0] at h
  | k + 1 => by
    have ih0 := laws_markPendS.mono_l k
    intro y0 y1 y2
    unfold laws_markPendS.l0
    refine LeO.ite (LeO.ite (LeO.bind (laws_markByteS.mono _ _ _) (fun _ => ih0 _ _ _)) (LeO.none _)) (LeO.refl _)
theorem laws_markPendS.mono : ∀ a0 a1 k, LeO (laws_markPendS.f k a0 a1) (laws_markPendS.f (k + 1) a0 a1) := fun a0 a1 k => laws_markPendS.mono_l k a0 a1 0

set_option maxHeartbeats 8000000 in
set_option maxRecDepth 100000 in
theorem mk_laws_markPendS {k b : Nat} {P : Nat → Prop} {v : Value} {l l' : List S101} {m m' : Int} {w : World} (hbw : b ≤ w.heap.size) (hS : Kd.S k101 101 w b P v l) (h : laws_markPendS.f k l m = some (m', l')) :
    Calls Try.prog 61 #[v, .int .i64 m] w fun e w' => e = .returned (.int .i64 m') ∧ Kd.S k101 101 w' b P v l' ∧ Stp P w w' := by
  have H' := Aside0.mk (show laws_markPendS.l0 k l m 0 = some (m', l') from h)
  clear h
  have HO0 := Aside0.mk hS
  have HW0 := Aside0.mk hbw
  have hb0 := Aside0.mk (trunc_below hbw)
  clear hS hbw
  go_enter Try.func61, Try.ntmps61
  go_wp2
  go_loopg [1, 5] k (fun kq v1 v5 w' => ∃ (x0 : List S101) (x1 : Int) (x5 : Int), v1 = .int .i64 x1 ∧ v5 = .int .i64 x5 ∧ Aside0 (laws_markPendS.l0 kq x0 x1 x5 = some (m', l')) ∧ Aside0 (kq ≤ k) ∧ Aside0 (Kd.S k101 101 w' b P v x0) ∧ Aside0 (Stp P w w') ∧ Aside0 (Below b (trunc w b) w'))
  case atStart => exact ⟨l, m, 0, rfl, rfl, H', ⟨Nat.le_refl _⟩, HO0, ⟨Stp.refl _ _⟩, hb0⟩
  case round =>
    clear H'
    try clear p2
    obtain ⟨x0, x1, x5, rfl, rfl, HA, HK1, HO, HS, HB⟩ := hrel
    cases gk with
    | zero => exact absurd HA.out (by simp [laws_markPendS.l0])
    | succ k1 =>
      have H := HA.out
      clear HA
      simp only [laws_markPendS.l0] at H
      by_cases c3 : x5 < (x0.length : Int)
      · rw [if_pos c3] at H
        have c3b0 : decide (x5 < (x0.length : Int)) = true := decide_eq_true c3
        by_cases c4 : 0 ≤ x5
        · rw [if_pos c4] at H
          have c4b0 : decide (0 ≤ x5) = true := decide_eq_true c4
          obtain ⟨⟨t1, t2⟩, hT, H⟩ := Option.bind_eq_some_iff.mp H
          have HT := Aside0.mk hT
          clear hT
          replace H : laws_markPendS.l0 k1 (x0.set x5.toNat ⟨x1, t2⟩) t1 (wrap64 (x5 + 1)) = some (m', l') := H
          have H' := Aside0.mk H
          clear H
          obtain ⟨go5, co5, eo5, gb5, gl5, cl5, HG5⟩ := Kd.S_form HO.out (by omega)
          subst eo5
          have GB5 := Aside0.mk gb5
          have hPg := Aside0.mk ((Kd.S_R HO.out).1 go5 rfl)
          obtain ⟨oki, c, hcl, hM, hcc, hfr, hoki, hH⟩ := Kd.S_elem HO.out z101 x5 c4 c3
          obtain ⟨vd, hc, hvd⟩ := k101_openM hM
          have HC := Aside0.mk hc
          have HH := Aside0.mk hH
          have HD := Aside0.mk hvd
          have HM0 := Aside0.mk hM
          clear hcl hcc hoki hM hfr hH hvd gb5 gl5 HG5
          have p5 := eq_true c4
          have q5 := eq_true c3
          subst hc
          clear HC HM0
          clear c3 c4
          go_wp2_with (first | ((with_reducible refine gate_store (t := 2) (p := 16) rfl ?_); refine Aside0.out ?_))
          refine Aside0.mk ?_
          refine Kd.H_store k101 (w0 := trunc w b) b rfl rfl 2 (.tmp 16) (.tmp 14) rfl 101 x5 0 x0 ⟨x1, (rd_T101 x0 x5).f1⟩ (.int .i64 x1) [.int .i64 x1] _ P oki oki rfl ?hoff rfl rfl (by kernel_rfl) (by simp [Value.oneCell']) HH.out (of_eq_true p5) (of_eq_true q5) (by show 0 + 1 ≤ 2; omega) (k101_mkM _ _ _ ⟨x1, (rd_T101 x0 x5).f1⟩ HD.out) (fun _ h => h) HB.out ?_
          case hoff => rfl
          intro w1 hS1 hB1 hg1
          have HS1 := Aside0.mk hS1
          have HB1 := Aside0.mk hB1
          have HT1 := Aside0.mk (HS.out.trans (Stp.grown (S := P) hg1 (fun k hk => by injection hk with hk; subst hk; exact hPg.out)))
          have hlen : (x0.set x5.toNat ⟨x1, (rd_T101 x0 x5).f1⟩).length = x0.length := List.length_set ..
          obtain ⟨okj, c, hcl, hM, hcc, hfr, hokj, hH⟩ := Kd.S_elem hS1 z101 x5 (of_eq_true p5) (of_eq_true q5)
          have hget : (x0.set x5.toNat ⟨x1, (rd_T101 x0 x5).f1⟩).getD x5.toNat z101 = ⟨x1, (rd_T101 x0 x5).f1⟩ := by
            rw [List.getD_eq_getElem?_getD, List.getElem?_set_self (by have := of_eq_true p5; have := of_eq_true q5; omega)]
            rfl
          rw [hget] at hM
          obtain ⟨vd2, hc, hvd⟩ := k101_openM hM
          subst hc
          have hcz : w1.cell? ⟨go5, x5.toNat * 2 + 1, none⟩ = some vd2 := hcc 1 vd2 rfl
          have HH1 := Aside0.mk hH
          have HD1 := Aside0.mk hvd
          have HOj := Aside0.mk (fun k hk => (hokj k hk).1)
          obtain ⟨Ad, cd, ed⟩ := Kd.R_slice hvd
          subst ed
          clear hS1 hB1 hg1 hcl hM hcc hfr hokj hH hvd HB HS HO HH HD
          go_wp2_with (first | ((with_reducible refine gate_callee (f := 33) rfl ?_); refine Aside0.out ?_))
          refine Aside0.mk ?_
          refine goesW (some 25) rfl ?hw Try.func33 (by kernel_rfl) rfl #[.slice Ad (rd_T101 x0 x5).f1.length cd, .int .i64 (wrap64 (x1 + 1))] rfl (by (try simp only [List.map_toArray, List.map_cons, List.map_nil]); first | done | rfl) ?_
          case hw => rfl
          refine (markB (Nat.le_trans HW0.out HT1.out.size) (Kd.R_tight rfl HD1.out) HT.out).mono ?_
          rintro e w2 ⟨rfl, hr2, hs2⟩
          refine ⟨_, rfl, ?_⟩
          have hb2 : Below b (trunc w b) w2 := by
            have hb := HB1.out
            refine ⟨hs2.os.trans hb.os, hs2.tape.trans hb.tape, hs2.output.trans hb.output, Nat.le_trans hb.size hs2.size, fun q hq => ?_⟩
            refine (hs2.block q (Nat.lt_of_lt_of_le (by rw [trunc_size HW0.out] ; exact hq) (hb.size)) (fun he => ?_)).trans (hb.block q hq)
            have := Kd.R_base HD1.out q he.symm
            omega
          have hH2 := Kd.H_step HH1.out (fun q hq hnq hlt => hs2.block q hlt (fun he => hnq (HD1.out.1 q he.symm)))
          have hS2 := Kd.H_back hH2 (k101_mkM w2 b _ ⟨x1, t2⟩ hr2) (fun q hq => HD1.out.1 q hq.symm)
          rw [List.set_set] at hS2
          have HS2 := Aside0.mk hS2
          have HB2 := Aside0.mk hb2
          have HT2 := Aside0.mk (HT1.out.trans (hs2.mono (S' := P) (fun q _ hq => HOj.out q (HD1.out.1 q hq.symm))))
          clear hS2 hb2 hH2 hr2 hs2
          go_wp2
          go_roundg k1
          case measure => have := HK1.out; omega
          case rel => exact ⟨x0.set x5.toNat ⟨x1, t2⟩, t1, wrap64 (x5 + 1), rfl, rfl, H', ⟨by have := HK1.out; omega⟩, HS2, HT2, HB2⟩
        · rw [if_neg c4] at H
          exact absurd H (by simp)
      · rw [if_neg c3] at H
        have c3b0 : decide (x5 < (x0.length : Int)) = false := decide_eq_false c3
        simp only [Option.some.injEq, Prod.mk.injEq] at H
        obtain ⟨rfl, rfl⟩ := H
        obtain ⟨Ao9, co9, eo9⟩ := Kd.S_slice HO.out
        subst eo9
        go_wp2
        go_ret
        exact ⟨rfl, HO.out, HS.out⟩

def laws_markDev.f (k : Nat) (l0_0 : List Int) (l0_1 : List S101) (_a0_2 : Int) (_a0_3 : Bool) (a1 : Int) : Option (Int × List Int × List S101) :=
  (laws_markByteS.f k l0_0 a1).bind fun t => (laws_markPendS.f k l0_1 t.1).bind fun u => some (u.1, t.2, u.2)
theorem laws_markDev.mono : ∀ a0 a1 a2 a3 a4 k, LeO (laws_markDev.f k a0 a1 a2 a3 a4) (laws_markDev.f (k + 1) a0 a1 a2 a3 a4) := fun a0 a1 a2 a3 a4 k =>
  LeO.bind (laws_markByteS.mono _ _ _) (fun _ => LeO.bind (laws_markPendS.mono _ _ _) (fun _ => LeO.refl _))
set_option maxHeartbeats 8000000 in
set_option maxRecDepth 100000 in
theorem mk_laws_markDev {k b : Nat} {P0 P1 : Nat → Prop} {A0 A1 : Option Addr} {n0 n1 c0 c1 : Nat} {l0 l0' : List Int} {l1 l1' : List S101} {a2 : Int} {a3 : Bool} {m m' : Int} {w : World} (hbw : b ≤ w.heap.size)
    (hR : Kd.R (Kd.int .u8) 5 w b P0 (.slice A0 n0 c0) l0) (hS : Kd.S k101 101 w b P1 (.slice A1 n1 c1) l1) (hne : ∀ q, P1 q → some q ≠ (Value.slice A0 n0 c0).ownBlock) (h : laws_markDev.f k l0 l1 a2 a3 m = some (m', l0', l1')) :
    Calls Try.prog 25 #[.agg #[.slice A0 n0 c0, .slice A1 n1 c1, .int .i64 a2, .bool a3], .int .i64 m] w fun e w' => e = .returned (.int .i64 m') ∧ Kd.R (Kd.int .u8) 5 w' b P0 (.slice A0 n0 c0) l0' ∧ Kd.S k101 101 w' b P1 (.slice A1 n1 c1) l1' ∧ Stp (fun q => P0 q ∨ P1 q) w w' := by
  obtain ⟨⟨t1, t2⟩, hT, h⟩ := Option.bind_eq_some_iff.mp h
  obtain ⟨⟨u1, u2⟩, hU, h⟩ := Option.bind_eq_some_iff.mp h
  simp only [Option.some.injEq, Prod.mk.injEq] at h
  obtain ⟨rfl, rfl, rfl⟩ := h
  have HT := Aside0.mk hT
  have HU := Aside0.mk hU
  have HR := Aside0.mk hR
  have HS := Aside0.mk hS
  have HW := Aside0.mk hbw
  have HN := Aside0.mk hne
  clear hT hU hR hS hbw hne
  go_enter Try.func25, Try.ntmps25
  go_wp2_with (first | ((with_reducible refine gate_dst (N := 2) rfl ?_); refine Aside0.out ?_))
  refine Aside0.mk ?_
  refine mk ?hw (N := 2) ?hd (cs := #[.slice A0 n0 c0, .slice A1 n1 c1, .int .i64 a2, .bool a3]) (t := 35) ?hr ?_
  case hd => rfl
  case hw => rfl
  case hr => first | (go_simp; done) | (go_simp; rfl)
  intro g hg w1 hbox hb1
  have hr1 := Kd.R_below HR.out hb1
  have hs1 := Kd.S_below HS.out hb1
  have hr1' := Kd.R_bound hr1
  have hR0 : ∀ q, (Value.slice A0 n0 c0).ownBlock = some q → P0 q ∧ q < w.heap.size := fun q hq => ⟨HR.out.1 q hq, Kd.R_lt HR.out q hq⟩
  have HBox := Aside0.mk hbox
  have HR1 := Aside0.mk hr1
  have HS1 := Aside0.mk hs1
  have HB1 := Aside0.mk hb1
  have HG := Aside0.mk hg
  have HR0 := Aside0.mk hR0
  have hc0 : w1.cell? ⟨g, 0, none⟩ = some (.slice A0 n0 c0) := (blk_cell HBox.out 0).trans rfl
  have hc1 : w1.cell? ⟨g, 1, none⟩ = some (.slice A1 n1 c1) := (blk_cell HBox.out 1).trans rfl
  clear hbox hr1 hs1 hr1' hb1 hg hR0
  go_wp2_with (first | ((with_reducible refine gate_callee (f := 33) rfl ?_); refine Aside0.out ?_))
  refine Aside0.mk ?_
  refine goesW (some 8) rfl ?hw Try.func33 (by kernel_rfl) rfl #[.slice A0 n0 c0, .int .i64 m] rfl (by (try simp only [List.map_toArray, List.map_cons, List.map_nil]); first | done | rfl) ?_
  case hw => rfl
  refine (markB (Nat.le_trans HW.out HB1.out.size) (Kd.R_tight rfl HR1.out) HT.out).mono ?_
  rintro e w2 ⟨rfl, hr2, hs2⟩
  refine ⟨_, rfl, ?_⟩
  have HBox2 := Aside0.mk ((hs2.block g (blk_lt HBox.out) (fun he => by have := (HR0.out g he.symm).2; have := HG.out; omega)).trans HBox.out)
  have HS2 := Aside0.mk (Kd.S_step HS1.out (fun q hq hlt => hs2.block q hlt (fun he => HN.out q hq he)))
  have HR2 := Aside0.mk hr2
  have HT2 := Aside0.mk ((Stp.of_below HB1.out (fun q => P0 q ∨ P1 q)).trans (hs2.mono (S' := fun q => P0 q ∨ P1 q) (fun q _ hq => .inl (HR0.out q hq.symm).1)))
  clear hc0 hc1 hr2 hs2
  have hc1 : w2.cell? ⟨g, 1, none⟩ = some (.slice A1 n1 c1) := (blk_cell HBox2.out 1).trans rfl
  go_wp2_with (first | ((with_reducible refine gate_callee (f := 61) rfl ?_); refine Aside0.out ?_))
  refine Aside0.mk ?_
  refine goesW (some 12) rfl ?hw Try.func61 (by kernel_rfl) rfl #[.slice A1 n1 c1, .int .i64 t1] rfl (by (try simp only [List.map_toArray, List.map_cons, List.map_nil]); first | done | rfl) ?_
  case hw => rfl
  refine (mk_laws_markPendS (Nat.le_trans HW.out HT2.out.size) HS2.out HU.out).mono ?_
  rintro e w3 ⟨rfl, hs3, ht3⟩
  refine ⟨_, rfl, ?_⟩
  have HS3 := Aside0.mk hs3
  have HR3 := Aside0.mk (Kd.R_mono (Kd.R_step HR2.out (fun q hq hlt => ht3.block q hlt (fun hk => HN.out q hk hq))) (fun q hq => (HR0.out q hq.symm).1))
  have HT3 := Aside0.mk (HT2.out.trans (ht3.mono (S' := fun q => P0 q ∨ P1 q) (fun q _ hq => .inr hq)))
  clear hs3 ht3
  go_wp2
  go_ret
  exact ⟨rfl, HR3.out, HS3.out, HT3.out⟩
end Go.Proofs.Ytbdbeccaopphaaa.Q
namespace Go.Proofs.Ytbdbeccaopphaaa.P
open Go.RowKit Go.Proofs.YtbdbeccaopphaaaW.PrintWords Go.Proofs.Ytbdbeccaopphaaa.Q
set_option linter.unusedVariables false
set_option linter.unusedSimpArgs false

def cvPend (p : S139) : S101 := ⟨p.f0, p.f1⟩
theorem rdP_at {xs : List S101} {i : Nat} {a : S101} (h : xs[i]? = some a) : rd_T101 xs (i : Int) = a := getD_at h
theorem rdL_at {xs : List S139} {i : Nat} {a : S139} (h : xs[i]? = some a) : rd_T139 xs (i : Int) = a := getD_at h
theorem toPendS_ev (l : List S139) (h : l.length ≤ 1048576) (hp : ∀ p ∈ l, p.f1.length ≤ 1048576) : Ev (fun k => laws_toPendS.f k l) (l.map cvPend) := by
  have h1 := copy_ends (fun k y i => laws_toPendS.l0 k l y i) cvPend l (List.replicate ((l.length : Int)).toNat z101) (by simp) ?_ ?_
  · refine Ev.congr (fun k => ?_) h1
    simp only [laws_toPendS.f]
    rw [if_pos (by omega), if_pos (by omega)]
  · intro i a y ha hi hy
    obtain ⟨K, hK⟩ := toByteS_ev a.f1 (by have := hp a (List.mem_of_getElem? ha); omega)
    refine ⟨K, fun k hk => ?_⟩
    simp only [laws_toPendS.l0, laws_toPend.f]
    rw [if_pos (by omega), if_pos (by omega), rdL_at ha]
    simp only [hK k hk, Option.bind_some]
    rw [if_pos (by omega), w64s hi (by omega)]
    rfl
  · intro k y hy
    simp only [laws_toPendS.l0]
    rw [if_neg (by omega)]
theorem eqPendS_ev (l : List S101) (h : l.length ≤ 4611686018427387904) (hp : ∀ p ∈ l, p.f1.length ≤ 4611686018427387904) : Ev (fun k => laws_eqPendS.f k l l) true := by
  refine Ev.congr (fun k => ?_) (each_ends (fun k i => laws_eqPendS.l0 k l l i) l.length true ?_ ?_)
  · simp only [laws_eqPendS.f]
    rw [if_pos trivial]
  · intro i hi
    obtain ⟨a, ha⟩ := some_at hi
    obtain ⟨K, hK⟩ := eqByteS_ev a.f1 (hp a (List.mem_of_getElem? ha))
    refine ⟨K, fun k hk => ?_⟩
    simp only [laws_eqPendS.l0, laws_eqPend.f]
    rw [if_pos (by omega), if_pos (by omega), if_pos (by omega), rdP_at ha, if_pos trivial]
    simp only [hK k hk, Option.bind_some, if_true]
    rw [w64s hi (by omega)]
  · intro k
    simp only [laws_eqPendS.l0]
    rw [if_neg (by omega)]
/-- What szPendS leaves is what was there less what the rows hold. -/
theorem szPendS_ev (l : List S139) (a : Int) (h0 : 0 ≤ a) (h1 : a ≤ 1048576) (hl : l.length ≤ 9223372036854775807) (hp : ∀ p ∈ l, p.f1.length ≤ 9223372036854775807) :
    ∃ t, Ev (fun k => laws_szPendS.f k l a) t ∧ (t < 0 ∨ (0 ≤ t ∧ t ≤ a ∧ (l.length : Int) ≤ a ∧ ∀ p ∈ l, (p.f1.length : Int) ≤ a)) := by
  have key : ∀ (n i : Nat), i + n = l.length → ∀ b : Int, 0 ≤ b → b ≤ 1048576 → l.length ≤ 1048576 → ∃ t, Ev (fun k => laws_szPendS.l0 k l b (i : Int)) t ∧ (t < 0 ∨ (0 ≤ t ∧ t ≤ b ∧ ∀ j p, i ≤ j → l[j]? = some p → (p.f1.length : Int) ≤ b)) := by
    intro n
    induction n with
    | zero =>
      intro i hi b hb hb1 hll
      refine ⟨b, Ev.last ⟨0, fun k _ => ?_⟩, .inr ⟨hb, Int.le_refl _, fun j p hj hp => ?_⟩⟩
      · simp only [laws_szPendS.l0]
        rw [if_neg (by omega)]
      · have := (List.getElem?_eq_some_iff.1 hp).1
        omega
    | succ n ih =>
      intro i hi b hb hb1 hll
      obtain ⟨p, hpi⟩ := some_at (show i < l.length by omega)
      obtain ⟨t, ht, hc⟩ := szByteS_is p.f1 b hb hb1 (hp p (List.mem_of_getElem? hpi))
      rcases hc with hc | ⟨hc, hc0⟩
      · refine ⟨-1, Ev.last ⟨0, fun k _ => ?_⟩, .inl (by omega)⟩
        simp only [laws_szPendS.l0, laws_szPend.f]
        rw [if_pos (by omega), if_pos (by omega), rdL_at hpi, ht]
        simp only [Option.bind_some]
        rw [if_pos hc]
        simp
      · obtain ⟨t2, h2, h3⟩ := ih (i + 1) (by omega) t (by omega) (by omega) hll
        refine ⟨t2, Ev.step ⟨0, fun k _ => ?_⟩ h2, ?_⟩
        · simp only [laws_szPendS.l0, laws_szPend.f]
          rw [if_pos (by omega), if_pos (by omega), rdL_at hpi, ht]
          simp only [Option.bind_some]
          rw [if_neg (by omega)]
          simp only [Option.bind_some]
          rw [if_neg (by omega), w64s (by omega : i < l.length) (by omega)]
        · rcases h3 with h3 | ⟨h3, h4, h5⟩
          · exact .inl h3
          · refine .inr ⟨h3, by omega, fun j q hj hq => ?_⟩
            by_cases e : j = i
            · subst e
              rw [hpi] at hq
              cases hq
              omega
            · have := h5 j q (by omega) hq
              omega
  by_cases h : a - (l.length : Int) < 0
  · refine ⟨-1, Ev.congr (fun k => ?_) (Ev.const rfl), .inl (by omega)⟩
    simp only [laws_szPendS.f]
    rw [w64 (by omega) (by omega), if_pos h]
  · obtain ⟨t, ht, hc⟩ := key l.length 0 (by omega) (a - l.length) (by omega) (by omega) (by omega)
    refine ⟨t, Ev.congr (fun k => ?_) ht, ?_⟩
    · simp only [laws_szPendS.f]
      rw [w64 (by omega) (by omega), if_neg h]
      rfl
    · rcases hc with hc | ⟨h3, h4, h5⟩
      · exact .inl hc
      · refine .inr ⟨h3, by omega, by omega, fun p hpm => ?_⟩
        obtain ⟨j, hj⟩ := List.getElem?_of_mem hpm
        have := h5 j p (by omega) hj
        omega
/-- What is counted and written over rows of pends. -/
def costP : List S101 → Nat
  | [] => 0
  | p :: ps => 1 + p.f1.length + costP ps
def mkPendS : Int → List S101 → List S101
  | _, [] => []
  | m, p :: ps => ⟨m, mkByteS (m + 1) p.f1.length⟩ :: mkPendS (m + 1 + p.f1.length) ps
theorem markPendS_ev (l : List S101) (m : Int) (h0 : 0 ≤ m) (hl : l.length ≤ 4611686018427387904) (hm : m + costP l ≤ 4611686018427387904) : Ev (fun k => laws_markPendS.f k l m) (m + costP l, mkPendS m l) := by
  have key : ∀ (rest done : List S101) (c : Int), (done ++ rest).length ≤ 4611686018427387904 → 0 ≤ c → c + costP rest ≤ 4611686018427387904 → Ev (fun k => laws_markPendS.l0 k (done ++ rest) c (done.length : Int)) (c + costP rest, done ++ mkPendS c rest) := by
    intro rest
    induction rest with
    | nil =>
      intro done c hl hc0 hc
      refine Ev.last ⟨0, fun k _ => ?_⟩
      simp only [laws_markPendS.l0]
      rw [if_neg (by simp)]
      simp [costP, mkPendS]
    | cons p ps ih =>
      intro done c hl hc0 hc
      simp only [costP] at hc
      simp only [List.length_append, List.length_cons] at hl
      obtain ⟨K, hK⟩ := markByteS_ev p.f1 (c + 1) (by omega) (by omega)
      have h2 := ih (done ++ [⟨c, mkByteS (c + 1) p.f1.length⟩]) (c + 1 + p.f1.length) (by rw [List.length_append, List.length_append, List.length_singleton]; omega) (by omega) (by omega)
      have e : ∀ q : S101, done ++ [q] ++ ps = done ++ q :: ps := fun q => by simp
      have hat : (done ++ p :: ps)[done.length]? = some p := by simp
      have e1 : c + ((1 + p.f1.length + costP ps : Nat) : Int) = c + 1 + (p.f1.length : Int) + (costP ps : Int) := by omega
      simp only [costP, mkPendS]
      rw [e1]
      rw [e, List.append_assoc, List.length_append] at h2
      refine Ev.step (g := fun k => laws_markPendS.l0 k (done ++ ⟨c, mkByteS (c + 1) p.f1.length⟩ :: ps) (c + 1 + p.f1.length) ((done.length + 1 : Nat) : Int)) ⟨K, fun k hk => ?_⟩ h2
      have hset : (done ++ p :: ps).set ((done.length : Int)).toNat ⟨c, mkByteS (c + 1) p.f1.length⟩ = done ++ ⟨c, mkByteS (c + 1) p.f1.length⟩ :: ps := by simp
      simp only [laws_markPendS.l0]
      rw [if_pos (by rw [List.length_append, List.length_cons]; omega), if_pos (by omega), rdP_at hat, w64 (n := c + 1) (by omega) (by omega), w64s (i := done.length) (n := done.length + 1) (Nat.lt_succ_self _) (by omega)]
      simp only [hK k hk, Option.bind_some, hset]
  have := key l [] m (by simpa using hl) h0 hm
  simpa [laws_markPendS.f] using this
theorem mkPendS_length : ∀ (l : List S101) (m : Int), (mkPendS m l).length = l.length
  | [], _ => rfl
  | p :: ps, m => by simp [mkPendS, mkPendS_length ps]
theorem heldPendS_ev (l : List S101) (m : Int) (h0 : 0 ≤ m) (hl : l.length ≤ 4611686018427387904) (hm : m + costP l ≤ 4611686018427387904) : Ev (fun k => laws_heldPendS.f k (mkPendS m l) m) (m + costP l) := by
  have key : ∀ (rest done : List S101) (c : Int), (done ++ rest).length ≤ 4611686018427387904 → 0 ≤ c → c + costP rest ≤ 4611686018427387904 → Ev (fun k => laws_heldPendS.l0 k (done ++ mkPendS c rest) c (done.length : Int)) (c + costP rest) := by
    intro rest
    induction rest with
    | nil =>
      intro done c hl hc0 hc
      refine Ev.last ⟨0, fun k _ => ?_⟩
      simp only [laws_heldPendS.l0, mkPendS, List.append_nil]
      rw [if_neg (by omega)]
      simp [costP]
    | cons p ps ih =>
      intro done c hl hc0 hc
      simp only [costP] at hc
      simp only [List.length_append, List.length_cons] at hl
      obtain ⟨K, hK⟩ := heldByteS_ev p.f1.length (c + 1) (by omega) (by omega)
      have h2 := ih (done ++ [⟨c, mkByteS (c + 1) p.f1.length⟩]) (c + 1 + p.f1.length) (by rw [List.length_append, List.length_append, List.length_singleton]; omega) (by omega) (by omega)
      have hat : (done ++ (⟨c, mkByteS (c + 1) p.f1.length⟩ : S101) :: mkPendS (c + 1 + p.f1.length) ps)[done.length]? = some ⟨c, mkByteS (c + 1) p.f1.length⟩ := by simp
      have e1 : c + ((1 + p.f1.length + costP ps : Nat) : Int) = c + 1 + (p.f1.length : Int) + (costP ps : Int) := by omega
      simp only [costP, mkPendS]
      rw [e1]
      rw [List.append_assoc, List.length_append] at h2
      refine Ev.step (g := fun k => laws_heldPendS.l0 k (done ++ ⟨c, mkByteS (c + 1) p.f1.length⟩ :: mkPendS (c + 1 + p.f1.length) ps) (c + 1 + p.f1.length) ((done.length + 1 : Nat) : Int)) ⟨K, fun k hk => ?_⟩ h2
      simp only [laws_heldPendS.l0]
      rw [if_pos (by rw [List.length_append, List.length_cons]; omega), if_pos (by omega), rdP_at hat, if_pos rfl, w64 (n := c + 1) (by omega) (by omega), w64s (i := done.length) (n := done.length + 1) (Nat.lt_succ_self _) (by omega)]
      simp only [hK k hk, Option.bind_some]
      rw [if_neg (by omega)]
  have := key l [] m (by simpa using hl) h0 hm
  simpa [laws_heldPendS.f] using this
/-! ### devices -/
theorem toDev_ev (l0 : List Int) (l1 : List S139) (a2 : Int) (a3 : Bool) (h0 : l0.length ≤ 1048576) (h : l1.length ≤ 1048576) (hp : ∀ p ∈ l1, p.f1.length ≤ 1048576) : Ev (fun k => laws_toDev.f k l0 l1 a2 a3) (l0, l1.map cvPend, a2, a3) := by
  simp only [laws_toDev.f]
  exact Ev.bind (toByteS_ev l0 (by omega)) (Ev.bind (toPendS_ev l1 h hp) (Ev.const rfl))
theorem eqDev_ev (l0 : List Int) (l1 : List S101) (a2 : Int) (a3 : Bool) (h0 : l0.length ≤ 4611686018427387904) (h : l1.length ≤ 4611686018427387904) (hp : ∀ p ∈ l1, p.f1.length ≤ 4611686018427387904) : Ev (fun k => laws_eqDev.f k l0 l1 a2 a3 l0 l1 a2 a3) true := by
  simp only [laws_eqDev.f]
  refine Ev.bind (eqByteS_ev l0 h0) (Ev.pos rfl (Ev.bind (eqPendS_ev l1 h hp) (Ev.pos rfl ?_)))
  exact Ev.const (by simp)
theorem szDev_ev (l0 : List Int) (l1 : List S139) (a2 : Int) (a3 : Bool) (a : Int) (h0 : 0 ≤ a) (h1 : a ≤ 1048576) (hl0 : l0.length ≤ 9223372036854775807) (hl : l1.length ≤ 9223372036854775807) (hp : ∀ p ∈ l1, p.f1.length ≤ 9223372036854775807) :
    ∃ t, Ev (fun k => laws_szDev.f k l0 l1 a2 a3 a) t ∧ (t < 0 ∨ (0 ≤ t ∧ t ≤ a ∧ (l0.length : Int) ≤ a ∧ (l1.length : Int) ≤ a ∧ ∀ p ∈ l1, (p.f1.length : Int) ≤ a)) := by
  obtain ⟨t, ht, hc⟩ := szByteS_is l0 a h0 h1 hl0
  simp only [laws_szDev.f, ht, Option.bind_some]
  rcases hc with hc | ⟨hc, hc0⟩
  · exact ⟨-1, Ev.pos hc (Ev.const rfl), .inl (by omega)⟩
  · obtain ⟨t2, h2, h3⟩ := szPendS_ev l1 t hc0 (by omega) hl hp
    rcases h3 with h3 | ⟨h3, h4, h5, h6⟩
    · exact ⟨-1, Ev.neg (by omega) (Ev.bind h2 (Ev.pos h3 (Ev.const rfl))), .inl (by omega)⟩
    · exact ⟨t2, Ev.neg (by omega) (Ev.bind h2 (Ev.neg (by omega) (Ev.const rfl))), .inr ⟨h3, by omega, by omega, by omega, fun p hpm => by have := h6 p hpm; omega⟩⟩
theorem markDev_ev (l0 : List Int) (l1 : List S101) (a2 : Int) (a3 : Bool) (m : Int) (h0 : 0 ≤ m) (hl : l1.length ≤ 4611686018427387904) (hm : m + l0.length + costP l1 ≤ 4611686018427387904) :
    Ev (fun k => laws_markDev.f k l0 l1 a2 a3 m) (m + l0.length + costP l1, mkByteS m l0.length, mkPendS (m + l0.length) l1) := by
  simp only [laws_markDev.f]
  exact Ev.bind (markByteS_ev l0 m h0 (by omega)) (Ev.bind (markPendS_ev l1 (m + l0.length) (by omega) hl hm) (Ev.const rfl))
theorem heldDev_ev (l0 : List Int) (l1 : List S101) (a2 : Int) (a3 : Bool) (m : Int) (h0 : 0 ≤ m) (hl : l1.length ≤ 4611686018427387904) (hm : m + l0.length + costP l1 ≤ 4611686018427387904) :
    Ev (fun k => laws_heldDev.f k (mkByteS m l0.length) (mkPendS (m + l0.length) l1) a2 a3 m) (m + l0.length + costP l1) := by
  simp only [laws_heldDev.f]
  exact Ev.bind (heldByteS_ev l0.length m h0 (by omega)) (Ev.neg (by omega) (Ev.bind (heldPendS_ev l1 (m + l0.length) (by omega) hl hm) (Ev.neg (by omega) (Ev.const rfl))))
end Go.Proofs.Ytbdbeccaopphaaa.P
namespace Go.Proofs.Ytbdbeccaopphaaa.Q
open Go.RowKit Go.Proofs.YtbdbeccaopphaaaW.PrintWords Go.Proofs.YtbdbeccaopphaaaW.PrintLast Go.Proofs.Ytbdbeccaopphaaa.LK Go.Proofs.YtbdbeccaopphaaaW.PrintMore
attribute [local go_sem] max2_int min2_int max_two min_two max_three min_three max_four min_four   -- for this text's walks alone
set_option linter.unusedVariables false
set_option linter.unusedSimpArgs false

/-! ### impl_Dev_sectors: function 67 -/
def impl_Dev_sectors.f (l0_0 : List Int) (l0_1 : List (S101)) (a0_2 : Int) (a0_3 : Bool) : Option (Int) := some (wrap64 ((l0_0.length : Int) / 64))
set_option maxHeartbeats 8000000 in
set_option maxRecDepth 100000 in
theorem impl_Dev_sectors.calls (A0_0 : Option Addr) (c0_0 : Nat) (l0_0 : List Int) (A0_1 : Option Addr) (c0_1 : Nat) (l0_1 : List (S101)) (a0_2 : Int) (a0_3 : Bool) (r : Int) (w : World) (hr0_0 : Kd.C (Kd.int .u8) w A0_0 l0_0.length l0_0) (hc0_0 : l0_0.length ≤ c0_0) (hr0_1 : Kd.C k101 w A0_1 l0_1.length l0_1) (hc0_1 : l0_1.length ≤ c0_1) (h : impl_Dev_sectors.f l0_0 l0_1 a0_2 a0_3 = some r) :
    Calls Try.prog 67 #[.agg #[.slice A0_0 l0_0.length c0_0, .slice A0_1 l0_1.length c0_1, .int .i64 a0_2, .bool a0_3]] w fun e w' => e = .returned (.int .i64 r) ∧ Below w.heap.size w w' := by
  have hu35 := Try.underlying35
  have HR0_0 := Aside0.mk hr0_0
  have HC0_0 := Aside0.mk hc0_0
  clear hr0_0 hc0_0
  have HR0_1 := Aside0.mk hr0_1
  have HC0_1 := Aside0.mk hc0_1
  clear hr0_1 hc0_1
  have HB := Aside0.mk (Below.refl w.heap.size w)
  have H : (some (wrap64 ((l0_0.length : Int) / 64))) = some r := h
  clear h
  obtain rfl := Option.some.inj H
  go_enter Try.func67, Try.ntmps67
  go_wp2_with (first | ((with_reducible refine gate_dst (N := 1) rfl ?_); refine box_event ?hg (N := 1) ?hd (cs := #[.slice A0_0 l0_0.length c0_0, .slice A0_1 l0_1.length c0_1, .int .i64 a0_2, .bool a0_3]) (t := 35) ?hr ?_; (case hd => rfl); (case hg => rfl); (case hr => first | (go_simp; done) | (go_simp; rfl)); intro gb101 hg w2 hbox hb; have n0_ := Aside0.mk (below_step (by repeat (first | (with_reducible first | exact HB.out | apply below_alloc | apply pw_below_drewN | apply below_drew1) | exact HB.out)) hb); have n1_ := Aside0.mk (hbox); have n2_ := Aside0.mk ((by rw [hg]; exact (below_size (by repeat (first | (with_reducible first | exact HB.out | apply below_alloc | apply pw_below_drewN | apply below_drew1) | exact HB.out))) : w.heap.size ≤ gb101)); have n3_ := Aside0.mk ((by rw [hg]; exact (below_size (by repeat (first | (with_reducible first | exact HB.out | apply below_alloc | apply pw_below_drewN | apply below_drew1) | exact HB.out))) : w.heap.size ≤ gb101)); clear HB; have HB := n0_; have BK101 := n1_; have GW101 := n2_; have GE101 := n3_; clear n0_ n1_ n2_ n3_; clear hb hbox hg; have hcz3_0 : w2.cell? ⟨gb101, 0, none⟩ = some (.slice A0_0 l0_0.length c0_0) := (blk_cell BK101.out 0).trans rfl; have hcz3_1 : w2.cell? ⟨gb101, 1, none⟩ = some (.slice A0_1 l0_1.length c0_1) := (blk_cell BK101.out 1).trans rfl; have hcz3_2 : w2.cell? ⟨gb101, 2, none⟩ = some (.int .i64 a0_2) := (blk_cell BK101.out 2).trans rfl; have hcz3_3 : w2.cell? ⟨gb101, 3, none⟩ = some (.bool a0_3) := (blk_cell BK101.out 3).trans rfl; have hfz3_0 := blk_frozen BK101.out 0; have hfz3_1 := blk_frozen BK101.out 1; have hfz3_2 := blk_frozen BK101.out 2; have hfz3_3 := blk_frozen BK101.out 3))
  go_ret
  exact ⟨by first | rfl | (simp [errW_none, errW_some] <;> rfl) | (simp [*, errW_none, errW_some] <;> rfl), by repeat (first | (with_reducible first | exact HB.out | apply below_alloc | apply pw_below_drewN | apply below_drew1 | refine below_set ?_ GE101.out) | exact HB.out)⟩

end Go.Proofs.Ytbdbeccaopphaaa.Q
namespace Go.Proofs.Ytbdbeccaopphaaa.Q
open Go.RowKit Go.Proofs.YtbdbeccaopphaaaW.PrintWords Go.Proofs.YtbdbeccaopphaaaW.PrintLast Go.Proofs.Ytbdbeccaopphaaa.LK Go.Proofs.YtbdbeccaopphaaaW.PrintMore
attribute [local go_sem] max2_int min2_int max_two min_two max_three min_three max_four min_four   -- for this text's walks alone
set_option linter.unusedVariables false
set_option linter.unusedSimpArgs false

/-! ### impl_Dev_has: function 68 -/
def impl_Dev_has.f (l0_0 : List Int) (l0_1 : List (S101)) (a0_2 : Int) (a0_3 : Bool) (a1 : Int) : Option (Bool) := if a1 ≥ 0 then ((impl_Dev_sectors.f l0_0 l0_1 a0_2 a0_3).bind fun t102 => (some (decide (a1 < t102)))) else (some false)
set_option maxHeartbeats 8000000 in
set_option maxRecDepth 100000 in
theorem impl_Dev_has.calls (A0_0 : Option Addr) (c0_0 : Nat) (l0_0 : List Int) (A0_1 : Option Addr) (c0_1 : Nat) (l0_1 : List (S101)) (a0_2 : Int) (a0_3 : Bool) (a1 : Int) (r : Bool) (w : World) (hr0_0 : Kd.C (Kd.int .u8) w A0_0 l0_0.length l0_0) (hc0_0 : l0_0.length ≤ c0_0) (hr0_1 : Kd.C k101 w A0_1 l0_1.length l0_1) (hc0_1 : l0_1.length ≤ c0_1) (h : impl_Dev_has.f l0_0 l0_1 a0_2 a0_3 a1 = some r) :
    Calls Try.prog 68 #[.agg #[.slice A0_0 l0_0.length c0_0, .slice A0_1 l0_1.length c0_1, .int .i64 a0_2, .bool a0_3], .int .i64 a1] w fun e w' => e = .returned (.bool r) ∧ Below w.heap.size w w' := by
  have hu35 := Try.underlying35
  have HR0_0 := Aside0.mk hr0_0
  have HC0_0 := Aside0.mk hc0_0
  clear hr0_0 hc0_0
  have HR0_1 := Aside0.mk hr0_1
  have HC0_1 := Aside0.mk hc0_1
  clear hr0_1 hc0_1
  have HB := Aside0.mk (Below.refl w.heap.size w)
  have H : (if a1 ≥ 0 then ((impl_Dev_sectors.f l0_0 l0_1 a0_2 a0_3).bind fun t102 => (some (decide (a1 < t102)))) else (some false)) = some r := h
  clear h
  by_cases c3 : a1 ≥ 0
  · rw [if_pos c3] at H
    have c3b0 : decide (0 ≤ a1) = true := decide_eq_true c3
    clear c3
    replace H := Option.bind_eq_some_iff.mp H
    obtain ⟨t102, A40, H⟩ := H
    replace H : (some (decide (a1 < t102))) = some r := H
    have A4 := Aside0.mk A40
    clear A40
    obtain rfl := Option.some.inj H
    go_enter Try.func68, Try.ntmps68
    go_wp2_with (first | ((with_reducible refine gate_dst (N := 2) rfl ?_); refine box_event ?hg (N := 2) ?hd (cs := #[.slice A0_0 l0_0.length c0_0, .slice A0_1 l0_1.length c0_1, .int .i64 a0_2, .bool a0_3]) (t := 35) ?hr ?_; (case hd => rfl); (case hg => rfl); (case hr => first | (go_simp; done) | (go_simp; rfl)); intro gb101 hg w5 hbox hb; have n0_ := Aside0.mk (below_step (by repeat (first | (with_reducible first | exact HB.out | apply below_alloc | apply pw_below_drewN | apply below_drew1) | exact HB.out)) hb); have n1_ := Aside0.mk (hbox); have n2_ := Aside0.mk ((by rw [hg]; exact (below_size (by repeat (first | (with_reducible first | exact HB.out | apply below_alloc | apply pw_below_drewN | apply below_drew1) | exact HB.out))) : w.heap.size ≤ gb101)); have n3_ := Aside0.mk ((by rw [hg]; exact (below_size (by repeat (first | (with_reducible first | exact HB.out | apply below_alloc | apply pw_below_drewN | apply below_drew1) | exact HB.out))) : w.heap.size ≤ gb101)); clear HB; have HB := n0_; have BK101 := n1_; have GW101 := n2_; have GE101 := n3_; clear n0_ n1_ n2_ n3_; clear hb hbox hg; have hcz6_0 : w5.cell? ⟨gb101, 0, none⟩ = some (.slice A0_0 l0_0.length c0_0) := (blk_cell BK101.out 0).trans rfl; have hcz6_1 : w5.cell? ⟨gb101, 1, none⟩ = some (.slice A0_1 l0_1.length c0_1) := (blk_cell BK101.out 1).trans rfl; have hcz6_2 : w5.cell? ⟨gb101, 2, none⟩ = some (.int .i64 a0_2) := (blk_cell BK101.out 2).trans rfl; have hcz6_3 : w5.cell? ⟨gb101, 3, none⟩ = some (.bool a0_3) := (blk_cell BK101.out 3).trans rfl; have hfz6_0 := blk_frozen BK101.out 0; have hfz6_1 := blk_frozen BK101.out 1; have hfz6_2 := blk_frozen BK101.out 2; have hfz6_3 := blk_frozen BK101.out 3) | (go_at_call 67; (with_reducible refine (impl_Dev_sectors.calls _ _ l0_0 _ _ l0_1 a0_2 a0_3 t102 _ ?side1 ?side2 ?side3 ?side4 A4.out).mono ?_); (case side1 => repeat (first | exact (Kd.C_below HR0_0.out HB.out) | (with_reducible refine Kd.C_alloc ?_ _) | (with_reducible refine Kd.C_drewN ?_ _) | (with_reducible refine Kd.C_drew ?_))); (case side2 => exact HC0_0.out); (case side3 => repeat (first | exact (Kd.C_below HR0_1.out HB.out) | (with_reducible refine Kd.C_alloc ?_ _) | (with_reducible refine Kd.C_drewN ?_ _) | (with_reducible refine Kd.C_drew ?_))); (case side4 => exact HC0_1.out); rintro e w7 ⟨rfl, hb⟩; have n0_ := Aside0.mk (blk_below (g := gb101) (o := .cells #[.slice A0_0 l0_0.length c0_0, .slice A0_1 l0_1.length c0_1, .int .i64 a0_2, .bool a0_3] 35 (0, 0)) (by (with_reducible repeat (first | refine blk_drewN ?_ _ | refine blk_drew ?_ | refine blk_alloc ?_ _)); exact BK101.out) hb); have n1_ := Aside0.mk (below_step (by repeat (first | (with_reducible first | exact HB.out | apply below_alloc | apply pw_below_drewN | apply below_drew1 | refine below_set ?_ GE101.out) | exact HB.out)) hb); clear BK101; clear HB; have BK101 := n0_; have HB := n1_; clear n0_ n1_; (try clear hb); (try clear hb2); (try clear hk); (try clear hi)))
    go_ret
    exact ⟨by first | rfl | (simp [errW_none, errW_some] <;> rfl) | (simp [*, errW_none, errW_some] <;> rfl), by repeat (first | (with_reducible first | exact HB.out | apply below_alloc | apply pw_below_drewN | apply below_drew1 | refine below_set ?_ GE101.out) | exact HB.out)⟩
  · rw [if_neg c3] at H
    have c3b0 : decide (0 ≤ a1) = false := decide_eq_false c3
    clear c3
    obtain rfl := Option.some.inj H
    go_enter Try.func68, Try.ntmps68
    go_wp2_with (first | ((with_reducible refine gate_dst (N := 2) rfl ?_); refine box_event ?hg (N := 2) ?hd (cs := #[.slice A0_0 l0_0.length c0_0, .slice A0_1 l0_1.length c0_1, .int .i64 a0_2, .bool a0_3]) (t := 35) ?hr ?_; (case hd => rfl); (case hg => rfl); (case hr => first | (go_simp; done) | (go_simp; rfl)); intro gb101 hg w8 hbox hb; have n0_ := Aside0.mk (below_step (by repeat (first | (with_reducible first | exact HB.out | apply below_alloc | apply pw_below_drewN | apply below_drew1) | exact HB.out)) hb); have n1_ := Aside0.mk (hbox); have n2_ := Aside0.mk ((by rw [hg]; exact (below_size (by repeat (first | (with_reducible first | exact HB.out | apply below_alloc | apply pw_below_drewN | apply below_drew1) | exact HB.out))) : w.heap.size ≤ gb101)); have n3_ := Aside0.mk ((by rw [hg]; exact (below_size (by repeat (first | (with_reducible first | exact HB.out | apply below_alloc | apply pw_below_drewN | apply below_drew1) | exact HB.out))) : w.heap.size ≤ gb101)); clear HB; have HB := n0_; have BK101 := n1_; have GW101 := n2_; have GE101 := n3_; clear n0_ n1_ n2_ n3_; clear hb hbox hg))
    go_ret
    exact ⟨by first | rfl | (simp [errW_none, errW_some] <;> rfl) | (simp [*, errW_none, errW_some] <;> rfl), by repeat (first | (with_reducible first | exact HB.out | apply below_alloc | apply pw_below_drewN | apply below_drew1 | refine below_set ?_ GE101.out) | exact HB.out)⟩

end Go.Proofs.Ytbdbeccaopphaaa.Q
