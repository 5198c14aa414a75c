/- Part 6 of 8 of the proof that the law FnExactDevCrash returns true at every input. No further condition. -/
import Derived.Test.YtbdbeccaopphaaaMFnExactDevCrash5
namespace Go.Proofs.Ytbdbeccaopphaaa.Q
open Go.RowKit Go.Proofs.YtbdbeccaopphaaaW.PrintWords Go.Proofs.YtbdbeccaopphaaaW.PrintLast Go.Proofs.Ytbdbeccaopphaaa.LK Go.Proofs.YtbdbeccaopphaaaW.PrintMore
attribute [local go_sem] max2_int min2_int max_two min_two max_three min_three max_four min_four   -- for this text's walks alone
set_option linter.unusedVariables false
set_option linter.unusedSimpArgs false

/-! ### impl_ValidDev: function 30 -/
mutual
def impl_ValidDev.j0 : Nat → Bool → List Int → List (S101) → Int → Bool → Option (Bool)
  | 0, _, _, _, _, _ => none
  | k + 1, x19, x102000, x102001, x102002, x102003 => if x19 = true then (some false) else (if (x102001.length : Int) > 1000 then (impl_ValidDev.j1 k true x102000 x102001 x102002 x102003) else (if x102002 < (-1) then (impl_ValidDev.j1 k true x102000 x102001 x102002 x102003) else (impl_ValidDev.j1 k (decide (x102002 > 1000000)) x102000 x102001 x102002 x102003)))
def impl_ValidDev.j1 : Nat → Bool → List Int → List (S101) → Int → Bool → Option (Bool)
  | 0, _, _, _, _, _ => none
  | k + 1, x33, x102000, x102001, x102002, x102003 => if x33 = true then (some false) else (impl_ValidDev.l0 k x102001 (x102001.length : Int) 0 x102000 x102001 x102002 x102003)
def impl_ValidDev.l0 : Nat → List (S101) → Int → Int → List Int → List (S101) → Int → Bool → Option (Bool)
  | 0, _, _, _, _, _, _, _ => none
  | k + 1, x35, x36, x37, x102000, x102001, x102002, x102003 => if x37 < x36 then (if 0 ≤ x37 then (if x37 < (x35.length : Int) then ((impl_Dev_has.f x102000 x102001 x102002 x102003 ((rd_T101 x35 x37).f0)).bind fun t106 => (if t106 = true then (if (((rd_T101 x35 x37).f1).length : Int) = 64 then (impl_ValidDev.l0 k x35 x36 (wrap64 (x37 + 1)) x102000 x102001 x102002 x102003) else (some false)) else (some false))) else (none)) else (none)) else (some true)
end
def impl_ValidDev.f (k : Nat) (l0_0 : List Int) (l0_1 : List (S101)) (a0_2 : Int) (a0_3 : Bool) : Option (Bool) := if ((l0_0.length : Int) % 64) = 0 then ((impl_Dev_sectors.f l0_0 l0_1 a0_2 a0_3).bind fun t102 => (if t102 < 8 then (impl_ValidDev.j0 k true l0_0 l0_1 a0_2 a0_3) else ((impl_Dev_sectors.f l0_0 l0_1 a0_2 a0_3).bind fun t103 => (impl_ValidDev.j0 k (decide (t103 > 256)) l0_0 l0_1 a0_2 a0_3)))) else (impl_ValidDev.j0 k true l0_0 l0_1 a0_2 a0_3)
theorem impl_ValidDev.mono_l : ∀ k, (∀ y0 y1 y2 y3 y4, LeO (impl_ValidDev.j0 k y0 y1 y2 y3 y4) (impl_ValidDev.j0 (k + 1) y0 y1 y2 y3 y4)) ∧ (∀ y0 y1 y2 y3 y4, LeO (impl_ValidDev.j1 k y0 y1 y2 y3 y4) (impl_ValidDev.j1 (k + 1) y0 y1 y2 y3 y4)) ∧ (∀ y0 y1 y2 y3 y4 y5 y6, LeO (impl_ValidDev.l0 k y0 y1 y2 y3 y4 y5 y6) (impl_ValidDev.l0 (k + 1) y0 y1 y2 y3 y4 y5 y6))
  | 0 => ⟨fun _ _ _ _ _ r h => by simp [impl_ValidDev.j0] at h, fun _ _ _ _ _ r h => by simp [impl_ValidDev.j1] at h, fun _ _ _ _ _ _ _ r h => by simp [impl_ValidDev.l0] at h⟩
  | k + 1 => by
    obtain ⟨ih0, ih1, ih2⟩ := impl_ValidDev.mono_l k
    refine ⟨?_, ?_, ?_⟩
    · intro y0 y1 y2 y3 y4
      unfold impl_ValidDev.j0
      repeat' first
      | (with_reducible exact ih0 _ _ _ _ _)
      | (with_reducible exact ih1 _ _ _ _ _)
      | (with_reducible exact ih2 _ _ _ _ _ _ _)
      | (with_reducible exact LeO.refl _)
      | (with_reducible exact LeO.none _)
      | (with_reducible refine LeO.ite ?_ ?_)
      | (with_reducible refine LeO.bind ?_ (fun _ => ?_))
      | exact ih0 _ _ _ _ _
      | exact ih1 _ _ _ _ _
      | exact ih2 _ _ _ _ _ _ _
      | exact LeO.none _
      | refine LeO.ite ?_ ?_
      | refine LeO.bind ?_ (fun _ => ?_)
    · intro y0 y1 y2 y3 y4
      unfold impl_ValidDev.j1
      repeat' first
      | (with_reducible exact ih0 _ _ _ _ _)
      | (with_reducible exact ih1 _ _ _ _ _)
      | (with_reducible exact ih2 _ _ _ _ _ _ _)
      | (with_reducible exact LeO.refl _)
      | (with_reducible exact LeO.none _)
      | (with_reducible refine LeO.ite ?_ ?_)
      | (with_reducible refine LeO.bind ?_ (fun _ => ?_))
      | exact ih0 _ _ _ _ _
      | exact ih1 _ _ _ _ _
      | exact ih2 _ _ _ _ _ _ _
      | exact LeO.none _
      | refine LeO.ite ?_ ?_
      | refine LeO.bind ?_ (fun _ => ?_)
    · intro y0 y1 y2 y3 y4 y5 y6
      unfold impl_ValidDev.l0
      repeat' first
      | (with_reducible exact ih0 _ _ _ _ _)
      | (with_reducible exact ih1 _ _ _ _ _)
      | (with_reducible exact ih2 _ _ _ _ _ _ _)
      | (with_reducible exact LeO.refl _)
      | (with_reducible exact LeO.none _)
      | (with_reducible refine LeO.ite ?_ ?_)
      | (with_reducible refine LeO.bind ?_ (fun _ => ?_))
      | exact ih0 _ _ _ _ _
      | exact ih1 _ _ _ _ _
      | exact ih2 _ _ _ _ _ _ _
      | exact LeO.none _
      | refine LeO.ite ?_ ?_
      | refine LeO.bind ?_ (fun _ => ?_)
theorem impl_ValidDev.mono : ∀ a0 a1 a2 a3 k, LeO (impl_ValidDev.f k a0 a1 a2 a3) (impl_ValidDev.f (k + 1) a0 a1 a2 a3) := by
  intro a0 a1 a2 a3 k
  obtain ⟨ih0, ih1, ih2⟩ := impl_ValidDev.mono_l k
  unfold impl_ValidDev.f
  repeat' first
      | (with_reducible exact ih0 _ _ _ _ _)
      | (with_reducible exact ih1 _ _ _ _ _)
      | (with_reducible exact ih2 _ _ _ _ _ _ _)
      | (with_reducible exact LeO.refl _)
      | (with_reducible exact LeO.none _)
      | (with_reducible refine LeO.ite ?_ ?_)
      | (with_reducible refine LeO.bind ?_ (fun _ => ?_))
      | exact ih0 _ _ _ _ _
      | exact ih1 _ _ _ _ _
      | exact ih2 _ _ _ _ _ _ _
      | exact LeO.none _
      | refine LeO.ite ?_ ?_
      | refine LeO.bind ?_ (fun _ => ?_)
set_option maxHeartbeats 8000000 in
set_option maxRecDepth 100000 in
theorem impl_ValidDev.calls (k : Nat) (A0_0 : Option Addr) (c0_0 : Nat) (l0_0 : List Int) (A0_1 : Option Addr) (c0_1 : Nat) (l0_1 : List (S101)) (a0_2 : Int) (a0_3 : Bool) (r : Bool) (w : World) (hr0_0 : Kd.C (Kd.int .u8) w A0_0 l0_0.length l0_0) (hc0_0 : l0_0.length ≤ c0_0) (hr0_1 : Kd.C k101 w A0_1 l0_1.length l0_1) (hc0_1 : l0_1.length ≤ c0_1) (h : impl_ValidDev.f k l0_0 l0_1 a0_2 a0_3 = some r) :
    Calls Try.prog 30 #[.agg #[.slice A0_0 l0_0.length c0_0, .slice A0_1 l0_1.length c0_1, .int .i64 a0_2, .bool a0_3]] w fun e w' => e = .returned (.bool r) ∧ Below w.heap.size w w' := by
  have hu35 := Try.underlying35
  have hu101 := Try.underlying101
  have HR0_0 := Aside0.mk hr0_0
  have HC0_0 := Aside0.mk hc0_0
  clear hr0_0 hc0_0
  have HR0_1 := Aside0.mk hr0_1
  have HC0_1 := Aside0.mk hc0_1
  clear hr0_1 hc0_1
  have HB := Aside0.mk (Below.refl w.heap.size w)
  have H : (if ((l0_0.length : Int) % 64) = 0 then ((impl_Dev_sectors.f l0_0 l0_1 a0_2 a0_3).bind fun t102 => (if t102 < 8 then (impl_ValidDev.j0 k true l0_0 l0_1 a0_2 a0_3) else ((impl_Dev_sectors.f l0_0 l0_1 a0_2 a0_3).bind fun t103 => (impl_ValidDev.j0 k (decide (t103 > 256)) l0_0 l0_1 a0_2 a0_3)))) else (impl_ValidDev.j0 k true l0_0 l0_1 a0_2 a0_3)) = some r := h
  clear h
  have HC2 := Aside0.mk H
  clear H
  go_enter Try.func30, Try.ntmps30
  go_upto_region 1 with (first | ((with_reducible refine gate_dst (N := 1) rfl ?_); (try (refine gate_guard (by rfl) ?_; dsimp only)); refine box_event ?hg (N := 1) ?hd (cs := #[.slice A0_0 l0_0.length c0_0, .slice A0_1 l0_1.length c0_1, .int .i64 a0_2, .bool a0_3]) (t := 35) ?hr ?_; (case hd => rfl); (case hg => rfl); (case hr => first | (go_simp; done) | (go_simp; rfl)); intro gb101 hg w3 hbox hb; have n0_ := Aside0.mk (below_step (by repeat (first | (with_reducible first | exact HB.out | apply below_alloc | apply pw_below_drewN | apply below_drew1) | exact HB.out)) hb); have n1_ := Aside0.mk (hbox); have n2_ := Aside0.mk ((by rw [hg]; exact (below_size (by repeat (first | (with_reducible first | exact HB.out | apply below_alloc | apply pw_below_drewN | apply below_drew1) | exact HB.out))) : w.heap.size ≤ gb101)); have n3_ := Aside0.mk ((by rw [hg]; exact (below_size (by repeat (first | (with_reducible first | exact HB.out | apply below_alloc | apply pw_below_drewN | apply below_drew1) | exact HB.out))) : w.heap.size ≤ gb101)); clear HB; have HB := n0_; have BK101 := n1_; have GW101 := n2_; have GE101 := n3_; clear n0_ n1_ n2_ n3_; clear hb hbox hg))
  (try simp only [Act.put, List.setIfInBounds_toArray, List.set_cons_zero, List.set_cons_succ])
  go_cut [19] (fun v19 wc => ∃ (kq : Nat) (x19_1 : Bool), v19 = .bool x19_1 ∧ Aside0 (impl_ValidDev.j0 kq x19_1 l0_0 l0_1 a0_2 a0_3 = some r) ∧ Aside0 (kq ≤ k) ∧ Aside0 (wc.heap[gb101]? = some (.cells #[(.slice A0_0 l0_0.length c0_0), (.slice A0_1 l0_1.length c0_1), .int .i64 a0_2, .bool a0_3] 35 (0, 0))) ∧ Aside0 (Below w.heap.size w wc))
  case first =>
    have H := HC2.out
    clear HC2
    by_cases c4 : ((l0_0.length : Int) % 64) = 0
    · rw [if_pos c4] at H
      have c4b0 : (((l0_0.length : Int) % 64) == 0) = true := beq_iff_eq.mpr c4
      have c4b1 : (((l0_0.length : Int) % 64) != 0) = false := bne_eq_false_iff_eq.mpr c4
      clear c4
      (first | rw [c4b0] | (simp only [i64_w, i32_w]; rw [c4b0]) | skip)
      replace H := Option.bind_eq_some_iff.mp H
      obtain ⟨t102, A50, H⟩ := H
      replace H : (if t102 < 8 then (impl_ValidDev.j0 k true l0_0 l0_1 a0_2 a0_3) else ((impl_Dev_sectors.f l0_0 l0_1 a0_2 a0_3).bind fun t103 => (impl_ValidDev.j0 k (decide (t103 > 256)) l0_0 l0_1 a0_2 a0_3))) = some r := H
      have A5 := Aside0.mk A50
      clear A50
      by_cases c6 : t102 < 8
      · rw [if_pos c6] at H
        have c6b0 : decide (t102 < 8) = true := decide_eq_true c6
        clear c6
        have H' := Aside0.mk H
        clear H
        have hcz7_0 : w3.cell? ⟨gb101, 0, none⟩ = some (.slice A0_0 l0_0.length c0_0) := (blk_cell BK101.out 0).trans rfl
        have hcz7_1 : w3.cell? ⟨gb101, 1, none⟩ = some (.slice A0_1 l0_1.length c0_1) := (blk_cell BK101.out 1).trans rfl
        have hcz7_2 : w3.cell? ⟨gb101, 2, none⟩ = some (.int .i64 a0_2) := (blk_cell BK101.out 2).trans rfl
        have hcz7_3 : w3.cell? ⟨gb101, 3, none⟩ = some (.bool a0_3) := (blk_cell BK101.out 3).trans rfl
        have hfz7_0 := blk_frozen BK101.out 0
        have hfz7_1 := blk_frozen BK101.out 1
        have hfz7_2 := blk_frozen BK101.out 2
        have hfz7_3 := blk_frozen BK101.out 3
        go_wp2_with (first | (go_at_call 67; (with_reducible refine (impl_Dev_sectors.calls _ _ l0_0 _ _ l0_1 a0_2 a0_3 t102 _ ?side1 ?side2 ?side3 ?side4 A5.out).mono ?_); (case side1 => repeat (first | exact (Kd.C_below HR0_0.out HB.out) | (with_reducible refine Kd.C_alloc ?_ _) | (with_reducible refine Kd.C_drewN ?_ _) | (with_reducible refine Kd.C_drew ?_))); (case side2 => exact HC0_0.out); (case side3 => repeat (first | exact (Kd.C_below HR0_1.out HB.out) | (with_reducible refine Kd.C_alloc ?_ _) | (with_reducible refine Kd.C_drewN ?_ _) | (with_reducible refine Kd.C_drew ?_))); (case side4 => exact HC0_1.out); rintro e w8 ⟨rfl, hb⟩; have n0_ := Aside0.mk (blk_below (g := gb101) (o := .cells #[.slice A0_0 l0_0.length c0_0, .slice A0_1 l0_1.length c0_1, .int .i64 a0_2, .bool a0_3] 35 (0, 0)) (by (with_reducible repeat (first | refine blk_drewN ?_ _ | refine blk_drew ?_ | refine blk_alloc ?_ _)); exact BK101.out) hb); have n1_ := Aside0.mk (below_step (by repeat (first | (with_reducible first | exact HB.out | apply below_alloc | apply pw_below_drewN | apply below_drew1 | refine below_set ?_ GE101.out) | exact HB.out)) hb); clear BK101; clear HB; have BK101 := n0_; have HB := n1_; clear n0_ n1_; (try clear hb); (try clear hb2); (try clear hk); (try clear hi)))
        go_meet
        case rel => exact ⟨_, (true), (by first | rfl | (simp; done) | (simp [*]; done)), H', ⟨by first | omega | exact Nat.le_refl _⟩, ⟨by (with_reducible repeat (first | refine blk_drewN ?_ _ | refine blk_drew ?_ | refine blk_alloc ?_ _)); exact BK101.out⟩, ⟨by repeat (first | (with_reducible first | exact HB.out | apply below_alloc | apply pw_below_drewN | apply below_drew1 | refine below_set ?_ GE101.out) | exact HB.out)⟩⟩
      · rw [if_neg c6] at H
        have c6b0 : decide (t102 < 8) = false := decide_eq_false c6
        clear c6
        replace H := Option.bind_eq_some_iff.mp H
        obtain ⟨t103, A90, H⟩ := H
        replace H : (impl_ValidDev.j0 k (decide (t103 > 256)) l0_0 l0_1 a0_2 a0_3) = some r := H
        have A9 := Aside0.mk A90
        clear A90
        have H' := Aside0.mk H
        clear H
        have hcz10_0 : w3.cell? ⟨gb101, 0, none⟩ = some (.slice A0_0 l0_0.length c0_0) := (blk_cell BK101.out 0).trans rfl
        have hcz10_1 : w3.cell? ⟨gb101, 1, none⟩ = some (.slice A0_1 l0_1.length c0_1) := (blk_cell BK101.out 1).trans rfl
        have hcz10_2 : w3.cell? ⟨gb101, 2, none⟩ = some (.int .i64 a0_2) := (blk_cell BK101.out 2).trans rfl
        have hcz10_3 : w3.cell? ⟨gb101, 3, none⟩ = some (.bool a0_3) := (blk_cell BK101.out 3).trans rfl
        have hfz10_0 := blk_frozen BK101.out 0
        have hfz10_1 := blk_frozen BK101.out 1
        have hfz10_2 := blk_frozen BK101.out 2
        have hfz10_3 := blk_frozen BK101.out 3
        go_wp2_with (first | (go_at_call 67; (with_reducible refine (impl_Dev_sectors.calls _ _ l0_0 _ _ l0_1 a0_2 a0_3 t102 _ ?side1 ?side2 ?side3 ?side4 A5.out).mono ?_); (case side1 => repeat (first | exact (Kd.C_below HR0_0.out HB.out) | (with_reducible refine Kd.C_alloc ?_ _) | (with_reducible refine Kd.C_drewN ?_ _) | (with_reducible refine Kd.C_drew ?_))); (case side2 => exact HC0_0.out); (case side3 => repeat (first | exact (Kd.C_below HR0_1.out HB.out) | (with_reducible refine Kd.C_alloc ?_ _) | (with_reducible refine Kd.C_drewN ?_ _) | (with_reducible refine Kd.C_drew ?_))); (case side4 => exact HC0_1.out); rintro e w11 ⟨rfl, hb⟩; have n0_ := Aside0.mk (blk_below (g := gb101) (o := .cells #[.slice A0_0 l0_0.length c0_0, .slice A0_1 l0_1.length c0_1, .int .i64 a0_2, .bool a0_3] 35 (0, 0)) (by (with_reducible repeat (first | refine blk_drewN ?_ _ | refine blk_drew ?_ | refine blk_alloc ?_ _)); exact BK101.out) hb); have n1_ := Aside0.mk (below_step (by repeat (first | (with_reducible first | exact HB.out | apply below_alloc | apply pw_below_drewN | apply below_drew1 | refine below_set ?_ GE101.out) | exact HB.out)) hb); clear BK101; clear HB; have BK101 := n0_; have HB := n1_; clear n0_ n1_; (try clear hb); (try clear hb2); (try clear hk); (try clear hi); have hcz12_0 : w11.cell? ⟨gb101, 0, none⟩ = some (.slice A0_0 l0_0.length c0_0) := (blk_cell BK101.out 0).trans rfl; have hcz12_1 : w11.cell? ⟨gb101, 1, none⟩ = some (.slice A0_1 l0_1.length c0_1) := (blk_cell BK101.out 1).trans rfl; have hcz12_2 : w11.cell? ⟨gb101, 2, none⟩ = some (.int .i64 a0_2) := (blk_cell BK101.out 2).trans rfl; have hcz12_3 : w11.cell? ⟨gb101, 3, none⟩ = some (.bool a0_3) := (blk_cell BK101.out 3).trans rfl; have hfz12_0 := blk_frozen BK101.out 0; have hfz12_1 := blk_frozen BK101.out 1; have hfz12_2 := blk_frozen BK101.out 2; have hfz12_3 := blk_frozen BK101.out 3) | (go_at_call 67; (with_reducible refine (impl_Dev_sectors.calls _ _ l0_0 _ _ l0_1 a0_2 a0_3 t103 _ ?side1 ?side2 ?side3 ?side4 A9.out).mono ?_); (case side1 => repeat (first | exact (Kd.C_below HR0_0.out HB.out) | (with_reducible refine Kd.C_alloc ?_ _) | (with_reducible refine Kd.C_drewN ?_ _) | (with_reducible refine Kd.C_drew ?_))); (case side2 => exact HC0_0.out); (case side3 => repeat (first | exact (Kd.C_below HR0_1.out HB.out) | (with_reducible refine Kd.C_alloc ?_ _) | (with_reducible refine Kd.C_drewN ?_ _) | (with_reducible refine Kd.C_drew ?_))); (case side4 => exact HC0_1.out); rintro e w13 ⟨rfl, hb⟩; have n0_ := Aside0.mk (blk_below (g := gb101) (o := .cells #[.slice A0_0 l0_0.length c0_0, .slice A0_1 l0_1.length c0_1, .int .i64 a0_2, .bool a0_3] 35 (0, 0)) (by (with_reducible repeat (first | refine blk_drewN ?_ _ | refine blk_drew ?_ | refine blk_alloc ?_ _)); exact BK101.out) hb); have n1_ := Aside0.mk (below_step (by repeat (first | (with_reducible first | exact HB.out | apply below_alloc | apply pw_below_drewN | apply below_drew1 | refine below_set ?_ GE101.out) | exact HB.out)) hb); clear BK101; clear HB; have BK101 := n0_; have HB := n1_; clear n0_ n1_; (try clear hb); (try clear hb2); (try clear hk); (try clear hi)))
        go_meet
        case rel => exact ⟨_, (decide (t103 > 256)), (by have e_ := Option.some.inj (A5.out.symm.trans A9.out); subst e_; first | rfl | (simp; done) | (simp [*]; done)), H', ⟨by first | omega | exact Nat.le_refl _⟩, ⟨by (with_reducible repeat (first | refine blk_drewN ?_ _ | refine blk_drew ?_ | refine blk_alloc ?_ _)); exact BK101.out⟩, ⟨by repeat (first | (with_reducible first | exact HB.out | apply below_alloc | apply pw_below_drewN | apply below_drew1 | refine below_set ?_ GE101.out) | exact HB.out)⟩⟩
    · rw [if_neg c4] at H
      have c4b0 : (((l0_0.length : Int) % 64) == 0) = false := beq_eq_false_iff_ne.mpr c4
      have c4b1 : (((l0_0.length : Int) % 64) != 0) = true := bne_iff_ne.mpr c4
      (first | rw [c4b0] | (simp only [i64_w, i32_w]; rw [c4b0]) | skip)
      have H' := Aside0.mk H
      clear H
      have hcz14_0 : w3.cell? ⟨gb101, 0, none⟩ = some (.slice A0_0 l0_0.length c0_0) := (blk_cell BK101.out 0).trans rfl
      have hcz14_1 : w3.cell? ⟨gb101, 1, none⟩ = some (.slice A0_1 l0_1.length c0_1) := (blk_cell BK101.out 1).trans rfl
      have hcz14_2 : w3.cell? ⟨gb101, 2, none⟩ = some (.int .i64 a0_2) := (blk_cell BK101.out 2).trans rfl
      have hcz14_3 : w3.cell? ⟨gb101, 3, none⟩ = some (.bool a0_3) := (blk_cell BK101.out 3).trans rfl
      have hfz14_0 := blk_frozen BK101.out 0
      have hfz14_1 := blk_frozen BK101.out 1
      have hfz14_2 := blk_frozen BK101.out 2
      have hfz14_3 := blk_frozen BK101.out 3
      go_wp2
      go_meet
      case rel => exact ⟨_, (true), (by first | rfl | (simp; done) | (simp [*]; done)), H', ⟨by first | omega | exact Nat.le_refl _⟩, ⟨by (with_reducible repeat (first | refine blk_drewN ?_ _ | refine blk_drew ?_ | refine blk_alloc ?_ _)); exact BK101.out⟩, ⟨by repeat (first | (with_reducible first | exact HB.out | apply below_alloc | apply pw_below_drewN | apply below_drew1 | refine below_set ?_ GE101.out) | exact HB.out)⟩⟩
  case rest =>
    clear HC2
    try clear p2
    try clear c3
    try clear c4
    try clear c4b0
    try clear c4b1
    try clear c6
    try clear c6b0
    try clear hcz10_0
    try clear hcz10_1
    try clear hcz10_2
    try clear hcz10_3
    try clear hcz12_0
    try clear hcz12_1
    try clear hcz12_2
    try clear hcz12_3
    try clear hcz14_0
    try clear hcz14_1
    try clear hcz14_2
    try clear hcz14_3
    try clear hcz7_0
    try clear hcz7_1
    try clear hcz7_2
    try clear hcz7_3
    try clear hfz10_0
    try clear hfz10_1
    try clear hfz10_2
    try clear hfz10_3
    try clear hfz12_0
    try clear hfz12_1
    try clear hfz12_2
    try clear hfz12_3
    try clear hfz14_0
    try clear hfz14_1
    try clear hfz14_2
    try clear hfz14_3
    try clear hfz7_0
    try clear hfz7_1
    try clear hfz7_2
    try clear hfz7_3
    obtain ⟨kq, x19_1, rfl, HA, HJ1, BK101, HB⟩ := hcut
    cases kq with
    | zero => exact absurd HA.out (by simp [impl_ValidDev.j0])
    | succ kj1 =>
      have H := HA.out
      clear HA
      simp only [impl_ValidDev.j0] at H
      by_cases c15 : x19_1 = true
      · subst c15
        have H1 : (some false) = some r := by rw [if_pos rfl] at H; exact H
        clear H
        have H := H1
        clear H1
        obtain rfl := Option.some.inj H
        go_wp2
        go_ret
        exact ⟨by first | rfl | (simp [errW_none, errW_some] <;> rfl) | (simp [*, errW_none, errW_some] <;> rfl), by repeat (first | (with_reducible first | exact HB.out | apply below_alloc | apply pw_below_drewN | apply below_drew1 | refine below_set ?_ GE101.out) | exact HB.out)⟩
      · replace c15 := Bool.eq_false_iff.mpr c15
        subst c15
        have H1 : (if (l0_1.length : Int) > 1000 then (impl_ValidDev.j1 kj1 true l0_0 l0_1 a0_2 a0_3) else (if a0_2 < (-1) then (impl_ValidDev.j1 kj1 true l0_0 l0_1 a0_2 a0_3) else (impl_ValidDev.j1 kj1 (decide (a0_2 > 1000000)) l0_0 l0_1 a0_2 a0_3))) = some r := by rw [if_neg (show ¬ (false = true) by decide)] at H; exact H
        clear H
        have H := H1
        clear H1
        have HC16 := Aside0.mk H
        clear H
        go_upto_region 3 with (fail)
        go_cut [33] (fun v33 wc => ∃ (kq : Nat) (x33_15 : Bool), v33 = .bool x33_15 ∧ Aside0 (impl_ValidDev.j1 kq x33_15 l0_0 l0_1 a0_2 a0_3 = some r) ∧ Aside0 (kq ≤ kj1) ∧ Aside0 (wc.heap[gb101]? = some (.cells #[(.slice A0_0 l0_0.length c0_0), (.slice A0_1 l0_1.length c0_1), .int .i64 a0_2, .bool a0_3] 35 (0, 0))) ∧ Aside0 (Below w.heap.size w wc))
        case first =>
          have H := HC16.out
          clear HC16
          by_cases c17 : (l0_1.length : Int) > 1000
          · rw [if_pos c17] at H
            have c17b0 : decide (1000 < (l0_1.length : Int)) = true := decide_eq_true c17
            have c17b1 : decide (1000 < l0_1.length) = true := decide_eq_true (by omega)
            clear c17
            (first | rw [c17b0] | (simp only [i64_w, i32_w]; rw [c17b0]) | skip)
            have H' := Aside0.mk H
            clear H
            have hcz18_0 : wc.cell? ⟨gb101, 0, none⟩ = some (.slice A0_0 l0_0.length c0_0) := (blk_cell BK101.out 0).trans rfl
            have hcz18_1 : wc.cell? ⟨gb101, 1, none⟩ = some (.slice A0_1 l0_1.length c0_1) := (blk_cell BK101.out 1).trans rfl
            have hcz18_2 : wc.cell? ⟨gb101, 2, none⟩ = some (.int .i64 a0_2) := (blk_cell BK101.out 2).trans rfl
            have hcz18_3 : wc.cell? ⟨gb101, 3, none⟩ = some (.bool a0_3) := (blk_cell BK101.out 3).trans rfl
            have hfz18_0 := blk_frozen BK101.out 0
            have hfz18_1 := blk_frozen BK101.out 1
            have hfz18_2 := blk_frozen BK101.out 2
            have hfz18_3 := blk_frozen BK101.out 3
            go_wp2
            go_meet
            case rel => exact ⟨_, (true), (by first | rfl | (simp; done) | (simp [*]; done)), H', ⟨by have := HJ1.out; first | omega | exact Nat.le_refl _⟩, ⟨by (with_reducible repeat (first | refine blk_drewN ?_ _ | refine blk_drew ?_ | refine blk_alloc ?_ _)); exact BK101.out⟩, ⟨by repeat (first | (with_reducible first | exact HB.out | apply below_alloc | apply pw_below_drewN | apply below_drew1 | refine below_set ?_ GE101.out) | exact HB.out)⟩⟩
          · rw [if_neg c17] at H
            have c17b0 : decide (1000 < (l0_1.length : Int)) = false := decide_eq_false c17
            have c17b1 : decide (1000 < l0_1.length) = false := decide_eq_false (by omega)
            clear c17
            (first | rw [c17b0] | (simp only [i64_w, i32_w]; rw [c17b0]) | skip)
            by_cases c19 : a0_2 < (-1)
            · rw [if_pos c19] at H
              have c19b0 : decide (a0_2 < (-1)) = true := decide_eq_true c19
              clear c19
              have H' := Aside0.mk H
              clear H
              have hcz20_0 : wc.cell? ⟨gb101, 0, none⟩ = some (.slice A0_0 l0_0.length c0_0) := (blk_cell BK101.out 0).trans rfl
              have hcz20_1 : wc.cell? ⟨gb101, 1, none⟩ = some (.slice A0_1 l0_1.length c0_1) := (blk_cell BK101.out 1).trans rfl
              have hcz20_2 : wc.cell? ⟨gb101, 2, none⟩ = some (.int .i64 a0_2) := (blk_cell BK101.out 2).trans rfl
              have hcz20_3 : wc.cell? ⟨gb101, 3, none⟩ = some (.bool a0_3) := (blk_cell BK101.out 3).trans rfl
              have hfz20_0 := blk_frozen BK101.out 0
              have hfz20_1 := blk_frozen BK101.out 1
              have hfz20_2 := blk_frozen BK101.out 2
              have hfz20_3 := blk_frozen BK101.out 3
              go_wp2
              go_meet
              case rel => exact ⟨_, (true), (by first | rfl | (simp; done) | (simp [*]; done)), H', ⟨by have := HJ1.out; first | omega | exact Nat.le_refl _⟩, ⟨by (with_reducible repeat (first | refine blk_drewN ?_ _ | refine blk_drew ?_ | refine blk_alloc ?_ _)); exact BK101.out⟩, ⟨by repeat (first | (with_reducible first | exact HB.out | apply below_alloc | apply pw_below_drewN | apply below_drew1 | refine below_set ?_ GE101.out) | exact HB.out)⟩⟩
            · rw [if_neg c19] at H
              have c19b0 : decide (a0_2 < (-1)) = false := decide_eq_false c19
              clear c19
              have H' := Aside0.mk H
              clear H
              have hcz21_0 : wc.cell? ⟨gb101, 0, none⟩ = some (.slice A0_0 l0_0.length c0_0) := (blk_cell BK101.out 0).trans rfl
              have hcz21_1 : wc.cell? ⟨gb101, 1, none⟩ = some (.slice A0_1 l0_1.length c0_1) := (blk_cell BK101.out 1).trans rfl
              have hcz21_2 : wc.cell? ⟨gb101, 2, none⟩ = some (.int .i64 a0_2) := (blk_cell BK101.out 2).trans rfl
              have hcz21_3 : wc.cell? ⟨gb101, 3, none⟩ = some (.bool a0_3) := (blk_cell BK101.out 3).trans rfl
              have hfz21_0 := blk_frozen BK101.out 0
              have hfz21_1 := blk_frozen BK101.out 1
              have hfz21_2 := blk_frozen BK101.out 2
              have hfz21_3 := blk_frozen BK101.out 3
              go_wp2
              go_meet
              case rel => exact ⟨_, (decide (a0_2 > 1000000)), (by first | rfl | (simp; done) | (simp [*]; done)), H', ⟨by have := HJ1.out; first | omega | exact Nat.le_refl _⟩, ⟨by (with_reducible repeat (first | refine blk_drewN ?_ _ | refine blk_drew ?_ | refine blk_alloc ?_ _)); exact BK101.out⟩, ⟨by repeat (first | (with_reducible first | exact HB.out | apply below_alloc | apply pw_below_drewN | apply below_drew1 | refine below_set ?_ GE101.out) | exact HB.out)⟩⟩
        case rest =>
          clear HC16
          try clear c1
          try clear p2
          try clear c3
          try clear c4
          try clear c4b0
          try clear c4b1
          try clear c6
          try clear c6b0
          try clear c15
          try clear c17
          try clear c17b0
          try clear c17b1
          try clear c19
          try clear c19b0
          try clear hcz10_0
          try clear hcz10_1
          try clear hcz10_2
          try clear hcz10_3
          try clear hcz12_0
          try clear hcz12_1
          try clear hcz12_2
          try clear hcz12_3
          try clear hcz14_0
          try clear hcz14_1
          try clear hcz14_2
          try clear hcz14_3
          try clear hcz18_0
          try clear hcz18_1
          try clear hcz18_2
          try clear hcz18_3
          try clear hcz20_0
          try clear hcz20_1
          try clear hcz20_2
          try clear hcz20_3
          try clear hcz21_0
          try clear hcz21_1
          try clear hcz21_2
          try clear hcz21_3
          try clear hcz7_0
          try clear hcz7_1
          try clear hcz7_2
          try clear hcz7_3
          try clear hfz10_0
          try clear hfz10_1
          try clear hfz10_2
          try clear hfz10_3
          try clear hfz12_0
          try clear hfz12_1
          try clear hfz12_2
          try clear hfz12_3
          try clear hfz14_0
          try clear hfz14_1
          try clear hfz14_2
          try clear hfz14_3
          try clear hfz18_0
          try clear hfz18_1
          try clear hfz18_2
          try clear hfz18_3
          try clear hfz20_0
          try clear hfz20_1
          try clear hfz20_2
          try clear hfz20_3
          try clear hfz21_0
          try clear hfz21_1
          try clear hfz21_2
          try clear hfz21_3
          try clear hfz7_0
          try clear hfz7_1
          try clear hfz7_2
          try clear hfz7_3
          try clear p2
          obtain ⟨kq, x33_15, rfl, HA, HJ15, BK101, HB⟩ := hcut
          cases kq with
          | zero => exact absurd HA.out (by simp [impl_ValidDev.j1])
          | succ kj15 =>
            have H := HA.out
            clear HA
            simp only [impl_ValidDev.j1] at H
            by_cases c22 : x33_15 = true
            · subst c22
              have H1 : (some false) = some r := by rw [if_pos rfl] at H; exact H
              clear H
              have H := H1
              clear H1
              obtain rfl := Option.some.inj H
              go_wp2
              go_ret
              exact ⟨by first | rfl | (simp [errW_none, errW_some] <;> rfl) | (simp [*, errW_none, errW_some] <;> rfl), by repeat (first | (with_reducible first | exact HB.out | apply below_alloc | apply pw_below_drewN | apply below_drew1 | refine below_set ?_ GE101.out) | exact HB.out)⟩
            · replace c22 := Bool.eq_false_iff.mpr c22
              subst c22
              have H1 : (impl_ValidDev.l0 kj15 l0_1 (l0_1.length : Int) 0 l0_0 l0_1 a0_2 a0_3) = some r := by rw [if_neg (show ¬ (false = true) by decide)] at H; exact H
              clear H
              have H := H1
              clear H1
              have H' := Aside0.mk H
              clear H
              have hcz23_0 : wc.cell? ⟨gb101, 0, none⟩ = some (.slice A0_0 l0_0.length c0_0) := (blk_cell BK101.out 0).trans rfl
              have hcz23_1 : wc.cell? ⟨gb101, 1, none⟩ = some (.slice A0_1 l0_1.length c0_1) := (blk_cell BK101.out 1).trans rfl
              have hcz23_2 : wc.cell? ⟨gb101, 2, none⟩ = some (.int .i64 a0_2) := (blk_cell BK101.out 2).trans rfl
              have hcz23_3 : wc.cell? ⟨gb101, 3, none⟩ = some (.bool a0_3) := (blk_cell BK101.out 3).trans rfl
              have hfz23_0 := blk_frozen BK101.out 0
              have hfz23_1 := blk_frozen BK101.out 1
              have hfz23_2 := blk_frozen BK101.out 2
              have hfz23_3 := blk_frozen BK101.out 3
              go_wp2
              go_loopg [37] kj15 (fun kq v37 w' => ∃ (x37_3 : Int), v37 = .int .i64 x37_3 ∧ Aside0 (impl_ValidDev.l0 kq l0_1 (l0_1.length : Int) x37_3 l0_0 l0_1 a0_2 a0_3 = some r) ∧ Aside0 (kq ≤ kj15) ∧ Aside0 (w'.heap[gb101]? = some (.cells #[(.slice A0_0 l0_0.length c0_0), (.slice A0_1 l0_1.length c0_1), .int .i64 a0_2, .bool a0_3] 35 (0, 0))) ∧ Aside0 (Below w.heap.size w w'))
              case atStart => exact ⟨(0), (by first | rfl | (simp; done) | (simp [*]; done)), H', ⟨Nat.le_refl _⟩, ⟨by (with_reducible repeat (first | refine blk_drewN ?_ _ | refine blk_drew ?_ | refine blk_alloc ?_ _)); exact BK101.out⟩, ⟨by repeat (first | (with_reducible first | exact HB.out | apply below_alloc | apply pw_below_drewN | apply below_drew1 | refine below_set ?_ GE101.out) | exact HB.out)⟩⟩
              case round =>
                clear H'
                try clear c1
                try clear c2
                try clear p2
                try clear c3
                try clear c4
                try clear c4b0
                try clear c4b1
                try clear c6
                try clear c6b0
                try clear c15
                try clear c17
                try clear c17b0
                try clear c17b1
                try clear c19
                try clear c19b0
                try clear c22
                try clear hcz10_0
                try clear hcz10_1
                try clear hcz10_2
                try clear hcz10_3
                try clear hcz12_0
                try clear hcz12_1
                try clear hcz12_2
                try clear hcz12_3
                try clear hcz14_0
                try clear hcz14_1
                try clear hcz14_2
                try clear hcz14_3
                try clear hcz18_0
                try clear hcz18_1
                try clear hcz18_2
                try clear hcz18_3
                try clear hcz20_0
                try clear hcz20_1
                try clear hcz20_2
                try clear hcz20_3
                try clear hcz21_0
                try clear hcz21_1
                try clear hcz21_2
                try clear hcz21_3
                try clear hcz23_0
                try clear hcz23_1
                try clear hcz23_2
                try clear hcz23_3
                try clear hcz7_0
                try clear hcz7_1
                try clear hcz7_2
                try clear hcz7_3
                try clear hfz10_0
                try clear hfz10_1
                try clear hfz10_2
                try clear hfz10_3
                try clear hfz12_0
                try clear hfz12_1
                try clear hfz12_2
                try clear hfz12_3
                try clear hfz14_0
                try clear hfz14_1
                try clear hfz14_2
                try clear hfz14_3
                try clear hfz18_0
                try clear hfz18_1
                try clear hfz18_2
                try clear hfz18_3
                try clear hfz20_0
                try clear hfz20_1
                try clear hfz20_2
                try clear hfz20_3
                try clear hfz21_0
                try clear hfz21_1
                try clear hfz21_2
                try clear hfz21_3
                try clear hfz23_0
                try clear hfz23_1
                try clear hfz23_2
                try clear hfz23_3
                try clear hfz7_0
                try clear hfz7_1
                try clear hfz7_2
                try clear hfz7_3
                try clear p2
                obtain ⟨x37_3, rfl, HA, HK3, BK101, HB⟩ := hrel
                cases gk with
                | zero => exact absurd HA.out (by simp [impl_ValidDev.l0])
                | succ k3 =>
                  have H := HA.out
                  clear HA
                  simp only [impl_ValidDev.l0] at H
                  by_cases c24 : x37_3 < (l0_1.length : Int)
                  · rw [if_pos c24] at H
                    have c24b0 : decide (x37_3 < (l0_1.length : Int)) = true := decide_eq_true c24
                    clear c24
                    by_cases c25 : 0 ≤ x37_3
                    · rw [if_pos c25] at H
                      have c25b0 : decide (0 ≤ x37_3) = true := decide_eq_true c25
                      clear c25
                      by_cases c26 : x37_3 < (l0_1.length : Int)
                      · rw [if_pos c26] at H
                        have c26b0 : decide (x37_3 < (l0_1.length : Int)) = true := decide_eq_true c26
                        clear c26
                        replace H := Option.bind_eq_some_iff.mp H
                        obtain ⟨t106, A270, H⟩ := H
                        replace H : (if t106 = true then (if (((rd_T101 l0_1 x37_3).f1).length : Int) = 64 then (impl_ValidDev.l0 k3 l0_1 (l0_1.length : Int) (wrap64 (x37_3 + 1)) l0_0 l0_1 a0_2 a0_3) else (some false)) else (some false)) = some r := H
                        have A27 := Aside0.mk A270
                        clear A270
                        by_cases c28 : t106 = true
                        · subst c28
                          have H1 : (if (((rd_T101 l0_1 x37_3).f1).length : Int) = 64 then (impl_ValidDev.l0 k3 l0_1 (l0_1.length : Int) (wrap64 (x37_3 + 1)) l0_0 l0_1 a0_2 a0_3) else (some false)) = some r := by rw [if_pos rfl] at H; exact H
                          clear H
                          have H := H1
                          clear H1
                          by_cases c29 : (((rd_T101 l0_1 x37_3).f1).length : Int) = 64
                          · rw [if_pos c29] at H
                            have c29b0 : ((((rd_T101 l0_1 x37_3).f1).length : Int) == 64) = true := beq_iff_eq.mpr c29
                            have c29b1 : ((((rd_T101 l0_1 x37_3).f1).length : Int) != 64) = false := bne_eq_false_iff_eq.mpr c29
                            clear c29
                            have H' := Aside0.mk H
                            clear H
                            have p104 : 0 ≤ (x37_3 : Int) := of_decide_eq_true (by first | (with_reducible assumption) | assumption)
                            have q104 : x37_3 < (l0_1.length : Int) := of_decide_eq_true (by first | (with_reducible assumption) | assumption)
                            obtain ⟨ad104, A104_1, c104_1, e104, hx104_0, hx104_1, hl104_1, hi104_1⟩ := at_T101 HR0_1.out x37_3 p104 q104
                            cases e104
                            replace hx104_0 := (HB.out.cell (World.block_lt_of_cell? w _ hx104_0)).trans hx104_0
                            replace hx104_1 := (HB.out.cell (World.block_lt_of_cell? w _ hx104_1)).trans hx104_1
                            have HR104_1 := Aside0.mk hi104_1
                            have HC104_1 := Aside0.mk hl104_1
                            clear hi104_1 hl104_1
                            replace p104 := eq_true p104
                            replace q104 := eq_true q104
                            go_wp2_with (first | ((with_reducible refine gate_dst (N := 4) rfl ?_); (try (refine gate_guard (by rfl) ?_; dsimp only)); refine box_event ?hg (N := 4) ?hd (cs := #[.int .i64 0, .slice none 0 0]) (t := 101) ?hr ?_; (case hd => rfl); (case hg => rfl); (case hr => first | (go_simp; done) | (go_simp; rfl)); intro gb105 hg w30 hbox hb; have n0_ := Aside0.mk (blk_below (g := gb101) (o := .cells #[.slice A0_0 l0_0.length c0_0, .slice (some ad104) l0_1.length c0_1, .int .i64 a0_2, .bool a0_3] 35 (0, 0)) (by (with_reducible repeat (first | refine blk_drewN ?_ _ | refine blk_drew ?_ | refine blk_alloc ?_ _)); exact BK101.out) hb); have n1_ := Aside0.mk (below_step (by repeat (first | (with_reducible first | exact HB.out | apply below_alloc | apply pw_below_drewN | apply below_drew1 | refine below_set ?_ GE101.out) | exact HB.out)) hb); have n2_ := Aside0.mk (hbox); have n3_ := Aside0.mk ((by rw [hg]; exact (below_size (by repeat (first | (with_reducible first | exact HB.out | apply below_alloc | apply pw_below_drewN | apply below_drew1 | refine below_set ?_ GE101.out) | exact HB.out))) : w.heap.size ≤ gb105)); have n4_ := Aside0.mk ((by rw [hg]; exact (below_size (by repeat (first | (with_reducible first | exact HB.out | apply below_alloc | apply pw_below_drewN | apply below_drew1 | refine below_set ?_ GE101.out) | exact HB.out))) : w.heap.size ≤ gb105)); have n5_ := Aside0.mk ((by rw [hg]; exact Nat.ne_of_lt (blk_lt (g := gb101) (o := .cells #[.slice A0_0 l0_0.length c0_0, .slice (some ad104) l0_1.length c0_1, .int .i64 a0_2, .bool a0_3] 35 (0, 0)) (by (with_reducible repeat (first | refine blk_drewN ?_ _ | refine blk_drew ?_ | refine blk_alloc ?_ _)); exact BK101.out)) : gb101 ≠ gb105)); have n6_ := Aside0.mk ((by rw [hg]; exact Nat.ne_of_gt (blk_lt (g := gb101) (o := .cells #[.slice A0_0 l0_0.length c0_0, .slice (some ad104) l0_1.length c0_1, .int .i64 a0_2, .bool a0_3] 35 (0, 0)) (by (with_reducible repeat (first | refine blk_drewN ?_ _ | refine blk_drew ?_ | refine blk_alloc ?_ _)); exact BK101.out)) : gb105 ≠ gb101)); clear BK101; clear HB; have BK101 := n0_; have HB := n1_; have BK105 := n2_; have GW105 := n3_; have GE105 := n4_; have NB101_105 := n5_; have NB105_101 := n6_; clear n0_ n1_ n2_ n3_ n4_ n5_ n6_; clear hb hbox hg; have hnb31 := NB105_101.out; have hnc31 := NB101_105.out; have hcz32_0 : w30.cell? ⟨gb105, 0, none⟩ = some (.int .i64 0) := (blk_cell BK105.out 0).trans rfl; have hcz32_1 : w30.cell? ⟨gb105, 1, none⟩ = some (.slice none 0 0) := (blk_cell BK105.out 1).trans rfl; have hfz32_0 := blk_frozen BK105.out 0; have hfz32_1 := blk_frozen BK105.out 1; have hcz33_0 : w30.cell? ⟨gb101, 0, none⟩ = some (.slice A0_0 l0_0.length c0_0) := (blk_cell BK101.out 0).trans rfl; have hcz33_1 : w30.cell? ⟨gb101, 1, none⟩ = some (.slice (some ad104) l0_1.length c0_1) := (blk_cell BK101.out 1).trans rfl; have hcz33_2 : w30.cell? ⟨gb101, 2, none⟩ = some (.int .i64 a0_2) := (blk_cell BK101.out 2).trans rfl; have hcz33_3 : w30.cell? ⟨gb101, 3, none⟩ = some (.bool a0_3) := (blk_cell BK101.out 3).trans rfl; have hfz33_0 := blk_frozen BK101.out 0; have hfz33_1 := blk_frozen BK101.out 1; have hfz33_2 := blk_frozen BK101.out 2; have hfz33_3 := blk_frozen BK101.out 3) | ((with_reducible refine gate_callee (f := 68) rfl ?_); refine goesL_ (some 44) rfl rfl Try.func68 (by kernel_rfl) rfl #[.agg #[.slice A0_0 l0_0.length c0_0, .slice (some ad104) l0_1.length c0_1, .int .i64 a0_2, .bool a0_3], .int .i64 ((rd_T101 l0_1 x37_3).f0)] rfl (by (try simp only [List.map_toArray, List.map_cons, List.map_nil]); first | done | rfl | (simp only [List.length_drop, List.length_take]; rfl)) ?_; (with_reducible refine (impl_Dev_has.calls _ _ l0_0 _ _ l0_1 a0_2 a0_3 ((rd_T101 l0_1 x37_3).f0) true _ ?side1 ?side2 ?side3 ?side4 A27.out).mono ?_); (case side1 => exact Kd.C_below HR0_0.out (by repeat (first | (with_reducible first | exact HB.out | apply below_alloc | apply pw_below_drewN | apply below_drew1 | refine below_set ?_ GE101.out | refine below_set ?_ GE105.out) | exact HB.out))); (case side2 => exact HC0_0.out); (case side3 => exact Kd.C_below HR0_1.out (by repeat (first | (with_reducible first | exact HB.out | apply below_alloc | apply pw_below_drewN | apply below_drew1 | refine below_set ?_ GE101.out | refine below_set ?_ GE105.out) | exact HB.out))); (case side4 => exact HC0_1.out); rintro e w34 ⟨rfl, hb⟩; refine ⟨_, rfl, ?_⟩; have n0_ := Aside0.mk (blk_below (g := gb101) (o := .cells #[.slice A0_0 l0_0.length c0_0, .slice (some ad104) l0_1.length c0_1, .int .i64 a0_2, .bool a0_3] 35 (0, 0)) (by (with_reducible repeat (first | refine blk_drewN ?_ _ | refine blk_drew ?_ | refine blk_alloc ?_ _)); refine blk_far ?_ NB101_105.out _; (with_reducible repeat (first | refine blk_drewN ?_ _ | refine blk_drew ?_ | refine blk_alloc ?_ _)); refine blk_far ?_ NB101_105.out _; (with_reducible repeat (first | refine blk_drewN ?_ _ | refine blk_drew ?_ | refine blk_alloc ?_ _)); exact BK101.out) hb); have n1_ := Aside0.mk (blk_below (g := gb105) (o := .cells #[.int .i64 ((rd_T101 l0_1 x37_3).f0), .slice A104_1 ((rd_T101 l0_1 x37_3).f1).length c104_1] 101 (0, 0)) (by (with_reducible repeat (first | refine blk_drewN ?_ _ | refine blk_drew ?_ | refine blk_alloc ?_ _)); refine blk_put (cs := #[.int .i64 ((rd_T101 l0_1 x37_3).f0), .slice none 0 0]) ?_ 1 _ rfl; (with_reducible repeat (first | refine blk_drewN ?_ _ | refine blk_drew ?_ | refine blk_alloc ?_ _)); refine blk_put (cs := #[.int .i64 0, .slice none 0 0]) ?_ 0 _ rfl; (with_reducible repeat (first | refine blk_drewN ?_ _ | refine blk_drew ?_ | refine blk_alloc ?_ _)); exact BK105.out) hb); have n2_ := Aside0.mk (below_step (by repeat (first | (with_reducible first | exact HB.out | apply below_alloc | apply pw_below_drewN | apply below_drew1 | refine below_set ?_ GE101.out | refine below_set ?_ GE105.out) | exact HB.out)) hb); clear BK101; clear BK105; clear HB; have BK101 := n0_; have BK105 := n1_; have HB := n2_; clear n0_ n1_ n2_; (try clear hb); (try clear hb2); (try clear hk); (try clear hi); have hcz35_0 : w34.cell? ⟨gb105, 0, none⟩ = some (.int .i64 ((rd_T101 l0_1 x37_3).f0)) := (blk_cell BK105.out 0).trans rfl; have hcz35_1 : w34.cell? ⟨gb105, 1, none⟩ = some (.slice A104_1 ((rd_T101 l0_1 x37_3).f1).length c104_1) := (blk_cell BK105.out 1).trans rfl; have hfz35_0 := blk_frozen BK105.out 0; have hfz35_1 := blk_frozen BK105.out 1))
                            go_roundg k3
                            case measure => have := HJ1.out; have := HJ15.out; have := HK3.out; omega
                            case rel => exact ⟨(wrap64 (x37_3 + 1)), (by first | rfl | (simp; done) | (simp [*]; done)), H', ⟨by have := HJ1.out; have := HJ15.out; have := HK3.out; omega⟩, ⟨by (with_reducible repeat (first | refine blk_drewN ?_ _ | refine blk_drew ?_ | refine blk_alloc ?_ _)); exact BK101.out⟩, ⟨by repeat (first | (with_reducible first | exact HB.out | apply below_alloc | apply pw_below_drewN | apply below_drew1 | refine below_set ?_ GE101.out | refine below_set ?_ GE105.out) | exact HB.out)⟩⟩
                          · rw [if_neg c29] at H
                            have c29b0 : ((((rd_T101 l0_1 x37_3).f1).length : Int) == 64) = false := beq_eq_false_iff_ne.mpr c29
                            have c29b1 : ((((rd_T101 l0_1 x37_3).f1).length : Int) != 64) = true := bne_iff_ne.mpr c29
                            obtain rfl := Option.some.inj H
                            have p104 : 0 ≤ (x37_3 : Int) := of_decide_eq_true (by first | (with_reducible assumption) | assumption)
                            have q104 : x37_3 < (l0_1.length : Int) := of_decide_eq_true (by first | (with_reducible assumption) | assumption)
                            obtain ⟨ad104, A104_1, c104_1, e104, hx104_0, hx104_1, hl104_1, hi104_1⟩ := at_T101 HR0_1.out x37_3 p104 q104
                            cases e104
                            replace hx104_0 := (HB.out.cell (World.block_lt_of_cell? w _ hx104_0)).trans hx104_0
                            replace hx104_1 := (HB.out.cell (World.block_lt_of_cell? w _ hx104_1)).trans hx104_1
                            have HR104_1 := Aside0.mk hi104_1
                            have HC104_1 := Aside0.mk hl104_1
                            clear hi104_1 hl104_1
                            replace p104 := eq_true p104
                            replace q104 := eq_true q104
                            go_wp2_with (first | ((with_reducible refine gate_dst (N := 4) rfl ?_); (try (refine gate_guard (by rfl) ?_; dsimp only)); refine box_event ?hg (N := 4) ?hd (cs := #[.int .i64 0, .slice none 0 0]) (t := 101) ?hr ?_; (case hd => rfl); (case hg => rfl); (case hr => first | (go_simp; done) | (go_simp; rfl)); intro gb105 hg w36 hbox hb; have n0_ := Aside0.mk (blk_below (g := gb101) (o := .cells #[.slice A0_0 l0_0.length c0_0, .slice (some ad104) l0_1.length c0_1, .int .i64 a0_2, .bool a0_3] 35 (0, 0)) (by (with_reducible repeat (first | refine blk_drewN ?_ _ | refine blk_drew ?_ | refine blk_alloc ?_ _)); exact BK101.out) hb); have n1_ := Aside0.mk (below_step (by repeat (first | (with_reducible first | exact HB.out | apply below_alloc | apply pw_below_drewN | apply below_drew1 | refine below_set ?_ GE101.out) | exact HB.out)) hb); have n2_ := Aside0.mk (hbox); have n3_ := Aside0.mk ((by rw [hg]; exact (below_size (by repeat (first | (with_reducible first | exact HB.out | apply below_alloc | apply pw_below_drewN | apply below_drew1 | refine below_set ?_ GE101.out) | exact HB.out))) : w.heap.size ≤ gb105)); have n4_ := Aside0.mk ((by rw [hg]; exact (below_size (by repeat (first | (with_reducible first | exact HB.out | apply below_alloc | apply pw_below_drewN | apply below_drew1 | refine below_set ?_ GE101.out) | exact HB.out))) : w.heap.size ≤ gb105)); have n5_ := Aside0.mk ((by rw [hg]; exact Nat.ne_of_lt (blk_lt (g := gb101) (o := .cells #[.slice A0_0 l0_0.length c0_0, .slice (some ad104) l0_1.length c0_1, .int .i64 a0_2, .bool a0_3] 35 (0, 0)) (by (with_reducible repeat (first | refine blk_drewN ?_ _ | refine blk_drew ?_ | refine blk_alloc ?_ _)); exact BK101.out)) : gb101 ≠ gb105)); have n6_ := Aside0.mk ((by rw [hg]; exact Nat.ne_of_gt (blk_lt (g := gb101) (o := .cells #[.slice A0_0 l0_0.length c0_0, .slice (some ad104) l0_1.length c0_1, .int .i64 a0_2, .bool a0_3] 35 (0, 0)) (by (with_reducible repeat (first | refine blk_drewN ?_ _ | refine blk_drew ?_ | refine blk_alloc ?_ _)); exact BK101.out)) : gb105 ≠ gb101)); clear BK101; clear HB; have BK101 := n0_; have HB := n1_; have BK105 := n2_; have GW105 := n3_; have GE105 := n4_; have NB101_105 := n5_; have NB105_101 := n6_; clear n0_ n1_ n2_ n3_ n4_ n5_ n6_; clear hb hbox hg; have hnb37 := NB105_101.out; have hnc37 := NB101_105.out; have hcz38_0 : w36.cell? ⟨gb105, 0, none⟩ = some (.int .i64 0) := (blk_cell BK105.out 0).trans rfl; have hcz38_1 : w36.cell? ⟨gb105, 1, none⟩ = some (.slice none 0 0) := (blk_cell BK105.out 1).trans rfl; have hfz38_0 := blk_frozen BK105.out 0; have hfz38_1 := blk_frozen BK105.out 1; have hcz39_0 : w36.cell? ⟨gb101, 0, none⟩ = some (.slice A0_0 l0_0.length c0_0) := (blk_cell BK101.out 0).trans rfl; have hcz39_1 : w36.cell? ⟨gb101, 1, none⟩ = some (.slice (some ad104) l0_1.length c0_1) := (blk_cell BK101.out 1).trans rfl; have hcz39_2 : w36.cell? ⟨gb101, 2, none⟩ = some (.int .i64 a0_2) := (blk_cell BK101.out 2).trans rfl; have hcz39_3 : w36.cell? ⟨gb101, 3, none⟩ = some (.bool a0_3) := (blk_cell BK101.out 3).trans rfl; have hfz39_0 := blk_frozen BK101.out 0; have hfz39_1 := blk_frozen BK101.out 1; have hfz39_2 := blk_frozen BK101.out 2; have hfz39_3 := blk_frozen BK101.out 3) | ((with_reducible refine gate_callee (f := 68) rfl ?_); refine goesL_ (some 44) rfl rfl Try.func68 (by kernel_rfl) rfl #[.agg #[.slice A0_0 l0_0.length c0_0, .slice (some ad104) l0_1.length c0_1, .int .i64 a0_2, .bool a0_3], .int .i64 ((rd_T101 l0_1 x37_3).f0)] rfl (by (try simp only [List.map_toArray, List.map_cons, List.map_nil]); first | done | rfl | (simp only [List.length_drop, List.length_take]; rfl)) ?_; (with_reducible refine (impl_Dev_has.calls _ _ l0_0 _ _ l0_1 a0_2 a0_3 ((rd_T101 l0_1 x37_3).f0) true _ ?side1 ?side2 ?side3 ?side4 A27.out).mono ?_); (case side1 => exact Kd.C_below HR0_0.out (by repeat (first | (with_reducible first | exact HB.out | apply below_alloc | apply pw_below_drewN | apply below_drew1 | refine below_set ?_ GE101.out | refine below_set ?_ GE105.out) | exact HB.out))); (case side2 => exact HC0_0.out); (case side3 => exact Kd.C_below HR0_1.out (by repeat (first | (with_reducible first | exact HB.out | apply below_alloc | apply pw_below_drewN | apply below_drew1 | refine below_set ?_ GE101.out | refine below_set ?_ GE105.out) | exact HB.out))); (case side4 => exact HC0_1.out); rintro e w40 ⟨rfl, hb⟩; refine ⟨_, rfl, ?_⟩; have n0_ := Aside0.mk (blk_below (g := gb101) (o := .cells #[.slice A0_0 l0_0.length c0_0, .slice (some ad104) l0_1.length c0_1, .int .i64 a0_2, .bool a0_3] 35 (0, 0)) (by (with_reducible repeat (first | refine blk_drewN ?_ _ | refine blk_drew ?_ | refine blk_alloc ?_ _)); refine blk_far ?_ NB101_105.out _; (with_reducible repeat (first | refine blk_drewN ?_ _ | refine blk_drew ?_ | refine blk_alloc ?_ _)); refine blk_far ?_ NB101_105.out _; (with_reducible repeat (first | refine blk_drewN ?_ _ | refine blk_drew ?_ | refine blk_alloc ?_ _)); exact BK101.out) hb); have n1_ := Aside0.mk (blk_below (g := gb105) (o := .cells #[.int .i64 ((rd_T101 l0_1 x37_3).f0), .slice A104_1 ((rd_T101 l0_1 x37_3).f1).length c104_1] 101 (0, 0)) (by (with_reducible repeat (first | refine blk_drewN ?_ _ | refine blk_drew ?_ | refine blk_alloc ?_ _)); refine blk_put (cs := #[.int .i64 ((rd_T101 l0_1 x37_3).f0), .slice none 0 0]) ?_ 1 _ rfl; (with_reducible repeat (first | refine blk_drewN ?_ _ | refine blk_drew ?_ | refine blk_alloc ?_ _)); refine blk_put (cs := #[.int .i64 0, .slice none 0 0]) ?_ 0 _ rfl; (with_reducible repeat (first | refine blk_drewN ?_ _ | refine blk_drew ?_ | refine blk_alloc ?_ _)); exact BK105.out) hb); have n2_ := Aside0.mk (below_step (by repeat (first | (with_reducible first | exact HB.out | apply below_alloc | apply pw_below_drewN | apply below_drew1 | refine below_set ?_ GE101.out | refine below_set ?_ GE105.out) | exact HB.out)) hb); clear BK101; clear BK105; clear HB; have BK101 := n0_; have BK105 := n1_; have HB := n2_; clear n0_ n1_ n2_; (try clear hb); (try clear hb2); (try clear hk); (try clear hi); have hcz41_0 : w40.cell? ⟨gb105, 0, none⟩ = some (.int .i64 ((rd_T101 l0_1 x37_3).f0)) := (blk_cell BK105.out 0).trans rfl; have hcz41_1 : w40.cell? ⟨gb105, 1, none⟩ = some (.slice A104_1 ((rd_T101 l0_1 x37_3).f1).length c104_1) := (blk_cell BK105.out 1).trans rfl; have hfz41_0 := blk_frozen BK105.out 0; have hfz41_1 := blk_frozen BK105.out 1))
                            go_ret
                            exact ⟨by first | rfl | (simp [errW_none, errW_some] <;> rfl) | (simp [*, errW_none, errW_some] <;> rfl), by repeat (first | (with_reducible first | exact HB.out | apply below_alloc | apply pw_below_drewN | apply below_drew1 | refine below_set ?_ GE101.out | refine below_set ?_ GE105.out) | exact HB.out)⟩
                        · replace c28 := Bool.eq_false_iff.mpr c28
                          subst c28
                          have H1 : (some false) = some r := by rw [if_neg (show ¬ (false = true) by decide)] at H; exact H
                          clear H
                          have H := H1
                          clear H1
                          obtain rfl := Option.some.inj H
                          have p104 : 0 ≤ (x37_3 : Int) := of_decide_eq_true (by first | (with_reducible assumption) | assumption)
                          have q104 : x37_3 < (l0_1.length : Int) := of_decide_eq_true (by first | (with_reducible assumption) | assumption)
                          obtain ⟨ad104, A104_1, c104_1, e104, hx104_0, hx104_1, hl104_1, hi104_1⟩ := at_T101 HR0_1.out x37_3 p104 q104
                          cases e104
                          replace hx104_0 := (HB.out.cell (World.block_lt_of_cell? w _ hx104_0)).trans hx104_0
                          replace hx104_1 := (HB.out.cell (World.block_lt_of_cell? w _ hx104_1)).trans hx104_1
                          have HR104_1 := Aside0.mk hi104_1
                          have HC104_1 := Aside0.mk hl104_1
                          clear hi104_1 hl104_1
                          replace p104 := eq_true p104
                          replace q104 := eq_true q104
                          go_wp2_with (first | ((with_reducible refine gate_dst (N := 4) rfl ?_); (try (refine gate_guard (by rfl) ?_; dsimp only)); refine box_event ?hg (N := 4) ?hd (cs := #[.int .i64 0, .slice none 0 0]) (t := 101) ?hr ?_; (case hd => rfl); (case hg => rfl); (case hr => first | (go_simp; done) | (go_simp; rfl)); intro gb105 hg w42 hbox hb; have n0_ := Aside0.mk (blk_below (g := gb101) (o := .cells #[.slice A0_0 l0_0.length c0_0, .slice (some ad104) l0_1.length c0_1, .int .i64 a0_2, .bool a0_3] 35 (0, 0)) (by (with_reducible repeat (first | refine blk_drewN ?_ _ | refine blk_drew ?_ | refine blk_alloc ?_ _)); exact BK101.out) hb); have n1_ := Aside0.mk (below_step (by repeat (first | (with_reducible first | exact HB.out | apply below_alloc | apply pw_below_drewN | apply below_drew1 | refine below_set ?_ GE101.out) | exact HB.out)) hb); have n2_ := Aside0.mk (hbox); have n3_ := Aside0.mk ((by rw [hg]; exact (below_size (by repeat (first | (with_reducible first | exact HB.out | apply below_alloc | apply pw_below_drewN | apply below_drew1 | refine below_set ?_ GE101.out) | exact HB.out))) : w.heap.size ≤ gb105)); have n4_ := Aside0.mk ((by rw [hg]; exact (below_size (by repeat (first | (with_reducible first | exact HB.out | apply below_alloc | apply pw_below_drewN | apply below_drew1 | refine below_set ?_ GE101.out) | exact HB.out))) : w.heap.size ≤ gb105)); have n5_ := Aside0.mk ((by rw [hg]; exact Nat.ne_of_lt (blk_lt (g := gb101) (o := .cells #[.slice A0_0 l0_0.length c0_0, .slice (some ad104) l0_1.length c0_1, .int .i64 a0_2, .bool a0_3] 35 (0, 0)) (by (with_reducible repeat (first | refine blk_drewN ?_ _ | refine blk_drew ?_ | refine blk_alloc ?_ _)); exact BK101.out)) : gb101 ≠ gb105)); have n6_ := Aside0.mk ((by rw [hg]; exact Nat.ne_of_gt (blk_lt (g := gb101) (o := .cells #[.slice A0_0 l0_0.length c0_0, .slice (some ad104) l0_1.length c0_1, .int .i64 a0_2, .bool a0_3] 35 (0, 0)) (by (with_reducible repeat (first | refine blk_drewN ?_ _ | refine blk_drew ?_ | refine blk_alloc ?_ _)); exact BK101.out)) : gb105 ≠ gb101)); clear BK101; clear HB; have BK101 := n0_; have HB := n1_; have BK105 := n2_; have GW105 := n3_; have GE105 := n4_; have NB101_105 := n5_; have NB105_101 := n6_; clear n0_ n1_ n2_ n3_ n4_ n5_ n6_; clear hb hbox hg; have hnb43 := NB105_101.out; have hnc43 := NB101_105.out; have hcz44_0 : w42.cell? ⟨gb105, 0, none⟩ = some (.int .i64 0) := (blk_cell BK105.out 0).trans rfl; have hcz44_1 : w42.cell? ⟨gb105, 1, none⟩ = some (.slice none 0 0) := (blk_cell BK105.out 1).trans rfl; have hfz44_0 := blk_frozen BK105.out 0; have hfz44_1 := blk_frozen BK105.out 1; have hcz45_0 : w42.cell? ⟨gb101, 0, none⟩ = some (.slice A0_0 l0_0.length c0_0) := (blk_cell BK101.out 0).trans rfl; have hcz45_1 : w42.cell? ⟨gb101, 1, none⟩ = some (.slice (some ad104) l0_1.length c0_1) := (blk_cell BK101.out 1).trans rfl; have hcz45_2 : w42.cell? ⟨gb101, 2, none⟩ = some (.int .i64 a0_2) := (blk_cell BK101.out 2).trans rfl; have hcz45_3 : w42.cell? ⟨gb101, 3, none⟩ = some (.bool a0_3) := (blk_cell BK101.out 3).trans rfl; have hfz45_0 := blk_frozen BK101.out 0; have hfz45_1 := blk_frozen BK101.out 1; have hfz45_2 := blk_frozen BK101.out 2; have hfz45_3 := blk_frozen BK101.out 3) | ((with_reducible refine gate_callee (f := 68) rfl ?_); refine goesL_ (some 44) rfl rfl Try.func68 (by kernel_rfl) rfl #[.agg #[.slice A0_0 l0_0.length c0_0, .slice (some ad104) l0_1.length c0_1, .int .i64 a0_2, .bool a0_3], .int .i64 ((rd_T101 l0_1 x37_3).f0)] rfl (by (try simp only [List.map_toArray, List.map_cons, List.map_nil]); first | done | rfl | (simp only [List.length_drop, List.length_take]; rfl)) ?_; (with_reducible refine (impl_Dev_has.calls _ _ l0_0 _ _ l0_1 a0_2 a0_3 ((rd_T101 l0_1 x37_3).f0) false _ ?side1 ?side2 ?side3 ?side4 A27.out).mono ?_); (case side1 => exact Kd.C_below HR0_0.out (by repeat (first | (with_reducible first | exact HB.out | apply below_alloc | apply pw_below_drewN | apply below_drew1 | refine below_set ?_ GE101.out | refine below_set ?_ GE105.out) | exact HB.out))); (case side2 => exact HC0_0.out); (case side3 => exact Kd.C_below HR0_1.out (by repeat (first | (with_reducible first | exact HB.out | apply below_alloc | apply pw_below_drewN | apply below_drew1 | refine below_set ?_ GE101.out | refine below_set ?_ GE105.out) | exact HB.out))); (case side4 => exact HC0_1.out); rintro e w46 ⟨rfl, hb⟩; refine ⟨_, rfl, ?_⟩; have n0_ := Aside0.mk (blk_below (g := gb101) (o := .cells #[.slice A0_0 l0_0.length c0_0, .slice (some ad104) l0_1.length c0_1, .int .i64 a0_2, .bool a0_3] 35 (0, 0)) (by (with_reducible repeat (first | refine blk_drewN ?_ _ | refine blk_drew ?_ | refine blk_alloc ?_ _)); refine blk_far ?_ NB101_105.out _; (with_reducible repeat (first | refine blk_drewN ?_ _ | refine blk_drew ?_ | refine blk_alloc ?_ _)); refine blk_far ?_ NB101_105.out _; (with_reducible repeat (first | refine blk_drewN ?_ _ | refine blk_drew ?_ | refine blk_alloc ?_ _)); exact BK101.out) hb); have n1_ := Aside0.mk (blk_below (g := gb105) (o := .cells #[.int .i64 ((rd_T101 l0_1 x37_3).f0), .slice A104_1 ((rd_T101 l0_1 x37_3).f1).length c104_1] 101 (0, 0)) (by (with_reducible repeat (first | refine blk_drewN ?_ _ | refine blk_drew ?_ | refine blk_alloc ?_ _)); refine blk_put (cs := #[.int .i64 ((rd_T101 l0_1 x37_3).f0), .slice none 0 0]) ?_ 1 _ rfl; (with_reducible repeat (first | refine blk_drewN ?_ _ | refine blk_drew ?_ | refine blk_alloc ?_ _)); refine blk_put (cs := #[.int .i64 0, .slice none 0 0]) ?_ 0 _ rfl; (with_reducible repeat (first | refine blk_drewN ?_ _ | refine blk_drew ?_ | refine blk_alloc ?_ _)); exact BK105.out) hb); have n2_ := Aside0.mk (below_step (by repeat (first | (with_reducible first | exact HB.out | apply below_alloc | apply pw_below_drewN | apply below_drew1 | refine below_set ?_ GE101.out | refine below_set ?_ GE105.out) | exact HB.out)) hb); clear BK101; clear BK105; clear HB; have BK101 := n0_; have BK105 := n1_; have HB := n2_; clear n0_ n1_ n2_; (try clear hb); (try clear hb2); (try clear hk); (try clear hi)))
                          go_ret
                          exact ⟨by first | rfl | (simp [errW_none, errW_some] <;> rfl) | (simp [*, errW_none, errW_some] <;> rfl), by repeat (first | (with_reducible first | exact HB.out | apply below_alloc | apply pw_below_drewN | apply below_drew1 | refine below_set ?_ GE101.out | refine below_set ?_ GE105.out) | exact HB.out)⟩
                      · rw [if_neg c26] at H
                        exact absurd H (by simp)
                    · rw [if_neg c25] at H
                      exact absurd H (by simp)
                  · rw [if_neg c24] at H
                    have c24b0 : decide (x37_3 < (l0_1.length : Int)) = false := decide_eq_false c24
                    clear c24
                    obtain rfl := Option.some.inj H
                    go_wp2
                    go_ret
                    exact ⟨by first | rfl | (simp [errW_none, errW_some] <;> rfl) | (simp [*, errW_none, errW_some] <;> rfl), by repeat (first | (with_reducible first | exact HB.out | apply below_alloc | apply pw_below_drewN | apply below_drew1 | refine below_set ?_ GE101.out) | exact HB.out)⟩

end Go.Proofs.Ytbdbeccaopphaaa.Q
namespace Go.Proofs.Ytbdbeccaopphaaa.P
open Go.RowKit Go.Proofs.YtbdbeccaopphaaaW.PrintWords Go.Proofs.Ytbdbeccaopphaaa.Q
set_option linter.unusedVariables false
set_option linter.unusedSimpArgs false

/-- A pend of a device of n sectors. -/
def okPend (n : Nat) (p : S101) : Bool := decide (0 ≤ p.f0 ∧ p.f0 < n ∧ p.f1.length = 64)
def headDev (l0 : List Int) (l1 : List S101) (a2 : Int) : Prop := l0.length % 64 = 0 ∧ 8 ≤ l0.length / 64 ∧ l0.length / 64 ≤ 256 ∧ l1.length ≤ 1000 ∧ -1 ≤ a2 ∧ a2 ≤ 1000000
instance (l0 : List Int) (l1 : List S101) (a2 : Int) : Decidable (headDev l0 l1 a2) := by unfold headDev; infer_instance
def validDev (l0 : List Int) (l1 : List S101) (a2 : Int) : Bool := decide (headDev l0 l1 a2) && l1.all (okPend (l0.length / 64))
theorem validDev_no {l0 : List Int} {l1 : List S101} {a2 : Int} (h : ¬ headDev l0 l1 a2) : validDev l0 l1 a2 = false := by unfold validDev; rw [decide_eq_false h, Bool.false_and]
theorem validDev_yes {l0 : List Int} {l1 : List S101} {a2 : Int} (h : headDev l0 l1 a2) : validDev l0 l1 a2 = l1.all (okPend (l0.length / 64)) := by unfold validDev; rw [decide_eq_true h, Bool.true_and]
theorem validDev_is {l0 : List Int} {l1 : List S101} {a2 : Int} : validDev l0 l1 a2 = true ↔ headDev l0 l1 a2 ∧ ∀ p ∈ l1, 0 ≤ p.f0 ∧ p.f0 < (l0.length / 64 : Nat) ∧ p.f1.length = 64 := by
  unfold validDev
  rw [Bool.and_eq_true, decide_eq_true_eq, List.all_eq_true]
  simp only [okPend, decide_eq_true_eq]
theorem spec_loop_ev (l0 : List Int) (l1 : List S101) (a2 : Int) (a3 : Bool) (n : Nat) (h : l1.length ≤ 4611686018427387904) (hp : ∀ p ∈ l1, p.f1.length ≤ 9223372036854775807) :
    Ev (fun k => spec_ValidDev.l0 k (n : Int) 0 l0 l1 a2 a3) (l1.all (okPend n)) := by
  refine all_loop (fun k i => spec_ValidDev.l0 k (n : Int) i l0 l1 a2 a3) l1 (okPend n) ?_ ?_
  · intro i p hat hi
    refine ⟨0, fun k _ => ?_⟩
    simp only [spec_ValidDev.l0]
    rw [if_pos (by omega), if_pos (by omega), rdP_at hat, w64s hi h]
    by_cases h1 : p.f0 < 0
    · rw [if_pos h1, if_neg (by simp [okPend]; omega)]
    · rw [if_neg h1]
      by_cases h2 : p.f0 ≥ (n : Int)
      · rw [if_pos h2, if_neg (by simp [okPend]; omega)]
      · rw [if_neg h2]
        by_cases h3 : (p.f1.length : Int) = 64
        · rw [if_pos h3, if_pos (by simp [okPend]; omega)]
        · rw [if_neg h3, if_neg (by simp [okPend]; omega)]
  · intro k
    simp only [spec_ValidDev.l0]
    rw [if_neg (by omega)]
theorem spec_ValidDev_ev (l0 : List Int) (l1 : List S101) (a2 : Int) (a3 : Bool) (h0 : l0.length ≤ 4611686018427387904) (h : l1.length ≤ 4611686018427387904) (hp : ∀ p ∈ l1, p.f1.length ≤ 9223372036854775807) :
    Ev (fun k => spec_ValidDev.f k l0 l1 a2 a3) (validDev l0 l1 a2) := by
  have e : wrap64 ((l0.length : Int) / 64) = ((l0.length / 64 : Nat) : Int) := by rw [w64 (by omega) (by omega)]; omega
  have no : ∀ n : Int, Ev (fun k => spec_ValidDev.j0 k n true l0 l1 a2 a3) false := fun n => Ev.last ⟨0, fun k _ => by simp only [spec_ValidDev.j0]; rw [if_pos trivial]⟩
  simp only [spec_ValidDev.f, spec_l1Sectors.f, Option.bind_some, e]
  clear e
  by_cases h1 : (l0.length : Int) % 64 = 0
  · refine Ev.pos h1 ?_
    by_cases h2 : ((l0.length / 64 : Nat) : Int) < 8
    · rw [validDev_no (by unfold headDev; omega)]
      exact Ev.pos h2 (no _)
    · refine Ev.neg h2 ?_
      by_cases h3 : ((l0.length / 64 : Nat) : Int) > 256
      · rw [validDev_no (by unfold headDev; omega)]
        exact Ev.pos h3 (no _)
      · refine Ev.neg h3 ?_
        by_cases h4 : (l1.length : Int) > 1000
        · rw [validDev_no (by unfold headDev; omega)]
          exact Ev.pos h4 (no _)
        · refine Ev.neg h4 ?_
          by_cases h5 : a2 < -1
          · rw [validDev_no (by unfold headDev; omega)]
            exact Ev.pos h5 (no _)
          · refine Ev.neg h5 ?_
            by_cases h6 : a2 > 1000000
            · rw [validDev_no (by unfold headDev; omega)]
              simp only [h6, decide_true]
              exact no _
            · rw [validDev_yes (by unfold headDev; omega)]
              refine Ev.step ⟨0, fun k _ => ?_⟩ (spec_loop_ev l0 l1 a2 a3 (l0.length / 64) h hp)
              simp only [spec_ValidDev.j0]
              rw [if_neg (by simp; omega)]
  · rw [validDev_no (by unfold headDev; omega)]
    exact Ev.neg h1 (no _)
theorem impl_sectors (l0 : List Int) (l1 : List S101) (a2 : Int) (a3 : Bool) (h0 : l0.length ≤ 4611686018427387904) : impl_Dev_sectors.f l0 l1 a2 a3 = some ((l0.length / 64 : Nat) : Int) := by
  simp only [impl_Dev_sectors.f]
  rw [w64 (by omega) (by omega)]
  congr 1
theorem impl_has (l0 : List Int) (l1 : List S101) (a2 : Int) (a3 : Bool) (s : Int) (h0 : l0.length ≤ 4611686018427387904) : impl_Dev_has.f l0 l1 a2 a3 s = some (decide (0 ≤ s ∧ s < ((l0.length / 64 : Nat) : Int))) := by
  simp only [impl_Dev_has.f, impl_sectors l0 l1 a2 a3 h0, Option.bind_some]
  by_cases h : s ≥ 0
  · rw [if_pos h]
    congr 1
    rw [decide_eq_decide]
    omega
  · rw [if_neg h]
    congr 1
    rw [eq_comm, decide_eq_false_iff_not]
    omega
theorem impl_loop_ev (l0 : List Int) (l1 : List S101) (a2 : Int) (a3 : Bool) (h0 : l0.length ≤ 4611686018427387904) (h : l1.length ≤ 4611686018427387904) (hp : ∀ p ∈ l1, p.f1.length ≤ 9223372036854775807) :
    Ev (fun k => impl_ValidDev.l0 k l1 (l1.length : Int) 0 l0 l1 a2 a3) (l1.all (okPend (l0.length / 64))) := by
  refine all_loop (fun k i => impl_ValidDev.l0 k l1 (l1.length : Int) i l0 l1 a2 a3) l1 (okPend (l0.length / 64)) ?_ ?_
  · intro i p hat hi
    refine ⟨0, fun k _ => ?_⟩
    simp only [impl_ValidDev.l0]
    rw [if_pos (by omega), if_pos (by omega), if_pos (by omega), rdP_at hat, w64s hi h, impl_has l0 l1 a2 a3 _ h0]
    simp only [Option.bind_some]
    by_cases h1 : 0 ≤ p.f0 ∧ p.f0 < ((l0.length / 64 : Nat) : Int)
    · rw [decide_eq_true h1, if_pos rfl]
      by_cases h3 : (p.f1.length : Int) = 64
      · rw [if_pos h3, if_pos (by simp only [okPend, decide_eq_true_eq]; omega)]
      · rw [if_neg h3, if_neg (by simp only [okPend, decide_eq_true_eq]; omega)]
    · rw [decide_eq_false h1, if_neg (by simp), if_neg (by simp only [okPend, decide_eq_true_eq]; omega)]
  · intro k
    simp only [impl_ValidDev.l0]
    rw [if_neg (by omega)]
theorem impl_ValidDev_ev (l0 : List Int) (l1 : List S101) (a2 : Int) (a3 : Bool) (h0 : l0.length ≤ 4611686018427387904) (h : l1.length ≤ 4611686018427387904) (hp : ∀ p ∈ l1, p.f1.length ≤ 9223372036854775807) :
    Ev (fun k => impl_ValidDev.f k l0 l1 a2 a3) (validDev l0 l1 a2) := by
  have no : Ev (fun k => impl_ValidDev.j0 k true l0 l1 a2 a3) false := Ev.last ⟨0, fun k _ => by simp only [impl_ValidDev.j0]; rw [if_pos trivial]⟩
  have no1 : Ev (fun k => impl_ValidDev.j1 k true l0 l1 a2 a3) false := Ev.last ⟨0, fun k _ => by simp only [impl_ValidDev.j1]; rw [if_pos trivial]⟩
  simp only [impl_ValidDev.f, impl_sectors l0 l1 a2 a3 h0, Option.bind_some]
  by_cases h1 : (l0.length : Int) % 64 = 0
  · refine Ev.pos h1 ?_
    by_cases h2 : ((l0.length / 64 : Nat) : Int) < 8
    · rw [validDev_no (by unfold headDev; omega)]
      exact Ev.pos h2 no
    · refine Ev.neg h2 ?_
      by_cases h3 : ((l0.length / 64 : Nat) : Int) > 256
      · rw [validDev_no (by unfold headDev; omega)]
        simp only [h3, decide_true]
        exact no
      · simp only [h3, decide_false]
        by_cases h4 : (l1.length : Int) > 1000
        · rw [validDev_no (by unfold headDev; omega)]
          refine Ev.step ⟨0, fun k _ => ?_⟩ no1
          simp only [impl_ValidDev.j0]
          rw [if_neg (by simp), if_pos h4]
        · by_cases h5 : a2 < -1
          · rw [validDev_no (by unfold headDev; omega)]
            refine Ev.step ⟨0, fun k _ => ?_⟩ no1
            simp only [impl_ValidDev.j0]
            rw [if_neg (by simp), if_neg h4, if_pos h5]
          · by_cases h6 : a2 > 1000000
            · rw [validDev_no (by unfold headDev; omega)]
              refine Ev.step ⟨0, fun k _ => ?_⟩ no1
              simp only [impl_ValidDev.j0]
              rw [if_neg (by simp), if_neg h4, if_neg h5, decide_eq_true h6]
            · rw [validDev_yes (by unfold headDev; omega)]
              refine Ev.step (g := fun k => impl_ValidDev.j1 k false l0 l1 a2 a3) ⟨0, fun k _ => ?_⟩ (Ev.step ⟨0, fun k _ => ?_⟩ (impl_loop_ev l0 l1 a2 a3 h0 h hp))
              · simp only [impl_ValidDev.j0]
                rw [if_neg (by simp), if_neg h4, if_neg h5, decide_eq_false h6]
              · simp only [impl_ValidDev.j1]
                rw [if_neg (by simp)]
  · rw [validDev_no (by unfold headDev; omega)]
    exact Ev.neg h1 no
end Go.Proofs.Ytbdbeccaopphaaa.P
namespace Go.Proofs.Ytbdbeccaopphaaa.Q
open Go.RowKit Go.Proofs.YtbdbeccaopphaaaW.PrintWords Go.Proofs.YtbdbeccaopphaaaW.PrintLast Go.Proofs.YtbdbeccaopphaaaW.PrintMore Go.Proofs.Ytbdbeccaopphaaa.LK
attribute [local go_sem] max2_int min2_int max_two min_two max_three min_three max_four min_four   -- for this text's walks alone
set_option linter.unusedVariables false
set_option linter.unusedSimpArgs false
/-- How much of pend i the crash keeps. -/
def crashN (keep : List Bool) (tear at_ : Int) (i : Nat) : Nat := if (i : Int) = tear then (min (max at_ 0) 64).toNat else if keep.getD i false = true then 64 else 0
/-- The disk behind the first n pends. -/
def crashTo (l : List Int) (ps : List S101) (keep : List Bool) (tear at_ : Int) : Nat → List Int
  | 0 => l
  | n + 1 => match ps[n]? with
    | some p => splice (crashTo l ps keep tear at_ n) (p.f0 * 64).toNat (p.f1.take (crashN keep tear at_ n))
    | none => crashTo l ps keep tear at_ n
theorem crashTo_length (l : List Int) (ps : List S101) (keep : List Bool) (tear at_ : Int) (h : ∀ p ∈ ps, 0 ≤ p.f0 ∧ p.f0 * 64 + p.f1.length ≤ l.length) : ∀ n, (crashTo l ps keep tear at_ n).length = l.length
  | 0 => rfl
  | n + 1 => by
    have ih := crashTo_length l ps keep tear at_ h n
    unfold crashTo
    cases hp : ps[n]? with
    | none => exact ih
    | some p =>
      have h1 := h p (List.mem_of_getElem? hp)
      show (splice _ _ _).length = _
      rw [length_splice _ _ _ (by rw [ih, List.length_take]; omega), ih]
def sizesC (l0 : List Int) (l1 : List S101) (keep : List Bool) : Prop := l0.length ≤ 2097152 ∧ l1.length ≤ 2097152 ∧ (∀ p ∈ l1, p.f1.length ≤ 2097152) ∧ keep.length ≤ 2097152
instance (l0 : List Int) (l1 : List S101) (keep : List Bool) : Decidable (sizesC l0 l1 keep) := by unfold sizesC; infer_instance
def devCrashed (l0 : List Int) (l1 : List S101) (a2 : Int) (keep : List Bool) (tear at_ : Int) : List Int × List S101 × Int × Bool := if P.validDev l0 l1 a2 = true then (crashTo l0 l1 keep tear at_ l1.length, [], -1, false) else ([], [], 0, false)
def impl_DevCrash.f (l0_0 : List Int) (l0_1 : List S101) (a0_2 : Int) (a0_3 : Bool) (l1_0 : List Bool) (a1_1 : Int) (a1_2 : Int) : Option (List Int × List S101 × Int × Bool) :=
  if sizesC l0_0 l0_1 l1_0 then some (devCrashed l0_0 l0_1 a0_2 l1_0 a1_1 a1_2) else none
set_option maxHeartbeats 8000000 in
set_option maxRecDepth 100000 in
theorem impl_DevCrash.calls (A0_0 : Option Addr) (c0_0 : Nat) (l0_0 : List Int) (A0_1 : Option Addr) (c0_1 : Nat) (l0_1 : List S101) (a0_2 : Int) (a0_3 : Bool) (A1_0 : Option Addr) (c1_0 : Nat) (l1_0 : List Bool) (a1_1 : Int) (a1_2 : Int) (r1 : List Int) (r2 : List S101) (r3 : Int) (r4 : Bool) (w : World)
    (hr0_0 : Kd.C (Kd.int .u8) w A0_0 l0_0.length l0_0) (hc0_0 : l0_0.length ≤ c0_0) (hr0_1 : Kd.C k101 w A0_1 l0_1.length l0_1) (hc0_1 : l0_1.length ≤ c0_1) (hr1_0 : Kd.C Kd.bool w A1_0 l1_0.length l1_0) (hc1_0 : l1_0.length ≤ c1_0) (h : impl_DevCrash.f l0_0 l0_1 a0_2 a0_3 l1_0 a1_1 a1_2 = some (r1, r2, r3, r4)) :
    Calls Try.prog 42 #[.agg #[.slice A0_0 l0_0.length c0_0, .slice A0_1 l0_1.length c0_1, .int .i64 a0_2, .bool a0_3], .agg #[.slice A1_0 l1_0.length c1_0, .int .i64 a1_1, .int .i64 a1_2]] w fun e w' => ∃ v0_ v1_ : Value, e = .returned (.agg #[v0_, v1_, .int .i64 r3, .bool r4]) ∧ Kd.R (Kd.int .u8) 5 w' w.heap.size (fun _ => True) v0_ r1 ∧ Kd.S k101 101 w' w.heap.size (fun k_ => some k_ ≠ (v0_ : Value).ownBlock) v1_ r2 ∧ Below w.heap.size w w' := by
  unfold impl_DevCrash.f at h
  by_cases hsz : sizesC l0_0 l0_1 l1_0
  case neg => rw [if_neg hsz] at h; cases h
  rw [if_pos hsz] at h
  have h := Option.some.inj h
  obtain ⟨k, hv⟩ := (P.impl_ValidDev_ev l0_0 l0_1 a0_2 a0_3 (Nat.le_trans hsz.1 (by decide)) (Nat.le_trans hsz.2.1 (by decide)) (fun p hp => Nat.le_trans (hsz.2.2.1 p hp) (by decide))).ex
  have HV := Aside0.mk hv
  have HR0 := Aside0.mk hr0_0
  have HR1 := Aside0.mk hr0_1
  have HRK := Aside0.mk hr1_0
  have HC0 := Aside0.mk hc0_0
  have HC1 := Aside0.mk hc0_1
  have H := Aside0.mk h
  have HSz := Aside0.mk hsz
  have H0 := Aside0.mk (Bx.refl w)
  clear hr0_0 hr0_1 hr1_0 hc0_0 hc0_1 hc1_0 hv h hsz
  go_enter Try.func42, Try.ntmps42
  go_wp2_with (first | ((with_reducible refine gate_dst (N := 2) rfl ?_); refine Aside0.out ?_))
  refine Aside0.mk ?_
  refine mk ?hw1 (N := 2) ?hd1 (cs := #[.slice A0_0 l0_0.length c0_0, .slice A0_1 l0_1.length c0_1, .int .i64 a0_2, .bool a0_3]) (t := 35) ?hr1 ?_
  case hd1 => rfl
  case hw1 => rfl
  case hr1 => first | (go_simp; done) | (go_simp; rfl)
  intro g2 hg2_ w101 hb1 hB1
  have H102 := Aside0.mk (H0.out.new hg2_ hb1 hB1)
  clear hg2_ hb1 hB1 H0
  go_wp2_with (first | ((with_reducible refine gate_dst (N := 3) rfl ?_); refine Aside0.out ?_))
  refine Aside0.mk ?_
  refine mk ?hw3 (N := 3) ?hd3 (cs := #[.slice A1_0 l1_0.length c1_0, .int .i64 a1_1, .int .i64 a1_2]) (t := 58) ?hr3 ?_
  case hd3 => rfl
  case hw3 => rfl
  case hr3 => first | (go_simp; done) | (go_simp; rfl)
  intro g3 hg3_ w103 hb3 hB3
  have H104 := Aside0.mk (H102.out.new hg3_ hb3 hB3)
  clear hg3_ hb3 hB3 H102
  go_wp2_with (first | ((with_reducible refine gate_dst (N := 4) rfl ?_); refine Aside0.out ?_))
  refine Aside0.mk ?_
  refine mk ?hw5 (N := 4) ?hd5 (cs := #[.slice none 0 0, .slice none 0 0, .int .i64 0, .bool false]) (t := 35) ?hr5 ?_
  case hd5 => rfl
  case hw5 => rfl
  case hr5 => first | (go_simp; done) | (go_simp; rfl)
  intro g4 hg4_ w105 hb5 hB5
  have H106 := Aside0.mk (H104.out.new hg4_ hb5 hB5)
  clear hg4_ hb5 hB5 H104
  go_wp2_with (first | ((with_reducible refine gate_dst (N := 9) rfl ?_); refine Aside0.out ?_))
  refine Aside0.mk ?_
  refine ld ?hw7 rfl ?hx7 H106.out.gt2 Try.underlying35 rfl (by kernel_rfl) ?_
  case hw7 => rfl
  case hx7 => rfl
  go_wp2_with (first | ((with_reducible refine gate_callee (f := 30) rfl ?_); refine Aside0.out ?_))
  refine Aside0.mk ?_
  refine goesW (some 10) rfl ?hw8 Try.func30 (by kernel_rfl) rfl #[.agg #[.slice A0_0 l0_0.length c0_0, .slice A0_1 l0_1.length c0_1, .int .i64 a0_2, .bool a0_3]] rfl (by (try simp only [List.map_toArray, List.map_cons, List.map_nil]); first | done | rfl) ?_
  case hw8 => rfl
  refine (impl_ValidDev.calls k _ _ l0_0 _ _ l0_1 a0_2 a0_3 _ _ (Kd.C_below HR0.out H106.out.below) HC0.out (Kd.C_below HR1.out H106.out.below) HC1.out HV.out).mono ?_
  rintro e w108 ⟨rfl, hb_⟩
  refine ⟨_, rfl, ?_⟩
  have H109 := Aside0.mk (H106.out.step hb_)
  clear hb_ H106
  by_cases hval : P.validDev l0_0 l0_1 a0_2 = true
  case neg =>
    rw [Bool.eq_false_iff.mpr hval]
    have HNV := Aside0.mk hval
    clear hval
    go_wp2_with (first | ((with_reducible refine gate_store (t := 35) (p := 4) rfl ?_); refine Aside0.out ?_))
    refine Aside0.mk ?_
    refine st_all ?hw10 ?hN10 rfl ?hp10 (cs := #[.slice none 0 0, .slice none 0 0, .int .i64 0, .bool false]) ?hx10 H109.out.gt0 (by kernel_rfl) rfl (by simp [Value.oneCell']) ?_
    case hw10 => rfl
    case hN10 => rfl
    case hp10 => rfl
    case hx10 => first | rfl | (go_simp; rfl)
    intro w110 hb10 hS10
    have H111 := Aside0.mk (H109.out.wr0 (cs' := #[.slice none 0 0, .slice none 0 0, .int .i64 0, .bool false]) hb10 hS10)
    clear hb10 hS10 H109
    go_wp2
    refine bodyPost_ret (results_cell_row rfl _ _ g4 35 #[.slice none 0 0, .slice none 0 0, .int .i64 0, .bool false] (0, 0) _ rfl H111.out.gt0 Try.underlying35 rfl (by kernel_rfl)) rfl ?_
    have h := H.out
    unfold devCrashed at h
    rw [if_neg HNV.out] at h
    cases h
    exact ⟨_, _, rfl, Kd.R_nil _ _ _ _ _, Kd.S_nil _ _ _ _ _, H111.out.below⟩
  rw [hval]
  have h := H.out
  unfold devCrashed at h
  rw [if_pos hval] at h
  have HF := Aside0.mk h
  have hdv := P.validDev_is.1 hval
  unfold P.headDev at hdv
  have HPs := Aside0.mk hdv.2
  have HHd := Aside0.mk hdv.1
  clear h hval hdv H
  have hd0 : w108.cell? ⟨g2, 0, none⟩ = some (.slice A0_0 l0_0.length c0_0) := (blk_cell H109.out.gt2 0).trans rfl
  go_wp2_with (first | ((with_reducible refine gate_dst (N := 15) rfl ?_); refine Aside0.out ?_))
  refine Aside0.mk ?_
  refine Kd.R_append_rows (Kd.int .u8) (w0 := w108) w108.heap.size rfl (.const (.slice none 0 0)) (.tmp 14) 23 5 (.int .u8 0) 1 rfl Try.underlying23 info5 rfl (by decide) (by omega) (.slice none 0 0) ([] : List Int) l0_0 _ _ _ (fun k_ => w108.heap.size ≤ k_) (fun _ => False) rfl rfl ?aO ?aR (fun _ _ h => h) (fun _ h => h.elim) ?aF ?aB ?aS ?aL ?_
  case aR => exact Kd.C_below HR0.out H109.out.below
  case aF => exact fun _ h => h
  case aB => exact Below.refl _ _
  case aO => exact Kd.R_nil _ _ _ _ _
  case aS => exact Nat.le_refl _
  case aL => have := HSz.out.1; simp only [List.length_nil]; omega
  intro v15 w112 ho hb hg hat
  have hb_ : Below w108.heap.size w108 w112 := ⟨hg.os, hg.tape, hg.output, hg.size, fun i hi => hg.block i hi (by simp [Value.ownBlock])⟩
  rw [List.nil_append] at ho
  obtain ⟨A15, c15, e15⟩ := Kd.R_slice ho
  subst e15
  obtain ⟨B, tl, eA, -, ed, hB1, -, hB2, hB3, hB4⟩ := R_block ho (by have := HHd.out; omega)
  subst eA ed
  have HBmax := Aside0.mk hB4
  have hltg4 := blk_lt H109.out.gt0
  have hltg3 := blk_lt H109.out.gt1
  have hltg2 := blk_lt H109.out.gt2
  have H113 := Aside0.mk (H109.out.step hb_)
  have H114 := Aside0.mk (Bx_add H113.out (B := B) (Nat.le_trans H109.out.below.size hB1) hB3 (by intro b hb; simp only [List.mem_cons, List.not_mem_nil, or_false] at hb; rcases hb with rfl | rfl | rfl <;> (dsimp only; omega)))
  clear H109 H113 ho hb hg hat hb_ hB1 hB2 hB3 hB4 hltg4 hltg3 hltg2 hd0
  go_wp2_with (first | ((with_reducible refine gate_dst (N := 5) rfl ?_); refine Aside0.out ?_))
  refine Aside0.mk ?_
  refine mk ?hw15 (N := 5) ?hd15 (cs := #[.slice none 0 0, .slice none 0 0, .int .i64 0, .bool false]) (t := 35) ?hr15 ?_
  case hd15 => rfl
  case hw15 => rfl
  case hr15 => first | (go_simp; done) | (go_simp; rfl)
  intro g5 hg5_ w115 hb15 hB15
  have H116 := Aside0.mk (H114.out.new hg5_ hb15 hB15)
  clear hg5_ hb15 hB15 H114
  go_wp2_with (first | ((with_reducible refine gate_store (t := 35) (p := 5) rfl ?_); refine Aside0.out ?_))
  refine Aside0.mk ?_
  refine st_all ?hw17 ?hN17 rfl ?hp17 (cs := #[.slice (some ⟨B, 0, none⟩) l0_0.length (l0_0.length + tl.length), .slice none 0 0, .int .i64 (-1), .bool false]) ?hx17 H116.out.gt0 (by kernel_rfl) rfl (by simp [Value.oneCell']) ?_
  case hw17 => rfl
  case hN17 => rfl
  case hp17 => rfl
  case hx17 => first | rfl | (go_simp; rfl)
  intro w117 hb17 hS17
  have H118 := Aside0.mk (H116.out.wr0 (cs' := #[.slice (some ⟨B, 0, none⟩) l0_0.length (l0_0.length + tl.length), .slice none 0 0, .int .i64 (-1), .bool false]) hb17 hS17)
  clear hb17 hS17 H116
  have hd1 : w117.cell? ⟨g2, 1, none⟩ = some (.slice A0_1 l0_1.length c0_1) := (blk_cell H118.out.gt4 1).trans rfl
  go_wp2
  go_loopg [20] (l0_1.length + 1) (fun kq v20 w' => ∃ (i : Nat) (x : Int) (wl : World), v20 = .int .i64 x ∧ Aside0 (wl = w') ∧ Aside0 (x = (i : Int)) ∧ Aside0 (kq + i = l0_1.length + 1) ∧ Aside0 (i ≤ l0_1.length) ∧ Aside0 (Bx w [(g5, #[.slice (some ⟨B, 0, none⟩) l0_0.length (l0_0.length + tl.length), .slice none 0 0, .int .i64 (-1), .bool false], 35), (B, (bytesV (crashTo l0_0 l0_1 l1_0 a1_1 a1_2 i) ++ tl).toArray, 5), (g4, #[.slice none 0 0, .slice none 0 0, .int .i64 0, .bool false], 35), (g3, #[.slice A1_0 l1_0.length c1_0, .int .i64 a1_1, .int .i64 a1_2], 58), (g2, #[.slice A0_0 l0_0.length c0_0, .slice A0_1 l0_1.length c0_1, .int .i64 a0_2, .bool a0_3], 35)] w'))
  case atStart => exact ⟨0, 0, _, rfl, ⟨rfl⟩, ⟨rfl⟩, ⟨by omega⟩, ⟨Nat.zero_le _⟩, H118⟩
  case round =>
    clear H118 hd1
    obtain ⟨i, x, wl, rfl, hwl, HE, HK, HI, HX⟩ := hrel
    obtain ⟨hwl⟩ := hwl
    subst hwl
    have he := HE.out
    cases gk with
    | zero => exact absurd HK.out (by have := HI.out; omega)
    | succ k1 =>
      by_cases c3 : i < l0_1.length
      · have C3 := Aside0.mk c3
        have c3b : decide (x < (l0_1.length : Int)) = true := decide_eq_true (by omega)
        have p5 : (0 ≤ x) = True := eq_true (by omega)
        have q5 : (x < (l0_1.length : Int)) = True := eq_true (by omega)
        have jn : IntKind.i64.wrap (x + 1) = x + 1 := by have := HSz.out.2.1; rw [IntKind.wrap_i64]; omega
        obtain ⟨ad, Ap, cp, eA, hcf0, hcf1, hcp, hCp⟩ := at_T101 HR1.out x (by omega) (by omega)
        subst eA
        replace hcf0 := pw_cell_below HX.out.below hcf0
        replace hcf1 := pw_cell_below HX.out.below hcf1
        have hat : l0_1[i]? = some (rd_T101 l0_1 x) := by rw [he, P.rdP_at (List.getElem?_eq_getElem c3)]; exact List.getElem?_eq_getElem c3
        obtain ⟨p, hp⟩ : ∃ p, p = rd_T101 l0_1 x := ⟨_, rfl⟩
        rw [← hp] at hcf0 hcf1 hcp hCp hat
        have HAt := Aside0.mk hat
        have HCp := Aside0.mk hCp
        have HCpl := Aside0.mk hcp
        have hq := HPs.out p (List.mem_of_getElem? hat)
        have HQ := Aside0.mk hq
        have HHd2 := HHd.out
        have j6 : IntKind.i64.wrap (p.f0 * 64) = p.f0 * 64 := by rw [IntKind.wrap_i64]; omega
        obtain ⟨i5, hi5, _, hsz5, _⟩ := info_parts info5
        have hcut := fun W => cut_block (P := Try.prog) (t := 23) (e := 5) .i64 Try.underlying23 hi5 hsz5 B l0_0.length (l0_0.length + tl.length) (p.f0 * 64) (by omega) (by omega) (by omega) W
        have HLen := Aside0.mk (crashTo_length l0_0 l0_1 l1_0 a1_1 a1_2 (fun q hq => by have h1 := HPs.out q hq; have h2 := HHd.out; omega) i)
        have HStep := Aside0.mk (show crashTo l0_0 l0_1 l1_0 a1_1 a1_2 (i + 1) = splice (crashTo l0_0 l0_1 l1_0 a1_1 a1_2 i) (p.f0 * 64).toNat (p.f1.take (crashN l1_0 a1_1 a1_2 i)) from by rw [crashTo, HAt.out])
        clear c3 hcp hCp hat he hp hq HHd2
        go_wp2_with (first | ((with_reducible refine gate_dst (N := 7) rfl ?_); refine Aside0.out ?_))
        refine Aside0.mk ?_
        refine mk ?hw19 (N := 7) ?hd19 (cs := #[.int .i64 0, .slice none 0 0]) (t := 101) ?hr19 ?_
        case hd19 => rfl
        case hw19 => rfl
        case hr19 => first | (go_simp; done) | (go_simp; rfl)
        intro g7 hg7_ w119 hb19 hB19
        have H120 := Aside0.mk (HX.out.new hg7_ hb19 hB19)
        clear hg7_ hb19 hB19 HX
        clear hcf0 hcf1
        go_wp2_with (first | ((with_reducible refine gate_store (t := 101) (p := 7) rfl ?_); refine Aside0.out ?_))
        refine Aside0.mk ?_
        refine st_all ?hw21 ?hN21 rfl ?hp21 (cs := #[.int .i64 p.f0, .slice Ap p.f1.length cp]) ?hx21 H120.out.gt0 (by kernel_rfl) (rfl) (by simp [Value.oneCell']) ?_
        case hw21 => rfl
        case hN21 => rfl
        case hp21 => rfl
        case hx21 => rfl
        intro w121 hb21 hS21
        have H122 := Aside0.mk (H120.out.wr0 (cs' := #[.int .i64 p.f0, .slice Ap p.f1.length cp]) hb21 hS21)
        clear hb21 hS21 H120
        have hk0 : w121.cell? ⟨g3, 0, none⟩ = some (.slice A1_0 l1_0.length c1_0) := (blk_cell H122.out.gt4 0).trans rfl
        have hk1 : w121.cell? ⟨g3, 1, none⟩ = some (.int .i64 a1_1) := (blk_cell H122.out.gt4 1).trans rfl
        have hk2 : w121.cell? ⟨g3, 2, none⟩ = some (.int .i64 a1_2) := (blk_cell H122.out.gt4 2).trans rfl
        obtain ⟨n, hn⟩ : ∃ n, n = crashN l1_0 a1_1 a1_2 i := ⟨_, rfl⟩
        have hK : (decide (x < (l1_0.length : Int)) = true ∧ ((x < (l1_0.length : Int)) = True) ∧ (∃ ak, A1_0 = some ak ∧ w121.cell? (ak.add x.toNat) = some (.bool true)) ∧ Aside0 (l1_0.getD i false = true)) ∨ (decide (x < (l1_0.length : Int)) = true ∧ ((x < (l1_0.length : Int)) = True) ∧ (∃ ak, A1_0 = some ak ∧ w121.cell? (ak.add x.toNat) = some (.bool false)) ∧ Aside0 (l1_0.getD i false = false)) ∨ (decide (x < (l1_0.length : Int)) = false ∧ Aside0 (l1_0.getD i false = false)) := by
          have he := HE.out
          by_cases c4 : i < l1_0.length
          · obtain ⟨-, -, hkr⟩ := Kd.reads_of_C (enc := Value.bool) (d := false) (h1 := fun _ => rfl) HRK.out
            obtain ⟨ak, eAk, hkc⟩ := hkr (by omega)
            have hck := pw_cell_below H122.out.below (hkc i c4)
            have hxi : x.toNat = i := by omega
            rw [← hxi] at hck
            have c4b : decide (x < (l1_0.length : Int)) = true := decide_eq_true (by omega)
            have c4q : (x < (l1_0.length : Int)) = True := eq_true (by omega)
            cases hkb : l1_0.getD i false with
            | true =>
              rw [hxi, hkb, ← hxi] at hck
              exact .inl ⟨c4b, c4q, ⟨ak, eAk, hck⟩, ⟨rfl⟩⟩
            | false =>
              rw [hxi, hkb, ← hxi] at hck
              exact .inr (.inl ⟨c4b, c4q, ⟨ak, eAk, hck⟩, ⟨rfl⟩⟩)
          · exact .inr (.inr ⟨decide_eq_false (by omega), ⟨by rw [List.getD_eq_getElem?_getD, List.getElem?_eq_none (by omega)]; rfl⟩⟩)
        have hT : ((x == a1_1) = false ∧ Aside0 (n = if l1_0.getD i false = true then 64 else 0)) ∨ ((x == a1_1) = true ∧ ((a1_2 < 0) = True) ∧ Aside0 (n = 0)) ∨ ((x == a1_1) = true ∧ ((a1_2 < 0) = False) ∧ ((64 < a1_2) = True) ∧ Aside0 (n = 64)) ∨ ((x == a1_1) = true ∧ ((a1_2 < 0) = False) ∧ ((64 < a1_2) = False) ∧ Aside0 (n = a1_2.toNat ∧ 0 ≤ a1_2 ∧ a1_2 ≤ 64)) := by
          have he := HE.out
          rw [hn]
          unfold crashN
          by_cases c6 : x = a1_1
          · have c6b : (x == a1_1) = true := beq_iff_eq.mpr c6
            rw [if_pos (by omega)]
            by_cases m1 : a1_2 < 0
            · exact .inr (.inl ⟨c6b, eq_true m1, ⟨by omega⟩⟩)
            · by_cases m2 : 64 < a1_2
              · exact .inr (.inr (.inl ⟨c6b, eq_false m1, eq_true m2, ⟨by omega⟩⟩))
              · exact .inr (.inr (.inr ⟨c6b, eq_false m1, eq_false m2, ⟨⟨by omega, by omega, by omega⟩⟩⟩))
          · rw [if_neg (by omega)]
            exact .inl ⟨beq_eq_false_iff_ne.mpr c6, ⟨rfl⟩⟩
        have HNn := Aside0.mk hn
        have HN64 := Aside0.mk (show n ≤ 64 from by
          rcases hT with ⟨-, h⟩ | ⟨-, -, h⟩ | ⟨-, -, -, h⟩ | ⟨-, -, -, h⟩
          · have := h.out; rw [this]; split <;> omega
          · have := h.out; omega
          · have := h.out; omega
          · have := h.out; omega)
        clear hn
        rcases hK with ⟨c4b, c4q, ⟨ak, eAk, hck⟩, HKV⟩ | ⟨c4b, c4q, ⟨ak, eAk, hck⟩, HKV⟩ | ⟨c4b, HKV⟩
        all_goals rcases hT with ⟨c6b, HT⟩ | ⟨c6b, m1, HT⟩ | ⟨c6b, m1, m2, HT⟩ | ⟨c6b, m1, m2, HT⟩
        all_goals
          try subst eAk
          first
            | have HEq := Aside0.mk (show n = 64 from by have h1 := HT.out; rw [HKV.out] at h1; exact h1)
            | have HEq := Aside0.mk (show n = 0 from by have h1 := HT.out; rw [HKV.out] at h1; exact h1)
            | have HEq := HT
          obtain ⟨-, htr, htl⟩ := print_take_of (P := Try.prog) (Value.int .u8) 0 23 5 .i64 Try.underlying23 hi5 hsz5 Ap cp p.f1 (n : Int) (by omega) (by have := HQ.out; have := HN64.out; omega) HCpl.out
          have HTr := Aside0.mk (Kd.C_of_reads (h1 := fun _ => rfl) (htr _ (Kd.reads_of_C HCp.out)))
          clear htr htl hi5
          go_wp2
          clear hk0 hk1 hk2
          have H124 := Aside0.mk H122.out.drew
          refine start_ (n := 11) (S := fun w' => w'.cell? ⟨g5, 0, none⟩ = some (.slice (some ⟨B, 0, none⟩) l0_0.length (l0_0.length + tl.length)) ∧ w'.cell? ⟨g7, 0, none⟩ = some (.int .i64 p.f0) ∧ w'.cell? ⟨g7, 1, none⟩ = some (.slice Ap p.f1.length cp)) (ds := [10]) #[false, false, false, false, false, false, false, false, false, false, false] (by kernel_rfl) rfl rfl ⟨(blk_cell H124.out.gt1 0).trans rfl, (blk_cell H124.out.gt0 0).trans rfl, (blk_cell H124.out.gt0 1).trans rfl⟩ (fun hHeld => ?_)
          clear H122
          generalize w121.drew = w123 at H124 hHeld ⊢
          refine pure_ (i := 0) (N := some 45) (v := ?_) (a' := ?_) #[true, false, false, false, false, false, false, false, false, false, false] rfl rfl (by kernel_rfl) (fun _ _ _ h => h) (Or.inl ⟨by rfl, ?_⟩) ?_ ?_
          rotate_left
          · intro w'
            go_simp
            with_reducible rfl
          rotate_left
          · simp only [Act.put, List.setIfInBounds_toArray, List.set_cons_zero, List.set_cons_succ, i64_w, i32_w]
            rfl
          refine pure_ (i := 2) (N := some 47) (v := ?_) (a' := ?_) #[true, false, true, false, false, false, false, false, false, false, false] rfl rfl (by kernel_rfl) (fun _ _ _ h => h) (Or.inl ⟨by rfl, ?_⟩) ?_ ?_
          rotate_left
          · intro w'
            go_simp
            with_reducible rfl
          rotate_left
          · simp only [Act.put, List.setIfInBounds_toArray, List.set_cons_zero, List.set_cons_succ, i64_w, i32_w]
            rfl
          refine pure_ (i := 6) (N := some 51) (v := ?_) (a' := ?_) #[true, false, true, false, false, false, true, false, false, false, false] rfl rfl (by kernel_rfl) (fun _ _ _ h => h) (Or.inl ⟨by rfl, ?_⟩) ?_ ?_
          rotate_left
          · intro w'
            go_simp
            with_reducible rfl
          rotate_left
          · simp only [Act.put, List.setIfInBounds_toArray, List.set_cons_zero, List.set_cons_succ, i64_w, i32_w]
            rfl
          refine pure_ (i := 8) (N := some 53) (v := ?_) (a' := ?_) #[true, false, true, false, false, false, true, false, true, false, false] rfl rfl (by kernel_rfl) (fun _ _ _ h => h) (Or.inl ⟨by rfl, ?_⟩) ?_ ?_
          rotate_left
          · intro w'
            go_simp
            with_reducible rfl
          rotate_left
          · simp only [Act.put, List.setIfInBounds_toArray, List.set_cons_zero, List.set_cons_succ, i64_w, i32_w]
            rfl
          refine take_ (i := 1) (N := some 46) (v := ?_) (a' := ?_) #[true, true, true, false, false, false, true, false, true, false, false] rfl rfl (by kernel_rfl) (fun _ _ _ h => h) (Or.inl ⟨by rfl, ?_⟩) hHeld ?_ ?_
          rotate_left
          · rintro w' ⟨s0, s1, s2⟩
            go_simp
            with_reducible rfl
          rotate_left
          · simp only [Act.put, List.setIfInBounds_toArray, List.set_cons_zero, List.set_cons_succ, i64_w, i32_w]
            rfl
          refine take_ (i := 3) (N := some 48) (v := ?_) (a' := ?_) #[true, true, true, true, false, false, true, false, true, false, false] rfl rfl (by kernel_rfl) (fun _ _ _ h => h) (Or.inl ⟨by rfl, ?_⟩) hHeld ?_ ?_
          rotate_left
          · rintro w' ⟨s0, s1, s2⟩
            go_simp
            with_reducible rfl
          rotate_left
          · simp only [Act.put, List.setIfInBounds_toArray, List.set_cons_zero, List.set_cons_succ, i64_w, i32_w]
            rfl
          refine take_ (i := 7) (N := some 52) (v := ?_) (a' := ?_) #[true, true, true, true, false, false, true, true, true, false, false] rfl rfl (by kernel_rfl) (fun _ _ _ h => h) (Or.inl ⟨by rfl, ?_⟩) hHeld ?_ ?_
          rotate_left
          · rintro w' ⟨s0, s1, s2⟩
            go_simp
            with_reducible rfl
          rotate_left
          · simp only [Act.put, List.setIfInBounds_toArray, List.set_cons_zero, List.set_cons_succ, i64_w, i32_w]
            rfl
          refine pure_ (i := 4) (N := some 49) (v := ?_) (a' := ?_) #[true, true, true, true, true, false, true, true, true, false, false] rfl rfl (by kernel_rfl) (fun _ _ _ h => h) (Or.inl ⟨by rfl, ?_⟩) ?_ ?_
          rotate_left
          · intro w'
            go_simp
            with_reducible rfl
          rotate_left
          · simp only [Act.put, List.setIfInBounds_toArray, List.set_cons_zero, List.set_cons_succ, i64_w, i32_w]
            rfl
          refine pure_ (i := 5) (N := some 50) (v := ?_) (a' := ?_) #[true, true, true, true, true, true, true, true, true, false, false] rfl rfl (by kernel_rfl) (fun _ _ _ h => h) (Or.inl ⟨by rfl, ?_⟩) ?_ ?_
          rotate_left
          · intro w'
            go_simp
            first | exact hcut w' | with_reducible rfl | rfl
          rotate_left
          · simp only [Act.put, List.setIfInBounds_toArray, List.set_cons_zero, List.set_cons_succ, i64_w, i32_w]
            rfl
          refine pure_ (i := 9) (N := some 54) (v := ?_) (a' := ?_) #[true, true, true, true, true, true, true, true, true, true, false] rfl rfl (by kernel_rfl) (fun _ _ _ h => h) (Or.inl ⟨by rfl, ?_⟩) ?_ ?_
          rotate_left
          · intro w'
            go_simp
            first | with_reducible rfl | ((repeat rw [if_pos (by have h1 := HEq.out; have h2 := HQ.out; have h3 := HCpl.out; omega)]); try (first | with_reducible rfl | rfl))
          rotate_left
          · simp only [Act.put, List.setIfInBounds_toArray, List.set_cons_zero, List.set_cons_succ, i64_w, i32_w]
            rfl
          refine last_ (i := 10) (N := some 55) #[true, true, true, true, true, true, true, true, true, true, true] rfl rfl (by kernel_rfl) (by decide) (fun K hK => ?_)
          refine copy_step (by rfl) rfl (.tmp 50) (.tmp 54) 23 23 rfl 5 Try.underlying23 (by kernel_rfl) _ _ _ _ _ _ rfl rfl B (p.f0 * 64).toNat (bytesV (crashTo l0_0 l0_1 l1_0 a1_1 a1_2 i) ++ tl) 5 H124.out.gt2 (bytesV (p.f1.take n)) ?cn ?cp ?cf (bytesV_one _) ?_
          case cn => have h0 := HEq.out; have h1 := HQ.out; have h2 := HHd.out; have h3 := HN64.out; rw [bytesV_length, List.length_take]; show _ = min _ _; omega
          case cp =>
            intro hpos
            rw [bytesV_length] at hpos
            obtain ⟨ad2, e2, hc2⟩ := bytes_at (Kd.C_below HTr.out H124.out.below) hpos
            exact ⟨rfl, ad2, e2, hc2⟩
          case cf => have h1 := HQ.out; have h2 := HHd.out; have h3 := HLen.out; rw [List.length_append, bytesV_length, bytesV_length, h3, List.length_take]; omega
          intro w125 hb25 hS25
          replace hb25 := hb25.trans (congrArg (fun z : List Value => some (Obj.cells z.toArray 5 (0, 0))) (bytesV_splice _ _ tl _ (by have h1 := HQ.out; have h2 := HHd.out; have h3 := HLen.out; rw [h3, List.length_take]; omega)))
          rw [show splice (crashTo l0_0 l0_1 l1_0 a1_1 a1_2 i) (p.f0 * 64).toNat (p.f1.take n) = crashTo l0_0 l0_1 l1_0 a1_1 a1_2 (i + 1) from by rw [HStep.out, HNn.out]] at hb25
          have H126 := Aside0.mk (H124.out.wr2 (cs' := (bytesV (crashTo l0_0 l0_1 l1_0 a1_1 a1_2 (i + 1)) ++ tl).toArray) hb25 hS25)
          clear hb25 hS25 H124
          refine hK.out _ _ ?_
          clear hK K
          refine done_ (by kernel_rfl) ?_
          have HZ := Aside0.mk H126.out.tail
          clear H126
          go_wp2
          go_roundg k1
          case measure => omega
          case rel => exact ⟨i + 1, x + 1, _, rfl, ⟨rfl⟩, ⟨by rw [HE.out]; rfl⟩, ⟨by have := HK.out; omega⟩, ⟨by have := C3.out; omega⟩, HZ⟩
      · have c3b : decide (x < (l0_1.length : Int)) = false := decide_eq_false (by omega)
        obtain rfl : i = l0_1.length := by have := HI.out; omega
        go_wp2_with (first | ((with_reducible refine gate_dst (N := 57) rfl ?_); refine Aside0.out ?_))
        refine Aside0.mk ?_
        refine ld ?hw27 rfl ?hx27 HX.out.gt0 Try.underlying35 rfl (by kernel_rfl) ?_
        case hw27 => rfl
        case hx27 => rfl
        go_wp2_with (first | ((with_reducible refine gate_store (t := 35) (p := 4) rfl ?_); refine Aside0.out ?_))
        refine Aside0.mk ?_
        refine st_all ?hw28 ?hN28 rfl ?hp28 (cs := #[.slice (some ⟨B, 0, none⟩) l0_0.length (l0_0.length + tl.length), .slice none 0 0, .int .i64 (-1), .bool false]) ?hx28 HX.out.gt2 (by kernel_rfl) rfl (by simp [Value.oneCell']) ?_
        case hw28 => rfl
        case hN28 => rfl
        case hp28 => rfl
        case hx28 => first | rfl | (go_simp; rfl)
        intro w128 hb28 hS28
        have H129 := Aside0.mk (HX.out.wr2 (cs' := #[.slice (some ⟨B, 0, none⟩) l0_0.length (l0_0.length + tl.length), .slice none 0 0, .int .i64 (-1), .bool false]) hb28 hS28)
        clear hb28 hS28 HX
        go_wp2
        refine bodyPost_ret (results_cell_row rfl _ _ g4 35 #[.slice (some ⟨B, 0, none⟩) l0_0.length (l0_0.length + tl.length), .slice none 0 0, .int .i64 (-1), .bool false] (0, 0) _ rfl H129.out.gt2 Try.underlying35 rfl (by kernel_rfl)) rfl ?_
        have hlen : (crashTo l0_0 l0_1 l1_0 a1_1 a1_2 l0_1.length).length = l0_0.length := crashTo_length _ _ _ _ _ (fun p hp => by have h1 := HPs.out p hp; have h2 := HHd.out; omega) _
        have hR := R_of_block H129.out.gt1 (H129.out.at_ _ (List.mem_cons_of_mem _ (List.mem_cons_self ..))).1 (by rw [hlen]; exact HBmax.out)
        rw [hlen] at hR
        have h := HF.out
        cases h
        exact ⟨_, _, rfl, Kd.R_mono hR (fun _ _ => trivial), Kd.S_nil _ _ _ _ _, H129.out.below⟩
end Go.Proofs.Ytbdbeccaopphaaa.Q
namespace Go.Proofs.Ytbdbeccaopphaaa.Q
open Go.RowKit Go.Proofs.YtbdbeccaopphaaaW.PrintWords Go.Proofs.YtbdbeccaopphaaaW.PrintLast Go.Proofs.YtbdbeccaopphaaaW.PrintMore Go.Proofs.Ytbdbeccaopphaaa.LK
set_option linter.unusedVariables false
theorem mk_laws_markCrash {k b : Nat} {P0 : Nat → Prop} {A0 : Option Addr} {n0 c0 : Nat} {l0 l0' : List Bool} {a1 a2 : Int} {m m' : Int} {w : World} (hbw : b ≤ w.heap.size) (hr : Kd.R Kd.bool 4 w b P0 (.slice A0 n0 c0) l0) (h : laws_markCrash.f k l0 a1 a2 m = some (m', l0')) :
    Calls Try.prog 44 #[.agg #[.slice A0 n0 c0, .int .i64 a1, .int .i64 a2], .int .i64 m] w fun e w' => e = .returned (.int .i64 m') ∧ Kd.R Kd.bool 4 w' b P0 (.slice A0 n0 c0) l0' ∧ Stp P0 w w' := by
  have hs := trunc_size hbw
  have hb := trunc_below hbw
  refine (laws_markCrash.calls k P0 _ l0 a1 a2 m m' l0' (trunc w b) w (by rw [hs]; exact hb) (by rw [hs]; exact hr) h).mono ?_
  rintro e w' ⟨rfl, hr', hb', hk⟩
  rw [hs] at hr' hb'
  exact ⟨rfl, Kd.R_mono (Kd.R_tight rfl hr') (fun q hq => hr.1 q hq.symm), ⟨hb'.os.trans hb.os.symm, hb'.tape.trans hb.tape.symm, hb'.output.trans hb.output.symm, hk.1, hk.2⟩⟩
end Go.Proofs.Ytbdbeccaopphaaa.Q
