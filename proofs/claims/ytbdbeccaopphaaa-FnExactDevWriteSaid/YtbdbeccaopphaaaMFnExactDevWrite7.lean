/- Part 7 of 8 of the proof that the law FnExactDevWrite returns true at every input. No further condition. -/
import Derived.Test.YtbdbeccaopphaaaMFnExactDevWrite6
namespace Go.Proofs.Ytbdbeccaopphaaa.Q
open Go.RowKit Go.Proofs.YtbdbeccaopphaaaW.PrintWords Go.Proofs.YtbdbeccaopphaaaW.PrintLast Go.Proofs.Ytbdbeccaopphaaa.LK Go.Proofs.YtbdbeccaopphaaaW.PrintMore
attribute [local go_sem] max2_int min2_int max_two min_two max_three min_three max_four min_four   -- for this text's walks alone
set_option linter.unusedVariables false
set_option linter.unusedSimpArgs false

/-! ### impl_ValidDev: function 30 -/
mutual
def impl_ValidDev.j0 : Nat → Bool → List Int → List (S101) → Int → Bool → Option (Bool)
  | 0, _, _, _, _, _ => none
  | k + 1, x19, x102000, x102001, x102002, x102003 => if x19 = true then (some false) else (if (x102001.length : Int) > 1000 then (impl_ValidDev.j1 k true x102000 x102001 x102002 x102003) else (if x102002 < (-1) then (impl_ValidDev.j1 k true x102000 x102001 x102002 x102003) else (impl_ValidDev.j1 k (decide (x102002 > 1000000)) x102000 x102001 x102002 x102003)))
def impl_ValidDev.j1 : Nat → Bool → List Int → List (S101) → Int → Bool → Option (Bool)
  | 0, _, _, _, _, _ => none
  | k + 1, x33, x102000, x102001, x102002, x102003 => if x33 = true then (some false) else (impl_ValidDev.l0 k x102001 (x102001.length : Int) 0 x102000 x102001 x102002 x102003)
def impl_ValidDev.l0 : Nat → List (S101) → Int → Int → List Int → List (S101) → Int → Bool → Option (Bool)
  | 0, _, _, _, _, _, _, _ => none
  | k + 1, x35, x36, x37, x102000, x102001, x102002, x102003 => if x37 < x36 then (if 0 ≤ x37 then (if x37 < (x35.length : Int) then ((impl_Dev_has.f x102000 x102001 x102002 x102003 ((rd_T101 x35 x37).f0)).bind fun t106 => (if t106 = true then (if (((rd_T101 x35 x37).f1).length : Int) = 64 then (impl_ValidDev.l0 k x35 x36 (wrap64 (x37 + 1)) x102000 x102001 x102002 x102003) else (some false)) else (some false))) else (none)) else (none)) else (some true)
end
def impl_ValidDev.f (k : Nat) (l0_0 : List Int) (l0_1 : List (S101)) (a0_2 : Int) (a0_3 : Bool) : Option (Bool) := if ((l0_0.length : Int) % 64) = 0 then ((impl_Dev_sectors.f l0_0 l0_1 a0_2 a0_3).bind fun t102 => (if t102 < 8 then (impl_ValidDev.j0 k true l0_0 l0_1 a0_2 a0_3) else ((impl_Dev_sectors.f l0_0 l0_1 a0_2 a0_3).bind fun t103 => (impl_ValidDev.j0 k (decide (t103 > 256)) l0_0 l0_1 a0_2 a0_3)))) else (impl_ValidDev.j0 k true l0_0 l0_1 a0_2 a0_3)
theorem impl_ValidDev.mono_l : ∀ k, (∀ y0 y1 y2 y3 y4, LeO (impl_ValidDev.j0 k y0 y1 y2 y3 y4) (impl_ValidDev.j0 (k + 1) y0 y1 y2 y3 y4)) ∧ (∀ y0 y1 y2 y3 y4, LeO (impl_ValidDev.j1 k y0 y1 y2 y3 y4) (impl_ValidDev.j1 (k + 1) y0 y1 y2 y3 y4)) ∧ (∀ y0 y1 y2 y3 y4 y5 y6, LeO (impl_ValidDev.l0 k y0 y1 y2 y3 y4 y5 y6) (impl_ValidDev.l0 (k + 1) y0 y1 y2 y3 y4 y5 y6))
  | 0 => ⟨fun _ _ _ _ _ r h => by simp [impl_ValidDev.j0] at h, fun _ _ _ _ _ r h => by simp [impl_ValidDev.j1] at h, fun _ _ _ _ _ _ _ r h => by simp [impl_ValidDev.l0] at h⟩
  | k + 1 => by
    obtain ⟨ih0, ih1, ih2⟩ := impl_ValidDev.mono_l k
    refine ⟨?_, ?_, ?_⟩
    · intro y0 y1 y2 y3 y4
      unfold impl_ValidDev.j0
      repeat' first
      | (with_reducible exact ih0 _ _ _ _ _)
      | (with_reducible exact ih1 _ _ _ _ _)
      | (with_reducible exact ih2 _ _ _ _ _ _ _)
      | (with_reducible exact LeO.refl _)
      | (with_reducible exact LeO.none _)
      | (with_reducible refine LeO.ite ?_ ?_)
      | (with_reducible refine LeO.bind ?_ (fun _ => ?_))
      | exact ih0 _ _ _ _ _
      | exact ih1 _ _ _ _ _
      | exact ih2 _ _ _ _ _ _ _
      | exact LeO.none _
      | refine LeO.ite ?_ ?_
      | refine LeO.bind ?_ (fun _ => ?_)
    · intro y0 y1 y2 y3 y4
      unfold impl_ValidDev.j1
      repeat' first
      | (with_reducible exact ih0 _ _ _ _ _)
      | (with_reducible exact ih1 _ _ _ _ _)
      | (with_reducible exact ih2 _ _ _ _ _ _ _)
      | (with_reducible exact LeO.refl _)
      | (with_reducible exact LeO.none _)
      | (with_reducible refine LeO.ite ?_ ?_)
      | (with_reducible refine LeO.bind ?_ (fun _ => ?_))
      | exact ih0 _ _ _ _ _
      | exact ih1 _ _ _ _ _
      | exact ih2 _ _ _ _ _ _ _
      | exact LeO.none _
      | refine LeO.ite ?_ ?_
      | refine LeO.bind ?_ (fun _ => ?_)
    · intro y0 y1 y2 y3 y4 y5 y6
      unfold impl_ValidDev.l0
      repeat' first
      | (with_reducible exact ih0 _ _ _ _ _)
      | (with_reducible exact ih1 _ _ _ _ _)
      | (with_reducible exact ih2 _ _ _ _ _ _ _)
      | (with_reducible exact LeO.refl _)
      | (with_reducible exact LeO.none _)
      | (with_reducible refine LeO.ite ?_ ?_)
      | (with_reducible refine LeO.bind ?_ (fun _ => ?_))
      | exact ih0 _ _ _ _ _
      | exact ih1 _ _ _ _ _
      | exact ih2 _ _ _ _ _ _ _
      | exact LeO.none _
      | refine LeO.ite ?_ ?_
      | refine LeO.bind ?_ (fun _ => ?_)
theorem impl_ValidDev.mono : ∀ a0 a1 a2 a3 k, LeO (impl_ValidDev.f k a0 a1 a2 a3) (impl_ValidDev.f (k + 1) a0 a1 a2 a3) := by
  intro a0 a1 a2 a3 k
  obtain ⟨ih0, ih1, ih2⟩ := impl_ValidDev.mono_l k
  unfold impl_ValidDev.f
  repeat' first
      | (with_reducible exact ih0 _ _ _ _ _)
      | (with_reducible exact ih1 _ _ _ _ _)
      | (with_reducible exact ih2 _ _ _ _ _ _ _)
      | (with_reducible exact LeO.refl _)
      | (with_reducible exact LeO.none _)
      | (with_reducible refine LeO.ite ?_ ?_)
      | (with_reducible refine LeO.bind ?_ (fun _ => ?_))
      | exact ih0 _ _ _ _ _
      | exact ih1 _ _ _ _ _
      | exact ih2 _ _ _ _ _ _ _
      | exact LeO.none _
      | refine LeO.ite ?_ ?_
      | refine LeO.bind ?_ (fun _ => ?_)
set_option maxHeartbeats 8000000 in
set_option maxRecDepth 100000 in
theorem impl_ValidDev.calls (k : Nat) (A0_0 : Option Addr) (c0_0 : Nat) (l0_0 : List Int) (A0_1 : Option Addr) (c0_1 : Nat) (l0_1 : List (S101)) (a0_2 : Int) (a0_3 : Bool) (r : Bool) (w : World) (hr0_0 : Kd.C (Kd.int .u8) w A0_0 l0_0.length l0_0) (hc0_0 : l0_0.length ≤ c0_0) (hr0_1 : Kd.C k101 w A0_1 l0_1.length l0_1) (hc0_1 : l0_1.length ≤ c0_1) (h : impl_ValidDev.f k l0_0 l0_1 a0_2 a0_3 = some r) :
    Calls Try.prog 30 #[.agg #[.slice A0_0 l0_0.length c0_0, .slice A0_1 l0_1.length c0_1, .int .i64 a0_2, .bool a0_3]] w fun e w' => e = .returned (.bool r) ∧ Below w.heap.size w w' := by
  have hu35 := Try.underlying35
  have hu101 := Try.underlying101
  have HR0_0 := Aside0.mk hr0_0
  have HC0_0 := Aside0.mk hc0_0
  clear hr0_0 hc0_0
  have HR0_1 := Aside0.mk hr0_1
  have HC0_1 := Aside0.mk hc0_1
  clear hr0_1 hc0_1
  have HB := Aside0.mk (Below.refl w.heap.size w)
  have H : (if ((l0_0.length : Int) % 64) = 0 then ((impl_Dev_sectors.f l0_0 l0_1 a0_2 a0_3).bind fun t102 => (if t102 < 8 then (impl_ValidDev.j0 k true l0_0 l0_1 a0_2 a0_3) else ((impl_Dev_sectors.f l0_0 l0_1 a0_2 a0_3).bind fun t103 => (impl_ValidDev.j0 k (decide (t103 > 256)) l0_0 l0_1 a0_2 a0_3)))) else (impl_ValidDev.j0 k true l0_0 l0_1 a0_2 a0_3)) = some r := h
  clear h
  have HC2 := Aside0.mk H
  clear H
  go_enter Try.func30, Try.ntmps30
  go_upto_region 1 with (first | ((with_reducible refine gate_dst (N := 1) rfl ?_); (try (refine gate_guard (by rfl) ?_; dsimp only)); refine box_event ?hg (N := 1) ?hd (cs := #[.slice A0_0 l0_0.length c0_0, .slice A0_1 l0_1.length c0_1, .int .i64 a0_2, .bool a0_3]) (t := 35) ?hr ?_; (case hd => rfl); (case hg => rfl); (case hr => first | (go_simp; done) | (go_simp; rfl)); intro gb101 hg w3 hbox hb; have n0_ := Aside0.mk (below_step (by repeat (first | (with_reducible first | exact HB.out | apply below_alloc | apply pw_below_drewN | apply below_drew1) | exact HB.out)) hb); have n1_ := Aside0.mk (hbox); have n2_ := Aside0.mk ((by rw [hg]; exact (below_size (by repeat (first | (with_reducible first | exact HB.out | apply below_alloc | apply pw_below_drewN | apply below_drew1) | exact HB.out))) : w.heap.size ≤ gb101)); have n3_ := Aside0.mk ((by rw [hg]; exact (below_size (by repeat (first | (with_reducible first | exact HB.out | apply below_alloc | apply pw_below_drewN | apply below_drew1) | exact HB.out))) : w.heap.size ≤ gb101)); clear HB; have HB := n0_; have BK101 := n1_; have GW101 := n2_; have GE101 := n3_; clear n0_ n1_ n2_ n3_; clear hb hbox hg))
  (try simp only [Act.put, List.setIfInBounds_toArray, List.set_cons_zero, List.set_cons_succ])
  go_cut [19] (fun v19 wc => ∃ (kq : Nat) (x19_1 : Bool), v19 = .bool x19_1 ∧ Aside0 (impl_ValidDev.j0 kq x19_1 l0_0 l0_1 a0_2 a0_3 = some r) ∧ Aside0 (kq ≤ k) ∧ Aside0 (wc.heap[gb101]? = some (.cells #[(.slice A0_0 l0_0.length c0_0), (.slice A0_1 l0_1.length c0_1), .int .i64 a0_2, .bool a0_3] 35 (0, 0))) ∧ Aside0 (Below w.heap.size w wc))
  case first =>
    have H := HC2.out
    clear HC2
    by_cases c4 : ((l0_0.length : Int) % 64) = 0
    · rw [if_pos c4] at H
      have c4b0 : (((l0_0.length : Int) % 64) == 0) = true := beq_iff_eq.mpr c4
      have c4b1 : (((l0_0.length : Int) % 64) != 0) = false := bne_eq_false_iff_eq.mpr c4
      clear c4
      (first | rw [c4b0] | (simp only [i64_w, i32_w]; rw [c4b0]) | skip)
      replace H := Option.bind_eq_some_iff.mp H
      obtain ⟨t102, A50, H⟩ := H
      replace H : (if t102 < 8 then (impl_ValidDev.j0 k true l0_0 l0_1 a0_2 a0_3) else ((impl_Dev_sectors.f l0_0 l0_1 a0_2 a0_3).bind fun t103 => (impl_ValidDev.j0 k (decide (t103 > 256)) l0_0 l0_1 a0_2 a0_3))) = some r := H
      have A5 := Aside0.mk A50
      clear A50
      by_cases c6 : t102 < 8
      · rw [if_pos c6] at H
        have c6b0 : decide (t102 < 8) = true := decide_eq_true c6
        clear c6
        have H' := Aside0.mk H
        clear H
        have hcz7_0 : w3.cell? ⟨gb101, 0, none⟩ = some (.slice A0_0 l0_0.length c0_0) := (blk_cell BK101.out 0).trans rfl
        have hcz7_1 : w3.cell? ⟨gb101, 1, none⟩ = some (.slice A0_1 l0_1.length c0_1) := (blk_cell BK101.out 1).trans rfl
        have hcz7_2 : w3.cell? ⟨gb101, 2, none⟩ = some (.int .i64 a0_2) := (blk_cell BK101.out 2).trans rfl
        have hcz7_3 : w3.cell? ⟨gb101, 3, none⟩ = some (.bool a0_3) := (blk_cell BK101.out 3).trans rfl
        have hfz7_0 := blk_frozen BK101.out 0
        have hfz7_1 := blk_frozen BK101.out 1
        have hfz7_2 := blk_frozen BK101.out 2
        have hfz7_3 := blk_frozen BK101.out 3
        go_wp2_with (first | (go_at_call 67; (with_reducible refine (impl_Dev_sectors.calls _ _ l0_0 _ _ l0_1 a0_2 a0_3 t102 _ ?side1 ?side2 ?side3 ?side4 A5.out).mono ?_); (case side1 => repeat (first | exact (Kd.C_below HR0_0.out HB.out) | (with_reducible refine Kd.C_alloc ?_ _) | (with_reducible refine Kd.C_drewN ?_ _) | (with_reducible refine Kd.C_drew ?_))); (case side2 => exact HC0_0.out); (case side3 => repeat (first | exact (Kd.C_below HR0_1.out HB.out) | (with_reducible refine Kd.C_alloc ?_ _) | (with_reducible refine Kd.C_drewN ?_ _) | (with_reducible refine Kd.C_drew ?_))); (case side4 => exact HC0_1.out); rintro e w8 ⟨rfl, hb⟩; have n0_ := Aside0.mk (blk_below (g := gb101) (o := .cells #[.slice A0_0 l0_0.length c0_0, .slice A0_1 l0_1.length c0_1, .int .i64 a0_2, .bool a0_3] 35 (0, 0)) (by (with_reducible repeat (first | refine blk_drewN ?_ _ | refine blk_drew ?_ | refine blk_alloc ?_ _)); exact BK101.out) hb); have n1_ := Aside0.mk (below_step (by repeat (first | (with_reducible first | exact HB.out | apply below_alloc | apply pw_below_drewN | apply below_drew1 | refine below_set ?_ GE101.out) | exact HB.out)) hb); clear BK101; clear HB; have BK101 := n0_; have HB := n1_; clear n0_ n1_; (try clear hb); (try clear hb2); (try clear hk); (try clear hi)))
        go_meet
        case rel => exact ⟨_, (true), (by first | rfl | (simp; done) | (simp [*]; done)), H', ⟨by first | omega | exact Nat.le_refl _⟩, ⟨by (with_reducible repeat (first | refine blk_drewN ?_ _ | refine blk_drew ?_ | refine blk_alloc ?_ _)); exact BK101.out⟩, ⟨by repeat (first | (with_reducible first | exact HB.out | apply below_alloc | apply pw_below_drewN | apply below_drew1 | refine below_set ?_ GE101.out) | exact HB.out)⟩⟩
      · rw [if_neg c6] at H
        have c6b0 : decide (t102 < 8) = false := decide_eq_false c6
        clear c6
        replace H := Option.bind_eq_some_iff.mp H
        obtain ⟨t103, A90, H⟩ := H
        replace H : (impl_ValidDev.j0 k (decide (t103 > 256)) l0_0 l0_1 a0_2 a0_3) = some r := H
        have A9 := Aside0.mk A90
        clear A90
        have H' := Aside0.mk H
        clear H
        have hcz10_0 : w3.cell? ⟨gb101, 0, none⟩ = some (.slice A0_0 l0_0.length c0_0) := (blk_cell BK101.out 0).trans rfl
        have hcz10_1 : w3.cell? ⟨gb101, 1, none⟩ = some (.slice A0_1 l0_1.length c0_1) := (blk_cell BK101.out 1).trans rfl
        have hcz10_2 : w3.cell? ⟨gb101, 2, none⟩ = some (.int .i64 a0_2) := (blk_cell BK101.out 2).trans rfl
        have hcz10_3 : w3.cell? ⟨gb101, 3, none⟩ = some (.bool a0_3) := (blk_cell BK101.out 3).trans rfl
        have hfz10_0 := blk_frozen BK101.out 0
        have hfz10_1 := blk_frozen BK101.out 1
        have hfz10_2 := blk_frozen BK101.out 2
        have hfz10_3 := blk_frozen BK101.out 3
        go_wp2_with (first | (go_at_call 67; (with_reducible refine (impl_Dev_sectors.calls _ _ l0_0 _ _ l0_1 a0_2 a0_3 t102 _ ?side1 ?side2 ?side3 ?side4 A5.out).mono ?_); (case side1 => repeat (first | exact (Kd.C_below HR0_0.out HB.out) | (with_reducible refine Kd.C_alloc ?_ _) | (with_reducible refine Kd.C_drewN ?_ _) | (with_reducible refine Kd.C_drew ?_))); (case side2 => exact HC0_0.out); (case side3 => repeat (first | exact (Kd.C_below HR0_1.out HB.out) | (with_reducible refine Kd.C_alloc ?_ _) | (with_reducible refine Kd.C_drewN ?_ _) | (with_reducible refine Kd.C_drew ?_))); (case side4 => exact HC0_1.out); rintro e w11 ⟨rfl, hb⟩; have n0_ := Aside0.mk (blk_below (g := gb101) (o := .cells #[.slice A0_0 l0_0.length c0_0, .slice A0_1 l0_1.length c0_1, .int .i64 a0_2, .bool a0_3] 35 (0, 0)) (by (with_reducible repeat (first | refine blk_drewN ?_ _ | refine blk_drew ?_ | refine blk_alloc ?_ _)); exact BK101.out) hb); have n1_ := Aside0.mk (below_step (by repeat (first | (with_reducible first | exact HB.out | apply below_alloc | apply pw_below_drewN | apply below_drew1 | refine below_set ?_ GE101.out) | exact HB.out)) hb); clear BK101; clear HB; have BK101 := n0_; have HB := n1_; clear n0_ n1_; (try clear hb); (try clear hb2); (try clear hk); (try clear hi); have hcz12_0 : w11.cell? ⟨gb101, 0, none⟩ = some (.slice A0_0 l0_0.length c0_0) := (blk_cell BK101.out 0).trans rfl; have hcz12_1 : w11.cell? ⟨gb101, 1, none⟩ = some (.slice A0_1 l0_1.length c0_1) := (blk_cell BK101.out 1).trans rfl; have hcz12_2 : w11.cell? ⟨gb101, 2, none⟩ = some (.int .i64 a0_2) := (blk_cell BK101.out 2).trans rfl; have hcz12_3 : w11.cell? ⟨gb101, 3, none⟩ = some (.bool a0_3) := (blk_cell BK101.out 3).trans rfl; have hfz12_0 := blk_frozen BK101.out 0; have hfz12_1 := blk_frozen BK101.out 1; have hfz12_2 := blk_frozen BK101.out 2; have hfz12_3 := blk_frozen BK101.out 3) | (go_at_call 67; (with_reducible refine (impl_Dev_sectors.calls _ _ l0_0 _ _ l0_1 a0_2 a0_3 t103 _ ?side1 ?side2 ?side3 ?side4 A9.out).mono ?_); (case side1 => repeat (first | exact (Kd.C_below HR0_0.out HB.out) | (with_reducible refine Kd.C_alloc ?_ _) | (with_reducible refine Kd.C_drewN ?_ _) | (with_reducible refine Kd.C_drew ?_))); (case side2 => exact HC0_0.out); (case side3 => repeat (first | exact (Kd.C_below HR0_1.out HB.out) | (with_reducible refine Kd.C_alloc ?_ _) | (with_reducible refine Kd.C_drewN ?_ _) | (with_reducible refine Kd.C_drew ?_))); (case side4 => exact HC0_1.out); rintro e w13 ⟨rfl, hb⟩; have n0_ := Aside0.mk (blk_below (g := gb101) (o := .cells #[.slice A0_0 l0_0.length c0_0, .slice A0_1 l0_1.length c0_1, .int .i64 a0_2, .bool a0_3] 35 (0, 0)) (by (with_reducible repeat (first | refine blk_drewN ?_ _ | refine blk_drew ?_ | refine blk_alloc ?_ _)); exact BK101.out) hb); have n1_ := Aside0.mk (below_step (by repeat (first | (with_reducible first | exact HB.out | apply below_alloc | apply pw_below_drewN | apply below_drew1 | refine below_set ?_ GE101.out) | exact HB.out)) hb); clear BK101; clear HB; have BK101 := n0_; have HB := n1_; clear n0_ n1_; (try clear hb); (try clear hb2); (try clear hk); (try clear hi)))
        go_meet
        case rel => exact ⟨_, (decide (t103 > 256)), (by have e_ := Option.some.inj (A5.out.symm.trans A9.out); subst e_; first | rfl | (simp; done) | (simp [*]; done)), H', ⟨by first | omega | exact Nat.le_refl _⟩, ⟨by (with_reducible repeat (first | refine blk_drewN ?_ _ | refine blk_drew ?_ | refine blk_alloc ?_ _)); exact BK101.out⟩, ⟨by repeat (first | (with_reducible first | exact HB.out | apply below_alloc | apply pw_below_drewN | apply below_drew1 | refine below_set ?_ GE101.out) | exact HB.out)⟩⟩
    · rw [if_neg c4] at H
      have c4b0 : (((l0_0.length : Int) % 64) == 0) = false := beq_eq_false_iff_ne.mpr c4
      have c4b1 : (((l0_0.length : Int) % 64) != 0) = true := bne_iff_ne.mpr c4
      (first | rw [c4b0] | (simp only [i64_w, i32_w]; rw [c4b0]) | skip)
      have H' := Aside0.mk H
      clear H
      have hcz14_0 : w3.cell? ⟨gb101, 0, none⟩ = some (.slice A0_0 l0_0.length c0_0) := (blk_cell BK101.out 0).trans rfl
      have hcz14_1 : w3.cell? ⟨gb101, 1, none⟩ = some (.slice A0_1 l0_1.length c0_1) := (blk_cell BK101.out 1).trans rfl
      have hcz14_2 : w3.cell? ⟨gb101, 2, none⟩ = some (.int .i64 a0_2) := (blk_cell BK101.out 2).trans rfl
      have hcz14_3 : w3.cell? ⟨gb101, 3, none⟩ = some (.bool a0_3) := (blk_cell BK101.out 3).trans rfl
      have hfz14_0 := blk_frozen BK101.out 0
      have hfz14_1 := blk_frozen BK101.out 1
      have hfz14_2 := blk_frozen BK101.out 2
      have hfz14_3 := blk_frozen BK101.out 3
      go_wp2
      go_meet
      case rel => exact ⟨_, (true), (by first | rfl | (simp; done) | (simp [*]; done)), H', ⟨by first | omega | exact Nat.le_refl _⟩, ⟨by (with_reducible repeat (first | refine blk_drewN ?_ _ | refine blk_drew ?_ | refine blk_alloc ?_ _)); exact BK101.out⟩, ⟨by repeat (first | (with_reducible first | exact HB.out | apply below_alloc | apply pw_below_drewN | apply below_drew1 | refine below_set ?_ GE101.out) | exact HB.out)⟩⟩
  case rest =>
    clear HC2
    try clear p2
    try clear c3
    try clear c4
    try clear c4b0
    try clear c4b1
    try clear c6
    try clear c6b0
    try clear hcz10_0
    try clear hcz10_1
    try clear hcz10_2
    try clear hcz10_3
    try clear hcz12_0
    try clear hcz12_1
    try clear hcz12_2
    try clear hcz12_3
    try clear hcz14_0
    try clear hcz14_1
    try clear hcz14_2
    try clear hcz14_3
    try clear hcz7_0
    try clear hcz7_1
    try clear hcz7_2
    try clear hcz7_3
    try clear hfz10_0
    try clear hfz10_1
    try clear hfz10_2
    try clear hfz10_3
    try clear hfz12_0
    try clear hfz12_1
    try clear hfz12_2
    try clear hfz12_3
    try clear hfz14_0
    try clear hfz14_1
    try clear hfz14_2
    try clear hfz14_3
    try clear hfz7_0
    try clear hfz7_1
    try clear hfz7_2
    try clear hfz7_3
    obtain ⟨kq, x19_1, rfl, HA, HJ1, BK101, HB⟩ := hcut
    cases kq with
    | zero => exact absurd HA.out (by simp [impl_ValidDev.j0])
    | succ kj1 =>
      have H := HA.out
      clear HA
      simp only [impl_ValidDev.j0] at H
      by_cases c15 : x19_1 = true
      · subst c15
        have H1 : (some false) = some r := by rw [if_pos rfl] at H; exact H
        clear H
        have H := H1
        clear H1
        obtain rfl := Option.some.inj H
        go_wp2
        go_ret
        exact ⟨by first | rfl | (simp [errW_none, errW_some] <;> rfl) | (simp [*, errW_none, errW_some] <;> rfl), by repeat (first | (with_reducible first | exact HB.out | apply below_alloc | apply pw_below_drewN | apply below_drew1 | refine below_set ?_ GE101.out) | exact HB.out)⟩
      · replace c15 := Bool.eq_false_iff.mpr c15
        subst c15
        have H1 : (if (l0_1.length : Int) > 1000 then (impl_ValidDev.j1 kj1 true l0_0 l0_1 a0_2 a0_3) else (if a0_2 < (-1) then (impl_ValidDev.j1 kj1 true l0_0 l0_1 a0_2 a0_3) else (impl_ValidDev.j1 kj1 (decide (a0_2 > 1000000)) l0_0 l0_1 a0_2 a0_3))) = some r := by rw [if_neg (show ¬ (false = true) by decide)] at H; exact H
        clear H
        have H := H1
        clear H1
        have HC16 := Aside0.mk H
        clear H
        go_upto_region 3 with (fail)
        go_cut [33] (fun v33 wc => ∃ (kq : Nat) (x33_15 : Bool), v33 = .bool x33_15 ∧ Aside0 (impl_ValidDev.j1 kq x33_15 l0_0 l0_1 a0_2 a0_3 = some r) ∧ Aside0 (kq ≤ kj1) ∧ Aside0 (wc.heap[gb101]? = some (.cells #[(.slice A0_0 l0_0.length c0_0), (.slice A0_1 l0_1.length c0_1), .int .i64 a0_2, .bool a0_3] 35 (0, 0))) ∧ Aside0 (Below w.heap.size w wc))
        case first =>
          have H := HC16.out
          clear HC16
          by_cases c17 : (l0_1.length : Int) > 1000
          · rw [if_pos c17] at H
            have c17b0 : decide (1000 < (l0_1.length : Int)) = true := decide_eq_true c17
            have c17b1 : decide (1000 < l0_1.length) = true := decide_eq_true (by omega)
            clear c17
            (first | rw [c17b0] | (simp only [i64_w, i32_w]; rw [c17b0]) | skip)
            have H' := Aside0.mk H
            clear H
            have hcz18_0 : wc.cell? ⟨gb101, 0, none⟩ = some (.slice A0_0 l0_0.length c0_0) := (blk_cell BK101.out 0).trans rfl
            have hcz18_1 : wc.cell? ⟨gb101, 1, none⟩ = some (.slice A0_1 l0_1.length c0_1) := (blk_cell BK101.out 1).trans rfl
            have hcz18_2 : wc.cell? ⟨gb101, 2, none⟩ = some (.int .i64 a0_2) := (blk_cell BK101.out 2).trans rfl
            have hcz18_3 : wc.cell? ⟨gb101, 3, none⟩ = some (.bool a0_3) := (blk_cell BK101.out 3).trans rfl
            have hfz18_0 := blk_frozen BK101.out 0
            have hfz18_1 := blk_frozen BK101.out 1
            have hfz18_2 := blk_frozen BK101.out 2
            have hfz18_3 := blk_frozen BK101.out 3
            go_wp2
            go_meet
            case rel => exact ⟨_, (true), (by first | rfl | (simp; done) | (simp [*]; done)), H', ⟨by have := HJ1.out; first | omega | exact Nat.le_refl _⟩, ⟨by (with_reducible repeat (first | refine blk_drewN ?_ _ | refine blk_drew ?_ | refine blk_alloc ?_ _)); exact BK101.out⟩, ⟨by repeat (first | (with_reducible first | exact HB.out | apply below_alloc | apply pw_below_drewN | apply below_drew1 | refine below_set ?_ GE101.out) | exact HB.out)⟩⟩
          · rw [if_neg c17] at H
            have c17b0 : decide (1000 < (l0_1.length : Int)) = false := decide_eq_false c17
            have c17b1 : decide (1000 < l0_1.length) = false := decide_eq_false (by omega)
            clear c17
            (first | rw [c17b0] | (simp only [i64_w, i32_w]; rw [c17b0]) | skip)
            by_cases c19 : a0_2 < (-1)
            · rw [if_pos c19] at H
              have c19b0 : decide (a0_2 < (-1)) = true := decide_eq_true c19
              clear c19
              have H' := Aside0.mk H
              clear H
              have hcz20_0 : wc.cell? ⟨gb101, 0, none⟩ = some (.slice A0_0 l0_0.length c0_0) := (blk_cell BK101.out 0).trans rfl
              have hcz20_1 : wc.cell? ⟨gb101, 1, none⟩ = some (.slice A0_1 l0_1.length c0_1) := (blk_cell BK101.out 1).trans rfl
              have hcz20_2 : wc.cell? ⟨gb101, 2, none⟩ = some (.int .i64 a0_2) := (blk_cell BK101.out 2).trans rfl
              have hcz20_3 : wc.cell? ⟨gb101, 3, none⟩ = some (.bool a0_3) := (blk_cell BK101.out 3).trans rfl
              have hfz20_0 := blk_frozen BK101.out 0
              have hfz20_1 := blk_frozen BK101.out 1
              have hfz20_2 := blk_frozen BK101.out 2
              have hfz20_3 := blk_frozen BK101.out 3
              go_wp2
              go_meet
              case rel => exact ⟨_, (true), (by first | rfl | (simp; done) | (simp [*]; done)), H', ⟨by have := HJ1.out; first | omega | exact Nat.le_refl _⟩, ⟨by (with_reducible repeat (first | refine blk_drewN ?_ _ | refine blk_drew ?_ | refine blk_alloc ?_ _)); exact BK101.out⟩, ⟨by repeat (first | (with_reducible first | exact HB.out | apply below_alloc | apply pw_below_drewN | apply below_drew1 | refine below_set ?_ GE101.out) | exact HB.out)⟩⟩
            · rw [if_neg c19] at H
              have c19b0 : decide (a0_2 < (-1)) = false := decide_eq_false c19
              clear c19
              have H' := Aside0.mk H
              clear H
              have hcz21_0 : wc.cell? ⟨gb101, 0, none⟩ = some (.slice A0_0 l0_0.length c0_0) := (blk_cell BK101.out 0).trans rfl
              have hcz21_1 : wc.cell? ⟨gb101, 1, none⟩ = some (.slice A0_1 l0_1.length c0_1) := (blk_cell BK101.out 1).trans rfl
              have hcz21_2 : wc.cell? ⟨gb101, 2, none⟩ = some (.int .i64 a0_2) := (blk_cell BK101.out 2).trans rfl
              have hcz21_3 : wc.cell? ⟨gb101, 3, none⟩ = some (.bool a0_3) := (blk_cell BK101.out 3).trans rfl
              have hfz21_0 := blk_frozen BK101.out 0
              have hfz21_1 := blk_frozen BK101.out 1
              have hfz21_2 := blk_frozen BK101.out 2
              have hfz21_3 := blk_frozen BK101.out 3
              go_wp2
              go_meet
              case rel => exact ⟨_, (decide (a0_2 > 1000000)), (by first | rfl | (simp; done) | (simp [*]; done)), H', ⟨by have := HJ1.out; first | omega | exact Nat.le_refl _⟩, ⟨by (with_reducible repeat (first | refine blk_drewN ?_ _ | refine blk_drew ?_ | refine blk_alloc ?_ _)); exact BK101.out⟩, ⟨by repeat (first | (with_reducible first | exact HB.out | apply below_alloc | apply pw_below_drewN | apply below_drew1 | refine below_set ?_ GE101.out) | exact HB.out)⟩⟩
        case rest =>
          clear HC16
          try clear c1
          try clear p2
          try clear c3
          try clear c4
          try clear c4b0
          try clear c4b1
          try clear c6
          try clear c6b0
          try clear c15
          try clear c17
          try clear c17b0
          try clear c17b1
          try clear c19
          try clear c19b0
          try clear hcz10_0
          try clear hcz10_1
          try clear hcz10_2
          try clear hcz10_3
          try clear hcz12_0
          try clear hcz12_1
          try clear hcz12_2
          try clear hcz12_3
          try clear hcz14_0
          try clear hcz14_1
          try clear hcz14_2
          try clear hcz14_3
          try clear hcz18_0
          try clear hcz18_1
          try clear hcz18_2
          try clear hcz18_3
          try clear hcz20_0
          try clear hcz20_1
          try clear hcz20_2
          try clear hcz20_3
          try clear hcz21_0
          try clear hcz21_1
          try clear hcz21_2
          try clear hcz21_3
          try clear hcz7_0
          try clear hcz7_1
          try clear hcz7_2
          try clear hcz7_3
          try clear hfz10_0
          try clear hfz10_1
          try clear hfz10_2
          try clear hfz10_3
          try clear hfz12_0
          try clear hfz12_1
          try clear hfz12_2
          try clear hfz12_3
          try clear hfz14_0
          try clear hfz14_1
          try clear hfz14_2
          try clear hfz14_3
          try clear hfz18_0
          try clear hfz18_1
          try clear hfz18_2
          try clear hfz18_3
          try clear hfz20_0
          try clear hfz20_1
          try clear hfz20_2
          try clear hfz20_3
          try clear hfz21_0
          try clear hfz21_1
          try clear hfz21_2
          try clear hfz21_3
          try clear hfz7_0
          try clear hfz7_1
          try clear hfz7_2
          try clear hfz7_3
          try clear p2
          obtain ⟨kq, x33_15, rfl, HA, HJ15, BK101, HB⟩ := hcut
          cases kq with
          | zero => exact absurd HA.out (by simp [impl_ValidDev.j1])
          | succ kj15 =>
            have H := HA.out
            clear HA
            simp only [impl_ValidDev.j1] at H
            by_cases c22 : x33_15 = true
            · subst c22
              have H1 : (some false) = some r := by rw [if_pos rfl] at H; exact H
              clear H
              have H := H1
              clear H1
              obtain rfl := Option.some.inj H
              go_wp2
              go_ret
              exact ⟨by first | rfl | (simp [errW_none, errW_some] <;> rfl) | (simp [*, errW_none, errW_some] <;> rfl), by repeat (first | (with_reducible first | exact HB.out | apply below_alloc | apply pw_below_drewN | apply below_drew1 | refine below_set ?_ GE101.out) | exact HB.out)⟩
            · replace c22 := Bool.eq_false_iff.mpr c22
              subst c22
              have H1 : (impl_ValidDev.l0 kj15 l0_1 (l0_1.length : Int) 0 l0_0 l0_1 a0_2 a0_3) = some r := by rw [if_neg (show ¬ (false = true) by decide)] at H; exact H
              clear H
              have H := H1
              clear H1
              have H' := Aside0.mk H
              clear H
              have hcz23_0 : wc.cell? ⟨gb101, 0, none⟩ = some (.slice A0_0 l0_0.length c0_0) := (blk_cell BK101.out 0).trans rfl
              have hcz23_1 : wc.cell? ⟨gb101, 1, none⟩ = some (.slice A0_1 l0_1.length c0_1) := (blk_cell BK101.out 1).trans rfl
              have hcz23_2 : wc.cell? ⟨gb101, 2, none⟩ = some (.int .i64 a0_2) := (blk_cell BK101.out 2).trans rfl
              have hcz23_3 : wc.cell? ⟨gb101, 3, none⟩ = some (.bool a0_3) := (blk_cell BK101.out 3).trans rfl
              have hfz23_0 := blk_frozen BK101.out 0
              have hfz23_1 := blk_frozen BK101.out 1
              have hfz23_2 := blk_frozen BK101.out 2
              have hfz23_3 := blk_frozen BK101.out 3
              go_wp2
              go_loopg [37] kj15 (fun kq v37 w' => ∃ (x37_3 : Int), v37 = .int .i64 x37_3 ∧ Aside0 (impl_ValidDev.l0 kq l0_1 (l0_1.length : Int) x37_3 l0_0 l0_1 a0_2 a0_3 = some r) ∧ Aside0 (kq ≤ kj15) ∧ Aside0 (w'.heap[gb101]? = some (.cells #[(.slice A0_0 l0_0.length c0_0), (.slice A0_1 l0_1.length c0_1), .int .i64 a0_2, .bool a0_3] 35 (0, 0))) ∧ Aside0 (Below w.heap.size w w'))
              case atStart => exact ⟨(0), (by first | rfl | (simp; done) | (simp [*]; done)), H', ⟨Nat.le_refl _⟩, ⟨by (with_reducible repeat (first | refine blk_drewN ?_ _ | refine blk_drew ?_ | refine blk_alloc ?_ _)); exact BK101.out⟩, ⟨by repeat (first | (with_reducible first | exact HB.out | apply below_alloc | apply pw_below_drewN | apply below_drew1 | refine below_set ?_ GE101.out) | exact HB.out)⟩⟩
              case round =>
                clear H'
                try clear c1
                try clear c2
                try clear p2
                try clear c3
                try clear c4
                try clear c4b0
                try clear c4b1
                try clear c6
                try clear c6b0
                try clear c15
                try clear c17
                try clear c17b0
                try clear c17b1
                try clear c19
                try clear c19b0
                try clear c22
                try clear hcz10_0
                try clear hcz10_1
                try clear hcz10_2
                try clear hcz10_3
                try clear hcz12_0
                try clear hcz12_1
                try clear hcz12_2
                try clear hcz12_3
                try clear hcz14_0
                try clear hcz14_1
                try clear hcz14_2
                try clear hcz14_3
                try clear hcz18_0
                try clear hcz18_1
                try clear hcz18_2
                try clear hcz18_3
                try clear hcz20_0
                try clear hcz20_1
                try clear hcz20_2
                try clear hcz20_3
                try clear hcz21_0
                try clear hcz21_1
                try clear hcz21_2
                try clear hcz21_3
                try clear hcz23_0
                try clear hcz23_1
                try clear hcz23_2
                try clear hcz23_3
                try clear hcz7_0
                try clear hcz7_1
                try clear hcz7_2
                try clear hcz7_3
                try clear hfz10_0
                try clear hfz10_1
                try clear hfz10_2
                try clear hfz10_3
                try clear hfz12_0
                try clear hfz12_1
                try clear hfz12_2
                try clear hfz12_3
                try clear hfz14_0
                try clear hfz14_1
                try clear hfz14_2
                try clear hfz14_3
                try clear hfz18_0
                try clear hfz18_1
                try clear hfz18_2
                try clear hfz18_3
                try clear hfz20_0
                try clear hfz20_1
                try clear hfz20_2
                try clear hfz20_3
                try clear hfz21_0
                try clear hfz21_1
                try clear hfz21_2
                try clear hfz21_3
                try clear hfz23_0
                try clear hfz23_1
                try clear hfz23_2
                try clear hfz23_3
                try clear hfz7_0
                try clear hfz7_1
                try clear hfz7_2
                try clear hfz7_3
                try clear p2
                obtain ⟨x37_3, rfl, HA, HK3, BK101, HB⟩ := hrel
                cases gk with
                | zero => exact absurd HA.out (by simp [impl_ValidDev.l0])
                | succ k3 =>
                  have H := HA.out
                  clear HA
                  simp only [impl_ValidDev.l0] at H
                  by_cases c24 : x37_3 < (l0_1.length : Int)
                  · rw [if_pos c24] at H
                    have c24b0 : decide (x37_3 < (l0_1.length : Int)) = true := decide_eq_true c24
                    clear c24
                    by_cases c25 : 0 ≤ x37_3
                    · rw [if_pos c25] at H
                      have c25b0 : decide (0 ≤ x37_3) = true := decide_eq_true c25
                      clear c25
                      by_cases c26 : x37_3 < (l0_1.length : Int)
                      · rw [if_pos c26] at H
                        have c26b0 : decide (x37_3 < (l0_1.length : Int)) = true := decide_eq_true c26
                        clear c26
                        replace H := Option.bind_eq_some_iff.mp H
                        obtain ⟨t106, A270, H⟩ := H
                        replace H : (if t106 = true then (if (((rd_T101 l0_1 x37_3).f1).length : Int) = 64 then (impl_ValidDev.l0 k3 l0_1 (l0_1.length : Int) (wrap64 (x37_3 + 1)) l0_0 l0_1 a0_2 a0_3) else (some false)) else (some false)) = some r := H
                        have A27 := Aside0.mk A270
                        clear A270
                        by_cases c28 : t106 = true
                        · subst c28
                          have H1 : (if (((rd_T101 l0_1 x37_3).f1).length : Int) = 64 then (impl_ValidDev.l0 k3 l0_1 (l0_1.length : Int) (wrap64 (x37_3 + 1)) l0_0 l0_1 a0_2 a0_3) else (some false)) = some r := by rw [if_pos rfl] at H; exact H
                          clear H
                          have H := H1
                          clear H1
                          by_cases c29 : (((rd_T101 l0_1 x37_3).f1).length : Int) = 64
                          · rw [if_pos c29] at H
                            have c29b0 : ((((rd_T101 l0_1 x37_3).f1).length : Int) == 64) = true := beq_iff_eq.mpr c29
                            have c29b1 : ((((rd_T101 l0_1 x37_3).f1).length : Int) != 64) = false := bne_eq_false_iff_eq.mpr c29
                            clear c29
                            have H' := Aside0.mk H
                            clear H
                            have p104 : 0 ≤ (x37_3 : Int) := of_decide_eq_true (by first | (with_reducible assumption) | assumption)
                            have q104 : x37_3 < (l0_1.length : Int) := of_decide_eq_true (by first | (with_reducible assumption) | assumption)
                            obtain ⟨ad104, A104_1, c104_1, e104, hx104_0, hx104_1, hl104_1, hi104_1⟩ := at_T101 HR0_1.out x37_3 p104 q104
                            cases e104
                            replace hx104_0 := (HB.out.cell (World.block_lt_of_cell? w _ hx104_0)).trans hx104_0
                            replace hx104_1 := (HB.out.cell (World.block_lt_of_cell? w _ hx104_1)).trans hx104_1
                            have HR104_1 := Aside0.mk hi104_1
                            have HC104_1 := Aside0.mk hl104_1
                            clear hi104_1 hl104_1
                            replace p104 := eq_true p104
                            replace q104 := eq_true q104
                            go_wp2_with (first | ((with_reducible refine gate_dst (N := 4) rfl ?_); (try (refine gate_guard (by rfl) ?_; dsimp only)); refine box_event ?hg (N := 4) ?hd (cs := #[.int .i64 0, .slice none 0 0]) (t := 101) ?hr ?_; (case hd => rfl); (case hg => rfl); (case hr => first | (go_simp; done) | (go_simp; rfl)); intro gb105 hg w30 hbox hb; have n0_ := Aside0.mk (blk_below (g := gb101) (o := .cells #[.slice A0_0 l0_0.length c0_0, .slice (some ad104) l0_1.length c0_1, .int .i64 a0_2, .bool a0_3] 35 (0, 0)) (by (with_reducible repeat (first | refine blk_drewN ?_ _ | refine blk_drew ?_ | refine blk_alloc ?_ _)); exact BK101.out) hb); have n1_ := Aside0.mk (below_step (by repeat (first | (with_reducible first | exact HB.out | apply below_alloc | apply pw_below_drewN | apply below_drew1 | refine below_set ?_ GE101.out) | exact HB.out)) hb); have n2_ := Aside0.mk (hbox); have n3_ := Aside0.mk ((by rw [hg]; exact (below_size (by repeat (first | (with_reducible first | exact HB.out | apply below_alloc | apply pw_below_drewN | apply below_drew1 | refine below_set ?_ GE101.out) | exact HB.out))) : w.heap.size ≤ gb105)); have n4_ := Aside0.mk ((by rw [hg]; exact (below_size (by repeat (first | (with_reducible first | exact HB.out | apply below_alloc | apply pw_below_drewN | apply below_drew1 | refine below_set ?_ GE101.out) | exact HB.out))) : w.heap.size ≤ gb105)); have n5_ := Aside0.mk ((by rw [hg]; exact Nat.ne_of_lt (blk_lt (g := gb101) (o := .cells #[.slice A0_0 l0_0.length c0_0, .slice (some ad104) l0_1.length c0_1, .int .i64 a0_2, .bool a0_3] 35 (0, 0)) (by (with_reducible repeat (first | refine blk_drewN ?_ _ | refine blk_drew ?_ | refine blk_alloc ?_ _)); exact BK101.out)) : gb101 ≠ gb105)); have n6_ := Aside0.mk ((by rw [hg]; exact Nat.ne_of_gt (blk_lt (g := gb101) (o := .cells #[.slice A0_0 l0_0.length c0_0, .slice (some ad104) l0_1.length c0_1, .int .i64 a0_2, .bool a0_3] 35 (0, 0)) (by (with_reducible repeat (first | refine blk_drewN ?_ _ | refine blk_drew ?_ | refine blk_alloc ?_ _)); exact BK101.out)) : gb105 ≠ gb101)); clear BK101; clear HB; have BK101 := n0_; have HB := n1_; have BK105 := n2_; have GW105 := n3_; have GE105 := n4_; have NB101_105 := n5_; have NB105_101 := n6_; clear n0_ n1_ n2_ n3_ n4_ n5_ n6_; clear hb hbox hg; have hnb31 := NB105_101.out; have hnc31 := NB101_105.out; have hcz32_0 : w30.cell? ⟨gb105, 0, none⟩ = some (.int .i64 0) := (blk_cell BK105.out 0).trans rfl; have hcz32_1 : w30.cell? ⟨gb105, 1, none⟩ = some (.slice none 0 0) := (blk_cell BK105.out 1).trans rfl; have hfz32_0 := blk_frozen BK105.out 0; have hfz32_1 := blk_frozen BK105.out 1; have hcz33_0 : w30.cell? ⟨gb101, 0, none⟩ = some (.slice A0_0 l0_0.length c0_0) := (blk_cell BK101.out 0).trans rfl; have hcz33_1 : w30.cell? ⟨gb101, 1, none⟩ = some (.slice (some ad104) l0_1.length c0_1) := (blk_cell BK101.out 1).trans rfl; have hcz33_2 : w30.cell? ⟨gb101, 2, none⟩ = some (.int .i64 a0_2) := (blk_cell BK101.out 2).trans rfl; have hcz33_3 : w30.cell? ⟨gb101, 3, none⟩ = some (.bool a0_3) := (blk_cell BK101.out 3).trans rfl; have hfz33_0 := blk_frozen BK101.out 0; have hfz33_1 := blk_frozen BK101.out 1; have hfz33_2 := blk_frozen BK101.out 2; have hfz33_3 := blk_frozen BK101.out 3) | ((with_reducible refine gate_callee (f := 68) rfl ?_); refine goesL_ (some 44) rfl rfl Try.func68 (by kernel_rfl) rfl #[.agg #[.slice A0_0 l0_0.length c0_0, .slice (some ad104) l0_1.length c0_1, .int .i64 a0_2, .bool a0_3], .int .i64 ((rd_T101 l0_1 x37_3).f0)] rfl (by (try simp only [List.map_toArray, List.map_cons, List.map_nil]); first | done | rfl | (simp only [List.length_drop, List.length_take]; rfl)) ?_; (with_reducible refine (impl_Dev_has.calls _ _ l0_0 _ _ l0_1 a0_2 a0_3 ((rd_T101 l0_1 x37_3).f0) true _ ?side1 ?side2 ?side3 ?side4 A27.out).mono ?_); (case side1 => exact Kd.C_below HR0_0.out (by repeat (first | (with_reducible first | exact HB.out | apply below_alloc | apply pw_below_drewN | apply below_drew1 | refine below_set ?_ GE101.out | refine below_set ?_ GE105.out) | exact HB.out))); (case side2 => exact HC0_0.out); (case side3 => exact Kd.C_below HR0_1.out (by repeat (first | (with_reducible first | exact HB.out | apply below_alloc | apply pw_below_drewN | apply below_drew1 | refine below_set ?_ GE101.out | refine below_set ?_ GE105.out) | exact HB.out))); (case side4 => exact HC0_1.out); rintro e w34 ⟨rfl, hb⟩; refine ⟨_, rfl, ?_⟩; have n0_ := Aside0.mk (blk_below (g := gb101) (o := .cells #[.slice A0_0 l0_0.length c0_0, .slice (some ad104) l0_1.length c0_1, .int .i64 a0_2, .bool a0_3] 35 (0, 0)) (by (with_reducible repeat (first | refine blk_drewN ?_ _ | refine blk_drew ?_ | refine blk_alloc ?_ _)); refine blk_far ?_ NB101_105.out _; (with_reducible repeat (first | refine blk_drewN ?_ _ | refine blk_drew ?_ | refine blk_alloc ?_ _)); refine blk_far ?_ NB101_105.out _; (with_reducible repeat (first | refine blk_drewN ?_ _ | refine blk_drew ?_ | refine blk_alloc ?_ _)); exact BK101.out) hb); have n1_ := Aside0.mk (blk_below (g := gb105) (o := .cells #[.int .i64 ((rd_T101 l0_1 x37_3).f0), .slice A104_1 ((rd_T101 l0_1 x37_3).f1).length c104_1] 101 (0, 0)) (by (with_reducible repeat (first | refine blk_drewN ?_ _ | refine blk_drew ?_ | refine blk_alloc ?_ _)); refine blk_put (cs := #[.int .i64 ((rd_T101 l0_1 x37_3).f0), .slice none 0 0]) ?_ 1 _ rfl; (with_reducible repeat (first | refine blk_drewN ?_ _ | refine blk_drew ?_ | refine blk_alloc ?_ _)); refine blk_put (cs := #[.int .i64 0, .slice none 0 0]) ?_ 0 _ rfl; (with_reducible repeat (first | refine blk_drewN ?_ _ | refine blk_drew ?_ | refine blk_alloc ?_ _)); exact BK105.out) hb); have n2_ := Aside0.mk (below_step (by repeat (first | (with_reducible first | exact HB.out | apply below_alloc | apply pw_below_drewN | apply below_drew1 | refine below_set ?_ GE101.out | refine below_set ?_ GE105.out) | exact HB.out)) hb); clear BK101; clear BK105; clear HB; have BK101 := n0_; have BK105 := n1_; have HB := n2_; clear n0_ n1_ n2_; (try clear hb); (try clear hb2); (try clear hk); (try clear hi); have hcz35_0 : w34.cell? ⟨gb105, 0, none⟩ = some (.int .i64 ((rd_T101 l0_1 x37_3).f0)) := (blk_cell BK105.out 0).trans rfl; have hcz35_1 : w34.cell? ⟨gb105, 1, none⟩ = some (.slice A104_1 ((rd_T101 l0_1 x37_3).f1).length c104_1) := (blk_cell BK105.out 1).trans rfl; have hfz35_0 := blk_frozen BK105.out 0; have hfz35_1 := blk_frozen BK105.out 1))
                            go_roundg k3
                            case measure => have := HJ1.out; have := HJ15.out; have := HK3.out; omega
                            case rel => exact ⟨(wrap64 (x37_3 + 1)), (by first | rfl | (simp; done) | (simp [*]; done)), H', ⟨by have := HJ1.out; have := HJ15.out; have := HK3.out; omega⟩, ⟨by (with_reducible repeat (first | refine blk_drewN ?_ _ | refine blk_drew ?_ | refine blk_alloc ?_ _)); exact BK101.out⟩, ⟨by repeat (first | (with_reducible first | exact HB.out | apply below_alloc | apply pw_below_drewN | apply below_drew1 | refine below_set ?_ GE101.out | refine below_set ?_ GE105.out) | exact HB.out)⟩⟩
                          · rw [if_neg c29] at H
                            have c29b0 : ((((rd_T101 l0_1 x37_3).f1).length : Int) == 64) = false := beq_eq_false_iff_ne.mpr c29
                            have c29b1 : ((((rd_T101 l0_1 x37_3).f1).length : Int) != 64) = true := bne_iff_ne.mpr c29
                            obtain rfl := Option.some.inj H
                            have p104 : 0 ≤ (x37_3 : Int) := of_decide_eq_true (by first | (with_reducible assumption) | assumption)
                            have q104 : x37_3 < (l0_1.length : Int) := of_decide_eq_true (by first | (with_reducible assumption) | assumption)
                            obtain ⟨ad104, A104_1, c104_1, e104, hx104_0, hx104_1, hl104_1, hi104_1⟩ := at_T101 HR0_1.out x37_3 p104 q104
                            cases e104
                            replace hx104_0 := (HB.out.cell (World.block_lt_of_cell? w _ hx104_0)).trans hx104_0
                            replace hx104_1 := (HB.out.cell (World.block_lt_of_cell? w _ hx104_1)).trans hx104_1
                            have HR104_1 := Aside0.mk hi104_1
                            have HC104_1 := Aside0.mk hl104_1
                            clear hi104_1 hl104_1
                            replace p104 := eq_true p104
                            replace q104 := eq_true q104
                            go_wp2_with (first | ((with_reducible refine gate_dst (N := 4) rfl ?_); (try (refine gate_guard (by rfl) ?_; dsimp only)); refine box_event ?hg (N := 4) ?hd (cs := #[.int .i64 0, .slice none 0 0]) (t := 101) ?hr ?_; (case hd => rfl); (case hg => rfl); (case hr => first | (go_simp; done) | (go_simp; rfl)); intro gb105 hg w36 hbox hb; have n0_ := Aside0.mk (blk_below (g := gb101) (o := .cells #[.slice A0_0 l0_0.length c0_0, .slice (some ad104) l0_1.length c0_1, .int .i64 a0_2, .bool a0_3] 35 (0, 0)) (by (with_reducible repeat (first | refine blk_drewN ?_ _ | refine blk_drew ?_ | refine blk_alloc ?_ _)); exact BK101.out) hb); have n1_ := Aside0.mk (below_step (by repeat (first | (with_reducible first | exact HB.out | apply below_alloc | apply pw_below_drewN | apply below_drew1 | refine below_set ?_ GE101.out) | exact HB.out)) hb); have n2_ := Aside0.mk (hbox); have n3_ := Aside0.mk ((by rw [hg]; exact (below_size (by repeat (first | (with_reducible first | exact HB.out | apply below_alloc | apply pw_below_drewN | apply below_drew1 | refine below_set ?_ GE101.out) | exact HB.out))) : w.heap.size ≤ gb105)); have n4_ := Aside0.mk ((by rw [hg]; exact (below_size (by repeat (first | (with_reducible first | exact HB.out | apply below_alloc | apply pw_below_drewN | apply below_drew1 | refine below_set ?_ GE101.out) | exact HB.out))) : w.heap.size ≤ gb105)); have n5_ := Aside0.mk ((by rw [hg]; exact Nat.ne_of_lt (blk_lt (g := gb101) (o := .cells #[.slice A0_0 l0_0.length c0_0, .slice (some ad104) l0_1.length c0_1, .int .i64 a0_2, .bool a0_3] 35 (0, 0)) (by (with_reducible repeat (first | refine blk_drewN ?_ _ | refine blk_drew ?_ | refine blk_alloc ?_ _)); exact BK101.out)) : gb101 ≠ gb105)); have n6_ := Aside0.mk ((by rw [hg]; exact Nat.ne_of_gt (blk_lt (g := gb101) (o := .cells #[.slice A0_0 l0_0.length c0_0, .slice (some ad104) l0_1.length c0_1, .int .i64 a0_2, .bool a0_3] 35 (0, 0)) (by (with_reducible repeat (first | refine blk_drewN ?_ _ | refine blk_drew ?_ | refine blk_alloc ?_ _)); exact BK101.out)) : gb105 ≠ gb101)); clear BK101; clear HB; have BK101 := n0_; have HB := n1_; have BK105 := n2_; have GW105 := n3_; have GE105 := n4_; have NB101_105 := n5_; have NB105_101 := n6_; clear n0_ n1_ n2_ n3_ n4_ n5_ n6_; clear hb hbox hg; have hnb37 := NB105_101.out; have hnc37 := NB101_105.out; have hcz38_0 : w36.cell? ⟨gb105, 0, none⟩ = some (.int .i64 0) := (blk_cell BK105.out 0).trans rfl; have hcz38_1 : w36.cell? ⟨gb105, 1, none⟩ = some (.slice none 0 0) := (blk_cell BK105.out 1).trans rfl; have hfz38_0 := blk_frozen BK105.out 0; have hfz38_1 := blk_frozen BK105.out 1; have hcz39_0 : w36.cell? ⟨gb101, 0, none⟩ = some (.slice A0_0 l0_0.length c0_0) := (blk_cell BK101.out 0).trans rfl; have hcz39_1 : w36.cell? ⟨gb101, 1, none⟩ = some (.slice (some ad104) l0_1.length c0_1) := (blk_cell BK101.out 1).trans rfl; have hcz39_2 : w36.cell? ⟨gb101, 2, none⟩ = some (.int .i64 a0_2) := (blk_cell BK101.out 2).trans rfl; have hcz39_3 : w36.cell? ⟨gb101, 3, none⟩ = some (.bool a0_3) := (blk_cell BK101.out 3).trans rfl; have hfz39_0 := blk_frozen BK101.out 0; have hfz39_1 := blk_frozen BK101.out 1; have hfz39_2 := blk_frozen BK101.out 2; have hfz39_3 := blk_frozen BK101.out 3) | ((with_reducible refine gate_callee (f := 68) rfl ?_); refine goesL_ (some 44) rfl rfl Try.func68 (by kernel_rfl) rfl #[.agg #[.slice A0_0 l0_0.length c0_0, .slice (some ad104) l0_1.length c0_1, .int .i64 a0_2, .bool a0_3], .int .i64 ((rd_T101 l0_1 x37_3).f0)] rfl (by (try simp only [List.map_toArray, List.map_cons, List.map_nil]); first | done | rfl | (simp only [List.length_drop, List.length_take]; rfl)) ?_; (with_reducible refine (impl_Dev_has.calls _ _ l0_0 _ _ l0_1 a0_2 a0_3 ((rd_T101 l0_1 x37_3).f0) true _ ?side1 ?side2 ?side3 ?side4 A27.out).mono ?_); (case side1 => exact Kd.C_below HR0_0.out (by repeat (first | (with_reducible first | exact HB.out | apply below_alloc | apply pw_below_drewN | apply below_drew1 | refine below_set ?_ GE101.out | refine below_set ?_ GE105.out) | exact HB.out))); (case side2 => exact HC0_0.out); (case side3 => exact Kd.C_below HR0_1.out (by repeat (first | (with_reducible first | exact HB.out | apply below_alloc | apply pw_below_drewN | apply below_drew1 | refine below_set ?_ GE101.out | refine below_set ?_ GE105.out) | exact HB.out))); (case side4 => exact HC0_1.out); rintro e w40 ⟨rfl, hb⟩; refine ⟨_, rfl, ?_⟩; have n0_ := Aside0.mk (blk_below (g := gb101) (o := .cells #[.slice A0_0 l0_0.length c0_0, .slice (some ad104) l0_1.length c0_1, .int .i64 a0_2, .bool a0_3] 35 (0, 0)) (by (with_reducible repeat (first | refine blk_drewN ?_ _ | refine blk_drew ?_ | refine blk_alloc ?_ _)); refine blk_far ?_ NB101_105.out _; (with_reducible repeat (first | refine blk_drewN ?_ _ | refine blk_drew ?_ | refine blk_alloc ?_ _)); refine blk_far ?_ NB101_105.out _; (with_reducible repeat (first | refine blk_drewN ?_ _ | refine blk_drew ?_ | refine blk_alloc ?_ _)); exact BK101.out) hb); have n1_ := Aside0.mk (blk_below (g := gb105) (o := .cells #[.int .i64 ((rd_T101 l0_1 x37_3).f0), .slice A104_1 ((rd_T101 l0_1 x37_3).f1).length c104_1] 101 (0, 0)) (by (with_reducible repeat (first | refine blk_drewN ?_ _ | refine blk_drew ?_ | refine blk_alloc ?_ _)); refine blk_put (cs := #[.int .i64 ((rd_T101 l0_1 x37_3).f0), .slice none 0 0]) ?_ 1 _ rfl; (with_reducible repeat (first | refine blk_drewN ?_ _ | refine blk_drew ?_ | refine blk_alloc ?_ _)); refine blk_put (cs := #[.int .i64 0, .slice none 0 0]) ?_ 0 _ rfl; (with_reducible repeat (first | refine blk_drewN ?_ _ | refine blk_drew ?_ | refine blk_alloc ?_ _)); exact BK105.out) hb); have n2_ := Aside0.mk (below_step (by repeat (first | (with_reducible first | exact HB.out | apply below_alloc | apply pw_below_drewN | apply below_drew1 | refine below_set ?_ GE101.out | refine below_set ?_ GE105.out) | exact HB.out)) hb); clear BK101; clear BK105; clear HB; have BK101 := n0_; have BK105 := n1_; have HB := n2_; clear n0_ n1_ n2_; (try clear hb); (try clear hb2); (try clear hk); (try clear hi); have hcz41_0 : w40.cell? ⟨gb105, 0, none⟩ = some (.int .i64 ((rd_T101 l0_1 x37_3).f0)) := (blk_cell BK105.out 0).trans rfl; have hcz41_1 : w40.cell? ⟨gb105, 1, none⟩ = some (.slice A104_1 ((rd_T101 l0_1 x37_3).f1).length c104_1) := (blk_cell BK105.out 1).trans rfl; have hfz41_0 := blk_frozen BK105.out 0; have hfz41_1 := blk_frozen BK105.out 1))
                            go_ret
                            exact ⟨by first | rfl | (simp [errW_none, errW_some] <;> rfl) | (simp [*, errW_none, errW_some] <;> rfl), by repeat (first | (with_reducible first | exact HB.out | apply below_alloc | apply pw_below_drewN | apply below_drew1 | refine below_set ?_ GE101.out | refine below_set ?_ GE105.out) | exact HB.out)⟩
                        · replace c28 := Bool.eq_false_iff.mpr c28
                          subst c28
                          have H1 : (some false) = some r := by rw [if_neg (show ¬ (false = true) by decide)] at H; exact H
                          clear H
                          have H := H1
                          clear H1
                          obtain rfl := Option.some.inj H
                          have p104 : 0 ≤ (x37_3 : Int) := of_decide_eq_true (by first | (with_reducible assumption) | assumption)
                          have q104 : x37_3 < (l0_1.length : Int) := of_decide_eq_true (by first | (with_reducible assumption) | assumption)
                          obtain ⟨ad104, A104_1, c104_1, e104, hx104_0, hx104_1, hl104_1, hi104_1⟩ := at_T101 HR0_1.out x37_3 p104 q104
                          cases e104
                          replace hx104_0 := (HB.out.cell (World.block_lt_of_cell? w _ hx104_0)).trans hx104_0
                          replace hx104_1 := (HB.out.cell (World.block_lt_of_cell? w _ hx104_1)).trans hx104_1
                          have HR104_1 := Aside0.mk hi104_1
                          have HC104_1 := Aside0.mk hl104_1
                          clear hi104_1 hl104_1
                          replace p104 := eq_true p104
                          replace q104 := eq_true q104
                          go_wp2_with (first | ((with_reducible refine gate_dst (N := 4) rfl ?_); (try (refine gate_guard (by rfl) ?_; dsimp only)); refine box_event ?hg (N := 4) ?hd (cs := #[.int .i64 0, .slice none 0 0]) (t := 101) ?hr ?_; (case hd => rfl); (case hg => rfl); (case hr => first | (go_simp; done) | (go_simp; rfl)); intro gb105 hg w42 hbox hb; have n0_ := Aside0.mk (blk_below (g := gb101) (o := .cells #[.slice A0_0 l0_0.length c0_0, .slice (some ad104) l0_1.length c0_1, .int .i64 a0_2, .bool a0_3] 35 (0, 0)) (by (with_reducible repeat (first | refine blk_drewN ?_ _ | refine blk_drew ?_ | refine blk_alloc ?_ _)); exact BK101.out) hb); have n1_ := Aside0.mk (below_step (by repeat (first | (with_reducible first | exact HB.out | apply below_alloc | apply pw_below_drewN | apply below_drew1 | refine below_set ?_ GE101.out) | exact HB.out)) hb); have n2_ := Aside0.mk (hbox); have n3_ := Aside0.mk ((by rw [hg]; exact (below_size (by repeat (first | (with_reducible first | exact HB.out | apply below_alloc | apply pw_below_drewN | apply below_drew1 | refine below_set ?_ GE101.out) | exact HB.out))) : w.heap.size ≤ gb105)); have n4_ := Aside0.mk ((by rw [hg]; exact (below_size (by repeat (first | (with_reducible first | exact HB.out | apply below_alloc | apply pw_below_drewN | apply below_drew1 | refine below_set ?_ GE101.out) | exact HB.out))) : w.heap.size ≤ gb105)); have n5_ := Aside0.mk ((by rw [hg]; exact Nat.ne_of_lt (blk_lt (g := gb101) (o := .cells #[.slice A0_0 l0_0.length c0_0, .slice (some ad104) l0_1.length c0_1, .int .i64 a0_2, .bool a0_3] 35 (0, 0)) (by (with_reducible repeat (first | refine blk_drewN ?_ _ | refine blk_drew ?_ | refine blk_alloc ?_ _)); exact BK101.out)) : gb101 ≠ gb105)); have n6_ := Aside0.mk ((by rw [hg]; exact Nat.ne_of_gt (blk_lt (g := gb101) (o := .cells #[.slice A0_0 l0_0.length c0_0, .slice (some ad104) l0_1.length c0_1, .int .i64 a0_2, .bool a0_3] 35 (0, 0)) (by (with_reducible repeat (first | refine blk_drewN ?_ _ | refine blk_drew ?_ | refine blk_alloc ?_ _)); exact BK101.out)) : gb105 ≠ gb101)); clear BK101; clear HB; have BK101 := n0_; have HB := n1_; have BK105 := n2_; have GW105 := n3_; have GE105 := n4_; have NB101_105 := n5_; have NB105_101 := n6_; clear n0_ n1_ n2_ n3_ n4_ n5_ n6_; clear hb hbox hg; have hnb43 := NB105_101.out; have hnc43 := NB101_105.out; have hcz44_0 : w42.cell? ⟨gb105, 0, none⟩ = some (.int .i64 0) := (blk_cell BK105.out 0).trans rfl; have hcz44_1 : w42.cell? ⟨gb105, 1, none⟩ = some (.slice none 0 0) := (blk_cell BK105.out 1).trans rfl; have hfz44_0 := blk_frozen BK105.out 0; have hfz44_1 := blk_frozen BK105.out 1; have hcz45_0 : w42.cell? ⟨gb101, 0, none⟩ = some (.slice A0_0 l0_0.length c0_0) := (blk_cell BK101.out 0).trans rfl; have hcz45_1 : w42.cell? ⟨gb101, 1, none⟩ = some (.slice (some ad104) l0_1.length c0_1) := (blk_cell BK101.out 1).trans rfl; have hcz45_2 : w42.cell? ⟨gb101, 2, none⟩ = some (.int .i64 a0_2) := (blk_cell BK101.out 2).trans rfl; have hcz45_3 : w42.cell? ⟨gb101, 3, none⟩ = some (.bool a0_3) := (blk_cell BK101.out 3).trans rfl; have hfz45_0 := blk_frozen BK101.out 0; have hfz45_1 := blk_frozen BK101.out 1; have hfz45_2 := blk_frozen BK101.out 2; have hfz45_3 := blk_frozen BK101.out 3) | ((with_reducible refine gate_callee (f := 68) rfl ?_); refine goesL_ (some 44) rfl rfl Try.func68 (by kernel_rfl) rfl #[.agg #[.slice A0_0 l0_0.length c0_0, .slice (some ad104) l0_1.length c0_1, .int .i64 a0_2, .bool a0_3], .int .i64 ((rd_T101 l0_1 x37_3).f0)] rfl (by (try simp only [List.map_toArray, List.map_cons, List.map_nil]); first | done | rfl | (simp only [List.length_drop, List.length_take]; rfl)) ?_; (with_reducible refine (impl_Dev_has.calls _ _ l0_0 _ _ l0_1 a0_2 a0_3 ((rd_T101 l0_1 x37_3).f0) false _ ?side1 ?side2 ?side3 ?side4 A27.out).mono ?_); (case side1 => exact Kd.C_below HR0_0.out (by repeat (first | (with_reducible first | exact HB.out | apply below_alloc | apply pw_below_drewN | apply below_drew1 | refine below_set ?_ GE101.out | refine below_set ?_ GE105.out) | exact HB.out))); (case side2 => exact HC0_0.out); (case side3 => exact Kd.C_below HR0_1.out (by repeat (first | (with_reducible first | exact HB.out | apply below_alloc | apply pw_below_drewN | apply below_drew1 | refine below_set ?_ GE101.out | refine below_set ?_ GE105.out) | exact HB.out))); (case side4 => exact HC0_1.out); rintro e w46 ⟨rfl, hb⟩; refine ⟨_, rfl, ?_⟩; have n0_ := Aside0.mk (blk_below (g := gb101) (o := .cells #[.slice A0_0 l0_0.length c0_0, .slice (some ad104) l0_1.length c0_1, .int .i64 a0_2, .bool a0_3] 35 (0, 0)) (by (with_reducible repeat (first | refine blk_drewN ?_ _ | refine blk_drew ?_ | refine blk_alloc ?_ _)); refine blk_far ?_ NB101_105.out _; (with_reducible repeat (first | refine blk_drewN ?_ _ | refine blk_drew ?_ | refine blk_alloc ?_ _)); refine blk_far ?_ NB101_105.out _; (with_reducible repeat (first | refine blk_drewN ?_ _ | refine blk_drew ?_ | refine blk_alloc ?_ _)); exact BK101.out) hb); have n1_ := Aside0.mk (blk_below (g := gb105) (o := .cells #[.int .i64 ((rd_T101 l0_1 x37_3).f0), .slice A104_1 ((rd_T101 l0_1 x37_3).f1).length c104_1] 101 (0, 0)) (by (with_reducible repeat (first | refine blk_drewN ?_ _ | refine blk_drew ?_ | refine blk_alloc ?_ _)); refine blk_put (cs := #[.int .i64 ((rd_T101 l0_1 x37_3).f0), .slice none 0 0]) ?_ 1 _ rfl; (with_reducible repeat (first | refine blk_drewN ?_ _ | refine blk_drew ?_ | refine blk_alloc ?_ _)); refine blk_put (cs := #[.int .i64 0, .slice none 0 0]) ?_ 0 _ rfl; (with_reducible repeat (first | refine blk_drewN ?_ _ | refine blk_drew ?_ | refine blk_alloc ?_ _)); exact BK105.out) hb); have n2_ := Aside0.mk (below_step (by repeat (first | (with_reducible first | exact HB.out | apply below_alloc | apply pw_below_drewN | apply below_drew1 | refine below_set ?_ GE101.out | refine below_set ?_ GE105.out) | exact HB.out)) hb); clear BK101; clear BK105; clear HB; have BK101 := n0_; have BK105 := n1_; have HB := n2_; clear n0_ n1_ n2_; (try clear hb); (try clear hb2); (try clear hk); (try clear hi)))
                          go_ret
                          exact ⟨by first | rfl | (simp [errW_none, errW_some] <;> rfl) | (simp [*, errW_none, errW_some] <;> rfl), by repeat (first | (with_reducible first | exact HB.out | apply below_alloc | apply pw_below_drewN | apply below_drew1 | refine below_set ?_ GE101.out | refine below_set ?_ GE105.out) | exact HB.out)⟩
                      · rw [if_neg c26] at H
                        exact absurd H (by simp)
                    · rw [if_neg c25] at H
                      exact absurd H (by simp)
                  · rw [if_neg c24] at H
                    have c24b0 : decide (x37_3 < (l0_1.length : Int)) = false := decide_eq_false c24
                    clear c24
                    obtain rfl := Option.some.inj H
                    go_wp2
                    go_ret
                    exact ⟨by first | rfl | (simp [errW_none, errW_some] <;> rfl) | (simp [*, errW_none, errW_some] <;> rfl), by repeat (first | (with_reducible first | exact HB.out | apply below_alloc | apply pw_below_drewN | apply below_drew1 | refine below_set ?_ GE101.out) | exact HB.out)⟩

end Go.Proofs.Ytbdbeccaopphaaa.Q
namespace Go.Proofs.Ytbdbeccaopphaaa.P
open Go.RowKit Go.Proofs.YtbdbeccaopphaaaW.PrintWords Go.Proofs.Ytbdbeccaopphaaa.Q
set_option linter.unusedVariables false
set_option linter.unusedSimpArgs false

/-- A pend of a device of n sectors. -/
def okPend (n : Nat) (p : S101) : Bool := decide (0 ≤ p.f0 ∧ p.f0 < n ∧ p.f1.length = 64)
def headDev (l0 : List Int) (l1 : List S101) (a2 : Int) : Prop := l0.length % 64 = 0 ∧ 8 ≤ l0.length / 64 ∧ l0.length / 64 ≤ 256 ∧ l1.length ≤ 1000 ∧ -1 ≤ a2 ∧ a2 ≤ 1000000
instance (l0 : List Int) (l1 : List S101) (a2 : Int) : Decidable (headDev l0 l1 a2) := by unfold headDev; infer_instance
def validDev (l0 : List Int) (l1 : List S101) (a2 : Int) : Bool := decide (headDev l0 l1 a2) && l1.all (okPend (l0.length / 64))
theorem validDev_no {l0 : List Int} {l1 : List S101} {a2 : Int} (h : ¬ headDev l0 l1 a2) : validDev l0 l1 a2 = false := by unfold validDev; rw [decide_eq_false h, Bool.false_and]
theorem validDev_yes {l0 : List Int} {l1 : List S101} {a2 : Int} (h : headDev l0 l1 a2) : validDev l0 l1 a2 = l1.all (okPend (l0.length / 64)) := by unfold validDev; rw [decide_eq_true h, Bool.true_and]
theorem validDev_is {l0 : List Int} {l1 : List S101} {a2 : Int} : validDev l0 l1 a2 = true ↔ headDev l0 l1 a2 ∧ ∀ p ∈ l1, 0 ≤ p.f0 ∧ p.f0 < (l0.length / 64 : Nat) ∧ p.f1.length = 64 := by
  unfold validDev
  rw [Bool.and_eq_true, decide_eq_true_eq, List.all_eq_true]
  simp only [okPend, decide_eq_true_eq]
theorem spec_loop_ev (l0 : List Int) (l1 : List S101) (a2 : Int) (a3 : Bool) (n : Nat) (h : l1.length ≤ 4611686018427387904) (hp : ∀ p ∈ l1, p.f1.length ≤ 9223372036854775807) :
    Ev (fun k => spec_ValidDev.l0 k (n : Int) 0 l0 l1 a2 a3) (l1.all (okPend n)) := by
  refine all_loop (fun k i => spec_ValidDev.l0 k (n : Int) i l0 l1 a2 a3) l1 (okPend n) ?_ ?_
  · intro i p hat hi
    refine ⟨0, fun k _ => ?_⟩
    simp only [spec_ValidDev.l0]
    rw [if_pos (by omega), if_pos (by omega), rdP_at hat, w64s hi h]
    by_cases h1 : p.f0 < 0
    · rw [if_pos h1, if_neg (by simp [okPend]; omega)]
    · rw [if_neg h1]
      by_cases h2 : p.f0 ≥ (n : Int)
      · rw [if_pos h2, if_neg (by simp [okPend]; omega)]
      · rw [if_neg h2]
        by_cases h3 : (p.f1.length : Int) = 64
        · rw [if_pos h3, if_pos (by simp [okPend]; omega)]
        · rw [if_neg h3, if_neg (by simp [okPend]; omega)]
  · intro k
    simp only [spec_ValidDev.l0]
    rw [if_neg (by omega)]
theorem spec_ValidDev_ev (l0 : List Int) (l1 : List S101) (a2 : Int) (a3 : Bool) (h0 : l0.length ≤ 4611686018427387904) (h : l1.length ≤ 4611686018427387904) (hp : ∀ p ∈ l1, p.f1.length ≤ 9223372036854775807) :
    Ev (fun k => spec_ValidDev.f k l0 l1 a2 a3) (validDev l0 l1 a2) := by
  have e : wrap64 ((l0.length : Int) / 64) = ((l0.length / 64 : Nat) : Int) := by rw [w64 (by omega) (by omega)]; omega
  have no : ∀ n : Int, Ev (fun k => spec_ValidDev.j0 k n true l0 l1 a2 a3) false := fun n => Ev.last ⟨0, fun k _ => by simp only [spec_ValidDev.j0]; rw [if_pos trivial]⟩
  simp only [spec_ValidDev.f, spec_l1Sectors.f, Option.bind_some, e]
  clear e
  by_cases h1 : (l0.length : Int) % 64 = 0
  · refine Ev.pos h1 ?_
    by_cases h2 : ((l0.length / 64 : Nat) : Int) < 8
    · rw [validDev_no (by unfold headDev; omega)]
      exact Ev.pos h2 (no _)
    · refine Ev.neg h2 ?_
      by_cases h3 : ((l0.length / 64 : Nat) : Int) > 256
      · rw [validDev_no (by unfold headDev; omega)]
        exact Ev.pos h3 (no _)
      · refine Ev.neg h3 ?_
        by_cases h4 : (l1.length : Int) > 1000
        · rw [validDev_no (by unfold headDev; omega)]
          exact Ev.pos h4 (no _)
        · refine Ev.neg h4 ?_
          by_cases h5 : a2 < -1
          · rw [validDev_no (by unfold headDev; omega)]
            exact Ev.pos h5 (no _)
          · refine Ev.neg h5 ?_
            by_cases h6 : a2 > 1000000
            · rw [validDev_no (by unfold headDev; omega)]
              simp only [h6, decide_true]
              exact no _
            · rw [validDev_yes (by unfold headDev; omega)]
              refine Ev.step ⟨0, fun k _ => ?_⟩ (spec_loop_ev l0 l1 a2 a3 (l0.length / 64) h hp)
              simp only [spec_ValidDev.j0]
              rw [if_neg (by simp; omega)]
  · rw [validDev_no (by unfold headDev; omega)]
    exact Ev.neg h1 (no _)
theorem impl_sectors (l0 : List Int) (l1 : List S101) (a2 : Int) (a3 : Bool) (h0 : l0.length ≤ 4611686018427387904) : impl_Dev_sectors.f l0 l1 a2 a3 = some ((l0.length / 64 : Nat) : Int) := by
  simp only [impl_Dev_sectors.f]
  rw [w64 (by omega) (by omega)]
  congr 1
theorem impl_has (l0 : List Int) (l1 : List S101) (a2 : Int) (a3 : Bool) (s : Int) (h0 : l0.length ≤ 4611686018427387904) : impl_Dev_has.f l0 l1 a2 a3 s = some (decide (0 ≤ s ∧ s < ((l0.length / 64 : Nat) : Int))) := by
  simp only [impl_Dev_has.f, impl_sectors l0 l1 a2 a3 h0, Option.bind_some]
  by_cases h : s ≥ 0
  · rw [if_pos h]
    congr 1
    rw [decide_eq_decide]
    omega
  · rw [if_neg h]
    congr 1
    rw [eq_comm, decide_eq_false_iff_not]
    omega
theorem impl_loop_ev (l0 : List Int) (l1 : List S101) (a2 : Int) (a3 : Bool) (h0 : l0.length ≤ 4611686018427387904) (h : l1.length ≤ 4611686018427387904) (hp : ∀ p ∈ l1, p.f1.length ≤ 9223372036854775807) :
    Ev (fun k => impl_ValidDev.l0 k l1 (l1.length : Int) 0 l0 l1 a2 a3) (l1.all (okPend (l0.length / 64))) := by
  refine all_loop (fun k i => impl_ValidDev.l0 k l1 (l1.length : Int) i l0 l1 a2 a3) l1 (okPend (l0.length / 64)) ?_ ?_
  · intro i p hat hi
    refine ⟨0, fun k _ => ?_⟩
    simp only [impl_ValidDev.l0]
    rw [if_pos (by omega), if_pos (by omega), if_pos (by omega), rdP_at hat, w64s hi h, impl_has l0 l1 a2 a3 _ h0]
    simp only [Option.bind_some]
    by_cases h1 : 0 ≤ p.f0 ∧ p.f0 < ((l0.length / 64 : Nat) : Int)
    · rw [decide_eq_true h1, if_pos rfl]
      by_cases h3 : (p.f1.length : Int) = 64
      · rw [if_pos h3, if_pos (by simp only [okPend, decide_eq_true_eq]; omega)]
      · rw [if_neg h3, if_neg (by simp only [okPend, decide_eq_true_eq]; omega)]
    · rw [decide_eq_false h1, if_neg (by simp), if_neg (by simp only [okPend, decide_eq_true_eq]; omega)]
  · intro k
    simp only [impl_ValidDev.l0]
    rw [if_neg (by omega)]
theorem impl_ValidDev_ev (l0 : List Int) (l1 : List S101) (a2 : Int) (a3 : Bool) (h0 : l0.length ≤ 4611686018427387904) (h : l1.length ≤ 4611686018427387904) (hp : ∀ p ∈ l1, p.f1.length ≤ 9223372036854775807) :
    Ev (fun k => impl_ValidDev.f k l0 l1 a2 a3) (validDev l0 l1 a2) := by
  have no : Ev (fun k => impl_ValidDev.j0 k true l0 l1 a2 a3) false := Ev.last ⟨0, fun k _ => by simp only [impl_ValidDev.j0]; rw [if_pos trivial]⟩
  have no1 : Ev (fun k => impl_ValidDev.j1 k true l0 l1 a2 a3) false := Ev.last ⟨0, fun k _ => by simp only [impl_ValidDev.j1]; rw [if_pos trivial]⟩
  simp only [impl_ValidDev.f, impl_sectors l0 l1 a2 a3 h0, Option.bind_some]
  by_cases h1 : (l0.length : Int) % 64 = 0
  · refine Ev.pos h1 ?_
    by_cases h2 : ((l0.length / 64 : Nat) : Int) < 8
    · rw [validDev_no (by unfold headDev; omega)]
      exact Ev.pos h2 no
    · refine Ev.neg h2 ?_
      by_cases h3 : ((l0.length / 64 : Nat) : Int) > 256
      · rw [validDev_no (by unfold headDev; omega)]
        simp only [h3, decide_true]
        exact no
      · simp only [h3, decide_false]
        by_cases h4 : (l1.length : Int) > 1000
        · rw [validDev_no (by unfold headDev; omega)]
          refine Ev.step ⟨0, fun k _ => ?_⟩ no1
          simp only [impl_ValidDev.j0]
          rw [if_neg (by simp), if_pos h4]
        · by_cases h5 : a2 < -1
          · rw [validDev_no (by unfold headDev; omega)]
            refine Ev.step ⟨0, fun k _ => ?_⟩ no1
            simp only [impl_ValidDev.j0]
            rw [if_neg (by simp), if_neg h4, if_pos h5]
          · by_cases h6 : a2 > 1000000
            · rw [validDev_no (by unfold headDev; omega)]
              refine Ev.step ⟨0, fun k _ => ?_⟩ no1
              simp only [impl_ValidDev.j0]
              rw [if_neg (by simp), if_neg h4, if_neg h5, decide_eq_true h6]
            · rw [validDev_yes (by unfold headDev; omega)]
              refine Ev.step (g := fun k => impl_ValidDev.j1 k false l0 l1 a2 a3) ⟨0, fun k _ => ?_⟩ (Ev.step ⟨0, fun k _ => ?_⟩ (impl_loop_ev l0 l1 a2 a3 h0 h hp))
              · simp only [impl_ValidDev.j0]
                rw [if_neg (by simp), if_neg h4, if_neg h5, decide_eq_false h6]
              · simp only [impl_ValidDev.j1]
                rw [if_neg (by simp)]
  · rw [validDev_no (by unfold headDev; omega)]
    exact Ev.neg h1 no
end Go.Proofs.Ytbdbeccaopphaaa.P
namespace Go.Proofs.Ytbdbeccaopphaaa.Q
open Go.RowKit Go.Proofs.YtbdbeccaopphaaaW.PrintWords Go.Proofs.YtbdbeccaopphaaaW.PrintLast Go.Proofs.YtbdbeccaopphaaaW.PrintMore Go.Proofs.Ytbdbeccaopphaaa.LK
set_option linter.unusedVariables false
set_option linter.unusedSimpArgs false

def bytesV (l : List Int) : List Value := l.map (Value.int .u8)
theorem bytesV_length (l : List Int) : (bytesV l).length = l.length := by unfold bytesV; exact List.length_map ..
theorem bytesV_one (l : List Int) : ∀ v ∈ bytesV l, v.oneCell' = true := by
  intro v hv
  unfold bytesV at hv
  obtain ⟨x, _, rfl⟩ := List.mem_map.1 hv
  rfl
/-- The bytes that a slice leads to, cell by cell. -/
theorem bytes_at {w : World} {A : Option Addr} {l : List Int} (h : Kd.C (Kd.int .u8) w A l.length l) : 0 < l.length → ∃ ad, A = some ad ∧ ∀ j v, (bytesV l)[j]? = some v → w.cell? (ad.add j) = some v := by
  intro hp
  obtain ⟨_, _, h3⟩ := Kd.reads_of_C (enc := Value.int .u8) (d := (0 : Int)) (h1 := fun _ => rfl) h
  obtain ⟨ad, e, hc⟩ := h3 hp
  refine ⟨ad, e, fun j v hv => ?_⟩
  unfold bytesV at hv
  rw [List.getElem?_map] at hv
  obtain ⟨x, hx, rfl⟩ := Option.map_eq_some_iff.1 hv
  have hj := (List.getElem?_eq_some_iff.1 hx).1
  rw [hc j hj, List.getD_eq_getElem?_getD, hx]
  rfl
def impl_sectorOf.f (l : List Int) : Option (List Int) := if l.length = 64 then some l else none
set_option maxHeartbeats 8000000 in
set_option maxRecDepth 100000 in
theorem impl_sectorOf.calls {A : Option Addr} {c : Nat} {l r : List Int} {w : World} (hr : Kd.C (Kd.int .u8) w A l.length l) (h : impl_sectorOf.f l = some r) :
    Calls Try.prog 101 #[.slice A l.length c] w fun e w' => e = .returned (.agg (bytesV r).toArray) ∧ Below w.heap.size w w' := by
  have hl : l.length = 64 := by
    unfold impl_sectorOf.f at h
    by_cases h1 : l.length = 64
    · exact h1
    · rw [if_neg h1] at h; cases h
  unfold impl_sectorOf.f at h
  rw [if_pos hl] at h
  cases h
  have HL := Aside0.mk hl
  have HR := Aside0.mk hr
  clear hl hr
  go_enter Try.func101, Try.ntmps101
  go_wp2_with (first | ((with_reducible refine gate_dst (N := 2) rfl ?_); refine Aside0.out ?_))
  refine Aside0.mk ?_
  refine mk ?hw (N := 2) ?hd (cs := (List.replicate 64 (Value.int .u8 0)).toArray) (t := 105) ?hr ?_
  case hd => rfl
  case hw => rfl
  case hr => first | (go_simp; done) | (go_simp; rfl)
  intro g2 hg2 w1 hb2 hB2
  have H1 := Aside0.mk hB2
  have B2 := Aside0.mk hb2
  have G2 := Aside0.mk hg2
  clear hg2 hb2 hB2
  go_wp2_with (first | ((with_reducible refine gate_dst (N := 3) rfl ?_); refine Aside0.out ?_))
  refine Aside0.mk ?_
  refine mk ?hw3 (N := 3) ?hd3 (cs := (List.replicate 64 (Value.int .u8 0)).toArray) (t := 105) ?hr3 ?_
  case hd3 => rfl
  case hw3 => rfl
  case hr3 => first | (go_simp; done) | (go_simp; rfl)
  intro g3 hg3 w2 hb3 hB3
  have H2 := Aside0.mk (below_step H1.out hB3)
  have B2' := Aside0.mk ((hB3.block g2 (blk_lt B2.out)).trans B2.out)
  have B3 := Aside0.mk hb3
  have G3 := Aside0.mk (show g2 < g3 from hg3 ▸ blk_lt B2.out)
  clear hg3 hb3 hB3 B2 H1
  go_wp2_with (first | ((with_reducible refine gate_builtin (b := .copy) (xs := #[.tmp 4, .tmp 5]) rfl ?_); refine Aside0.out ?_))
  refine Aside0.mk ?_
  refine wpList_copy_splice rfl (.tmp 4) (.tmp 5) 23 23 rfl 5 Try.underlying23 (by kernel_rfl) _ _ 64 64 l.length c rfl rfl g3 0 (List.replicate 64 (Value.int .u8 0)) 105 B3.out (bytesV l) ?hn ?hpos ?hfit (bytesV_one l) g3 w2 (Below.refl _ _) (Nat.le_refl _) ?_
  case hn => rw [bytesV_length]; show _ = min _ _; rw [HL.out]; rfl
  case hpos =>
    intro hp
    rw [bytesV_length] at hp
    obtain ⟨ad, e, hc⟩ := bytes_at HR.out hp
    exact ⟨rfl, ad, e, fun j v hv => pw_cell_below H2.out (hc j v hv)⟩
  case hfit => rw [bytesV_length, HL.out]; simp
  intro w3 hb3 hB3
  have e : splice (List.replicate 64 (Value.int .u8 0)) 0 (bytesV l) = bytesV l := by
    unfold splice
    rw [List.drop_of_length_le (by rw [bytesV_length, HL.out]; simp)]
    simp
  have HB3 := Aside0.mk (show w3.heap[g3]? = some (.cells (bytesV l).toArray 105 (0, 0)) from e ▸ hb3)
  have H3 := Aside0.mk (show Below w.heap.size w w3 from ⟨hB3.os.trans H2.out.os, hB3.tape.trans H2.out.tape, hB3.output.trans H2.out.output, Nat.le_trans H2.out.size hB3.size, fun i hi => (hB3.block i (by have := G2.out; have := G3.out; omega)).trans (H2.out.block i hi)⟩)
  have B4 := Aside0.mk ((hB3.block g2 G3.out).trans B2'.out)
  clear hb3 hB3 e
  go_wp2_with (first | ((with_reducible refine gate_dst (N := 7) rfl ?_); refine Aside0.out ?_))
  refine Aside0.mk ?_
  refine ld ?hw7 rfl ?hx7 HB3.out Try.underlying105 rfl ?hi7 ?_
  case hi7 => rw [List.size_toArray, bytesV_length, HL.out]; kernel_rfl
  case hw7 => rfl
  case hx7 => rfl
  go_wp2_with (first | ((with_reducible refine gate_store (t := 105) (p := 2) rfl ?_); refine Aside0.out ?_))
  refine Aside0.mk ?_
  refine st_all ?hw8 ?hN8 rfl ?hp8 (cs := (bytesV l).toArray) ?hx8 B4.out ?ht8 ?hs8 ?h18 ?_
  case hw8 => rfl
  case hN8 => rfl
  case hp8 => rfl
  case hx8 => rfl
  case ht8 => rw [List.size_toArray, bytesV_length, HL.out]; kernel_rfl
  case hs8 => rw [List.size_toArray, bytesV_length, HL.out]; rfl
  case h18 => exact bytesV_one l
  intro w4 hb4 hS4
  have B5 := Aside0.mk hb4
  have H5 := Aside0.mk (show Below w.heap.size w w4 from ⟨hS4.os.trans H3.out.os, hS4.tape.trans H3.out.tape, hS4.output.trans H3.out.output, Nat.le_trans H3.out.size hS4.size, fun i hi => (hS4.block i (Nat.lt_of_lt_of_le hi H3.out.size) (by have := G2.out; omega)).trans (H3.out.block i hi)⟩)
  clear hb4 hS4
  go_wp2
  refine bodyPost_ret (results_cell_row rfl _ _ g2 105 (bytesV l).toArray (0, 0) _ rfl B5.out Try.underlying105 rfl ?hi9) rfl ?_
  case hi9 => rw [List.size_toArray, bytesV_length, HL.out]; kernel_rfl
  exact ⟨rfl, H5.out⟩
/-- The bytes of sector s: the newest pend's, else the disk's. -/
def secAt (l0 : List Int) (l1 : List S101) (s : Int) : List Int := l1.foldl (fun out p => if p.f0 = s then p.f1 else out) ((l0.take ((s + 1) * 64).toNat).drop (s * 64).toNat)
theorem foldl_length {s : Int} : ∀ (l1 : List S101) (y : List Int), y.length = 64 → (∀ p ∈ l1, p.f1.length = 64) → (l1.foldl (fun out p => if p.f0 = s then p.f1 else out) y).length = 64
  | [], _, h, _ => h
  | p :: ps, y, h, hp => by
    refine foldl_length ps _ ?_ (fun q hq => hp q (List.mem_cons_of_mem _ hq))
    show (if p.f0 = s then p.f1 else y).length = 64
    split
    · exact hp p (List.mem_cons_self ..)
    · exact h
theorem cut_length {l0 : List Int} {s : Int} (hs : 0 ≤ s) (hs2 : (s + 1) * 64 ≤ l0.length) : ((l0.take ((s + 1) * 64).toNat).drop (s * 64).toNat).length = 64 := by
  rw [List.length_drop, List.length_take]
  omega
theorem secAt_length {l0 : List Int} {l1 : List S101} {s : Int} (hs : 0 ≤ s) (hs2 : (s + 1) * 64 ≤ l0.length) (hp : ∀ p ∈ l1, p.f1.length = 64) : (secAt l0 l1 s).length = 64 := foldl_length l1 _ (cut_length hs hs2) hp
set_option maxHeartbeats 8000000 in
set_option maxRecDepth 100000 in
theorem read_calls {A0 A1 : Option Addr} {c0 c1 : Nat} {l0 : List Int} {l1 : List S101} {a2 s : Int} {a3 : Bool} {w : World} (hr0 : Kd.C (Kd.int .u8) w A0 l0.length l0) (hc0 : l0.length ≤ c0) (hr1 : Kd.C k101 w A1 l1.length l1) (hc1 : l1.length ≤ c1)
    (hs : 0 ≤ s) (hs1 : s ≤ 1048576) (hs2 : (s + 1) * 64 ≤ l0.length) (hn : l1.length ≤ 1048576) (hp : ∀ p ∈ l1, p.f1.length = 64) :
    Calls Try.prog 69 #[.agg #[.slice A0 l0.length c0, .slice A1 l1.length c1, .int .i64 a2, .bool a3], .int .i64 s] w fun e w' => e = .returned (.agg (bytesV (secAt l0 l1 s)).toArray) ∧ Below w.heap.size w w' := by
  have j1 : IntKind.i64.wrap (s * 64) = s * 64 := by rw [IntKind.wrap_i64]; omega
  have j2 : IntKind.i64.wrap (s + 1) = s + 1 := by rw [IntKind.wrap_i64]; omega
  have j3 : IntKind.i64.wrap ((s + 1) * 64) = (s + 1) * 64 := by rw [IntKind.wrap_i64]; omega
  obtain ⟨i5, hi5, _, hsz5, _⟩ := info_parts info5
  obtain ⟨Ac, hcut, hA, hC⟩ := print_mid_of (P := Try.prog) (Value.int .u8) 0 23 5 .i64 .i64 Try.underlying23 hi5 hsz5 A0 c0 l0 (s * 64) ((s + 1) * 64) (by omega) (by omega) hs2 hc0
  have HY := Aside0.mk (Kd.C_of_reads (h1 := fun _ => rfl) (hA _ (Kd.reads_of_C hr0)))
  have HL := Aside0.mk (cut_length hs hs2)
  obtain ⟨y, hy⟩ : ∃ y, y = (l0.take ((s + 1) * 64).toNat).drop (s * 64).toNat := ⟨_, rfl⟩
  have hsec : secAt l0 l1 s = l1.foldl (fun out p => if p.f0 = s then p.f1 else out) y := by rw [hy]; rfl
  rw [hsec]
  rw [← hy] at hcut HY HL
  clear hy hsec
  have HR1 := Aside0.mk hr1
  have HP := Aside0.mk hp
  have HN := Aside0.mk hn
  have H0 := Aside0.mk (Bx.refl w)
  clear hA hC hi5 hsz5 hr0 hr1 hp hn hs2 hs1 hs hc0
  go_enter Try.func69, Try.ntmps69
  go_wp2_with (first | ((with_reducible refine gate_dst (N := 2) rfl ?_); refine Aside0.out ?_))
  refine Aside0.mk ?_
  refine mk ?hw2 (N := 2) ?hd2 (cs := #[.slice A0 l0.length c0, .slice A1 l1.length c1, .int .i64 a2, .bool a3]) (t := 35) ?hr2 ?_
  case hd2 => rfl
  case hw2 => rfl
  case hr2 => first | (go_simp; done) | (go_simp; rfl)
  intro g2 hg2 w2 hb2 hB2
  have H1 := Aside0.mk (H0.out.new hg2 hb2 hB2)
  clear hg2 hb2 hB2 H0
  go_wp2_with (first | ((with_reducible refine gate_dst (N := 4) rfl ?_); refine Aside0.out ?_))
  refine Aside0.mk ?_
  refine mk ?hw4 (N := 4) ?hd4 (cs := (List.replicate 64 (Value.int .u8 0)).toArray) (t := 105) ?hr4 ?_
  case hd4 => rfl
  case hw4 => rfl
  case hr4 => first | (go_simp; done) | (go_simp; rfl)
  intro g4 hg4 w4 hb4 hB4
  have H2 := Aside0.mk (H1.out.new hg4 hb4 hB4)
  clear hg4 hb4 hB4 H1
  have hd0 : w4.cell? ⟨g2, 0, none⟩ = some (.slice A0 l0.length c0) := (blk_cell H2.out.gt1 0).trans rfl
  go_wp2_with (first | ((with_reducible refine gate_callee (f := 101) rfl ?_); refine Aside0.out ?_))
  refine Aside0.mk ?_
  refine goesW (some 16) rfl ?hw16 Try.func101 (by kernel_rfl) rfl #[.slice Ac y.length (c0 - (s * 64).toNat)] rfl (by (try simp only [List.map_toArray, List.map_cons, List.map_nil]); first | done | rfl | (simp only [List.length_drop, List.length_take]; rfl)) ?_
  case hw16 => rfl
  refine (impl_sectorOf.calls (Kd.C_below HY.out H2.out.below) (if_pos HL.out)).mono ?_
  rintro e w5 ⟨rfl, hb5⟩
  refine ⟨_, rfl, ?_⟩
  have H3 := Aside0.mk (H2.out.step hb5)
  clear hb5 H2 hd0
  go_wp2_with (first | ((with_reducible refine gate_dst (N := 5) rfl ?_); refine Aside0.out ?_))
  refine Aside0.mk ?_
  refine mk ?hw5 (N := 5) ?hd5 (cs := (List.replicate 64 (Value.int .u8 0)).toArray) (t := 105) ?hr5 ?_
  case hd5 => rfl
  case hw5 => rfl
  case hr5 => first | (go_simp; done) | (go_simp; rfl)
  intro g5 hg5 w6 hb6 hB6
  have H4 := Aside0.mk (H3.out.new hg5 hb6 hB6)
  clear hg5 hb6 hB6 H3
  go_wp2_with (first | ((with_reducible refine gate_store (t := 105) (p := 5) rfl ?_); refine Aside0.out ?_))
  refine Aside0.mk ?_
  refine st_all ?hw8 ?hN8 rfl ?hp8 (cs := (bytesV y).toArray) ?hx8 H4.out.gt0 ?ht8 ?hs8 ?h18 ?_
  case hw8 => rfl
  case hN8 => rfl
  case hp8 => rfl
  case hx8 => rfl
  case ht8 => rw [List.size_toArray, bytesV_length, HL.out]; kernel_rfl
  case hs8 => rw [List.size_toArray, bytesV_length, HL.out]; rfl
  case h18 => exact bytesV_one _
  intro w7 hb7 hS7
  have H5 := Aside0.mk (H4.out.wr0 hb7 hS7)
  clear hb7 hS7 H4
  have hd1 : w7.cell? ⟨g2, 1, none⟩ = some (.slice A1 l1.length c1) := (blk_cell H5.out.gt2 1).trans rfl
  go_wp2
  go_loopg [20] (l1.length + 1) (fun kq v20 w' => ∃ (i : Nat) (x : Int), v20 = .int .i64 x ∧ Aside0 (x = (i : Int)) ∧ Aside0 (kq + i = l1.length + 1) ∧ Aside0 (i ≤ l1.length) ∧ Aside0 (Bx w [(g5, (bytesV ((l1.take i).foldl (fun out p => if p.f0 = s then p.f1 else out) y)).toArray, 105), (g4, (List.replicate 64 (Value.int .u8 0)).toArray, 105), (g2, #[.slice A0 l0.length c0, .slice A1 l1.length c1, .int .i64 a2, .bool a3], 35)] w'))
  case atStart => exact ⟨0, 0, rfl, ⟨rfl⟩, ⟨by omega⟩, ⟨Nat.zero_le _⟩, H5⟩
  case round =>
    clear H5 hd1
    obtain ⟨i, x, rfl, HE, HK, HI, HX⟩ := hrel
    have he := HE.out
    cases gk with
    | zero => exact absurd HK.out (by have := HI.out; omega)
    | succ k1 =>
      by_cases c3 : i < l1.length
      · have C3 := Aside0.mk c3
        have c3b : decide (x < (l1.length : Int)) = true := decide_eq_true (by omega)
        have p5 : (0 ≤ x) = True := eq_true (by omega)
        have q5 : (x < (l1.length : Int)) = True := eq_true (by omega)
        have jn : IntKind.i64.wrap (x + 1) = x + 1 := by have := HN.out; rw [IntKind.wrap_i64]; omega
        obtain ⟨ad, Ap, cp, eA, hcf0, hcf1, hcp, hCp⟩ := at_T101 HR1.out x (by omega) (by omega)
        subst eA
        replace hcf0 := pw_cell_below HX.out.below hcf0
        replace hcf1 := pw_cell_below HX.out.below hcf1
        have hat : l1[i]? = some (rd_T101 l1 x) := by rw [he, P.rdP_at (List.getElem?_eq_getElem c3)]; exact List.getElem?_eq_getElem c3
        have HAt := Aside0.mk hat
        have HCp := Aside0.mk hCp
        clear c3 hcp hCp hat he
        go_wp2_with (first | ((with_reducible refine gate_dst (N := 7) rfl ?_); refine Aside0.out ?_))
        refine Aside0.mk ?_
        refine mk ?hw7 (N := 7) ?hd7 (cs := #[.int .i64 0, .slice none 0 0]) (t := 101) ?hr7 ?_
        case hd7 => rfl
        case hw7 => rfl
        case hr7 => first | (go_simp; done) | (go_simp; rfl)
        intro g7 hg7 w8 hb8 hB8
        have H6 := Aside0.mk (HX.out.new hg7 hb8 hB8)
        clear hg7 hb8 hB8 HX hcf0 hcf1
        go_wp2_with (first | ((with_reducible refine gate_store (t := 101) (p := 7) rfl ?_); refine Aside0.out ?_))
        refine Aside0.mk ?_
        refine st_all ?hw9 ?hN9 rfl ?hp9 (cs := #[.int .i64 (rd_T101 l1 x).f0, .slice Ap (rd_T101 l1 x).f1.length cp]) ?hx9 H6.out.gt0 (by kernel_rfl) rfl (by simp [Value.oneCell']) ?_
        case hw9 => rfl
        case hN9 => rfl
        case hp9 => rfl
        case hx9 => rfl
        intro w9 hb9 hS9
        have H7 := Aside0.mk (H6.out.wr0 hb9 hS9)
        clear hb9 hS9 H6
        have he0 : w9.cell? ⟨g7, 0, none⟩ = some (.int .i64 (rd_T101 l1 x).f0) := (blk_cell H7.out.gt0 0).trans rfl
        have he1 : w9.cell? ⟨g7, 1, none⟩ = some (.slice Ap (rd_T101 l1 x).f1.length cp) := (blk_cell H7.out.gt0 1).trans rfl
        have HF := Aside0.mk (show ∀ y : List Int, (l1.take (i + 1)).foldl (fun out p => if p.f0 = s then p.f1 else out) y = (if (rd_T101 l1 x).f0 = s then (rd_T101 l1 x).f1 else (l1.take i).foldl (fun out p => if p.f0 = s then p.f1 else out) y) by
          intro y
          rw [List.take_add_one, HAt.out]
          simp only [Option.toList_some, List.foldl_append, List.foldl_cons, List.foldl_nil])
        by_cases c5 : (rd_T101 l1 x).f0 = s
        · have c5b : ((rd_T101 l1 x).f0 == s) = true := beq_iff_eq.mpr c5
          go_wp2_with (first | ((with_reducible refine gate_callee (f := 101) rfl ?_); refine Aside0.out ?_))
          refine Aside0.mk ?_
          refine goesW (some 30) rfl ?hw30 Try.func101 (by kernel_rfl) rfl #[.slice Ap (rd_T101 l1 x).f1.length cp] rfl (by (try simp only [List.map_toArray, List.map_cons, List.map_nil]); first | done | rfl) ?_
          case hw30 => rfl
          refine (impl_sectorOf.calls (Kd.C_below HCp.out H7.out.below) (if_pos (HP.out _ (List.mem_of_getElem? HAt.out)))).mono ?_
          rintro e w10 ⟨rfl, hb10⟩
          refine ⟨_, rfl, ?_⟩
          have H8 := Aside0.mk (H7.out.step hb10)
          clear hb10 H7 he0 he1
          go_wp2_with (first | ((with_reducible refine gate_store (t := 105) (p := 5) rfl ?_); refine Aside0.out ?_))
          refine Aside0.mk ?_
          refine st_all ?hw11 ?hN11 rfl ?hp11 (cs := (bytesV (rd_T101 l1 x).f1).toArray) ?hx11 H8.out.gt1 ?ht11 ?hs11 ?h111 ?_
          case hw11 => rfl
          case hN11 => rfl
          case hp11 => rfl
          case hx11 => rfl
          case ht11 => rw [List.size_toArray, bytesV_length, HP.out _ (List.mem_of_getElem? HAt.out)]; kernel_rfl
          case hs11 => rw [List.size_toArray, List.size_toArray, bytesV_length, bytesV_length, HP.out _ (List.mem_of_getElem? HAt.out), foldl_length _ _ HL.out (fun q hq => HP.out q (List.mem_of_mem_take hq))]
          case h111 => exact bytesV_one _
          intro w11 hb11 hS11
          have H9 := Aside0.mk (H8.out.wr1 hb11 hS11).tail
          rw [← if_pos (c := (rd_T101 l1 x).f0 = s) (t := (rd_T101 l1 x).f1) (e := (l1.take i).foldl (fun out p => if p.f0 = s then p.f1 else out) y) c5, ← HF.out] at H9
          clear hb11 hS11 H8
          go_wp2
          go_roundg k1
          case measure => omega
          case rel => exact ⟨i + 1, x + 1, rfl, ⟨by rw [HE.out]; rfl⟩, ⟨by have := HK.out; omega⟩, ⟨by have := C3.out; omega⟩, H9⟩
        · have c5b : ((rd_T101 l1 x).f0 == s) = false := beq_eq_false_iff_ne.mpr c5
          have H9 := Aside0.mk H7.out.tail
          rw [← if_neg (c := (rd_T101 l1 x).f0 = s) (t := (rd_T101 l1 x).f1) (e := (l1.take i).foldl (fun out p => if p.f0 = s then p.f1 else out) y) c5, ← HF.out] at H9
          go_wp2
          go_roundg k1
          case measure => omega
          case rel => exact ⟨i + 1, x + 1, rfl, ⟨by rw [HE.out]; rfl⟩, ⟨by have := HK.out; omega⟩, ⟨by have := C3.out; omega⟩, H9⟩
      · have c3b : decide (x < (l1.length : Int)) = false := decide_eq_false (by omega)
        have ei : l1.take i = l1 := List.take_of_length_le (by omega)
        rw [ei] at HX
        go_wp2_with (first | ((with_reducible refine gate_dst (N := 32) rfl ?_); refine Aside0.out ?_))
        refine Aside0.mk ?_
        refine ld ?hw12 rfl ?hx12 HX.out.gt0 Try.underlying105 rfl ?hi12 ?_
        case hw12 => rfl
        case hx12 => rfl
        case hi12 => rw [List.size_toArray, bytesV_length, foldl_length _ _ HL.out HP.out]; kernel_rfl
        go_wp2_with (first | ((with_reducible refine gate_store (t := 105) (p := 4) rfl ?_); refine Aside0.out ?_))
        refine Aside0.mk ?_
        refine st_all ?hw13 ?hN13 rfl ?hp13 (cs := (bytesV (l1.foldl (fun out p => if p.f0 = s then p.f1 else out) y)).toArray) ?hx13 HX.out.gt1 ?ht13 ?hs13 ?h113 ?_
        case hw13 => rfl
        case hN13 => rfl
        case hp13 => rfl
        case hx13 => rfl
        case ht13 => rw [List.size_toArray, bytesV_length, show (l1.foldl (fun out p => if p.f0 = s then p.f1 else out) y).length = 64 from foldl_length _ _ HL.out HP.out]; kernel_rfl
        case hs13 => rw [List.size_toArray, bytesV_length, show (l1.foldl (fun out p => if p.f0 = s then p.f1 else out) y).length = 64 from foldl_length _ _ HL.out HP.out]; rfl
        case h113 => exact bytesV_one _
        intro w13 hb13 hS13
        have H9 := Aside0.mk (HX.out.wr1 hb13 hS13)
        clear hb13 hS13 HX
        go_wp2
        refine bodyPost_ret (results_cell_row rfl _ _ g4 105 (bytesV (l1.foldl (fun out p => if p.f0 = s then p.f1 else out) y)).toArray (0, 0) _ rfl H9.out.gt1 Try.underlying105 rfl ?hi14) rfl ?_
        case hi14 => rw [List.size_toArray, bytesV_length, show (l1.foldl (fun out p => if p.f0 = s then p.f1 else out) y).length = 64 from foldl_length _ _ HL.out HP.out]; kernel_rfl
        exact ⟨rfl, H9.out.below⟩
/-- What DevRead answers: sizes that no device has aside. -/
def impl_DevRead.f (l0_0 : List Int) (l0_1 : List S101) (a0_2 : Int) (_a0_3 : Bool) (a1 : Int) : Option (List Int) :=
  if l0_0.length ≤ 4611686018427387904 ∧ l0_1.length ≤ 4611686018427387904 ∧ ∀ p ∈ l0_1, p.f1.length ≤ 4611686018427387904 then (if P.validDev l0_0 l0_1 a0_2 = true ∧ 0 ≤ a1 ∧ a1 < ((l0_0.length / 64 : Nat) : Int) then some (secAt l0_0 l0_1 a1) else some []) else none
/-- A whole array is a row. -/
theorem R_arr {w : World} {base g t : Nat} {l : List Int} (hb : w.heap[g]? = some (.cells (bytesV l).toArray t (0, 0))) (hg : base ≤ g) (hl : l.length ≤ 9223372036854775807) : Kd.R (Kd.int .u8) t w base (fun _ => True) (.slice (some ⟨g, 0, none⟩) l.length l.length) l := by
  refine ⟨fun _ _ => trivial, bytesV l, ⟨?_, .inr ⟨g, l.length, (bytesV l).toArray, rfl, hg, hb, Nat.le_refl _, by unfold maxLen; exact hl, ?_, ?_⟩⟩, ?_⟩
  · rw [bytesV_length]; exact (Nat.mul_one _).symm
  · rw [List.size_toArray, bytesV_length]; exact (Nat.mul_one _).symm
  · show (bytesV l).take (l.length * 1) = bytesV l
    rw [Nat.mul_one, List.take_of_length_le (by rw [bytesV_length]; exact Nat.le_refl _)]
  · refine ⟨by rw [bytesV_length]; exact (Nat.mul_one _).symm, fun j p hj => ?_⟩
    show ((bytesV l).drop (j * 1)).take 1 = [.int .u8 p]
    obtain ⟨hj1, rfl⟩ := List.getElem?_eq_some_iff.1 hj
    unfold bytesV
    rw [Nat.mul_one, ← List.map_drop, ← List.map_take, List.drop_eq_getElem_cons hj1]
    rfl
set_option maxHeartbeats 8000000 in
set_option maxRecDepth 100000 in
theorem impl_DevRead.calls (A0_0 : Option Addr) (c0_0 : Nat) (l0_0 : List Int) (A0_1 : Option Addr) (c0_1 : Nat) (l0_1 : List S101) (a0_2 : Int) (a0_3 : Bool) (a1 : Int) (r : List Int) (w : World) (hr0_0 : Kd.C (Kd.int .u8) w A0_0 l0_0.length l0_0) (hc0_0 : l0_0.length ≤ c0_0)
    (hr0_1 : Kd.C k101 w A0_1 l0_1.length l0_1) (hc0_1 : l0_1.length ≤ c0_1) (h : impl_DevRead.f l0_0 l0_1 a0_2 a0_3 a1 = some r) :
    Calls Try.prog 32 #[.agg #[.slice A0_0 l0_0.length c0_0, .slice A0_1 l0_1.length c0_1, .int .i64 a0_2, .bool a0_3], .int .i64 a1] w fun e w' => ∃ v0_ : Value, e = .returned (v0_) ∧ Kd.R (Kd.int .u8) 105 w' w.heap.size (fun _ => True) v0_ r ∧ Below w.heap.size w w' := by
  unfold impl_DevRead.f at h
  by_cases hsz : l0_0.length ≤ 4611686018427387904 ∧ l0_1.length ≤ 4611686018427387904 ∧ ∀ p ∈ l0_1, p.f1.length ≤ 4611686018427387904
  case neg => rw [if_neg hsz] at h; cases h
  rw [if_pos hsz] at h
  obtain ⟨k, hv⟩ := (P.impl_ValidDev_ev l0_0 l0_1 a0_2 a0_3 hsz.1 hsz.2.1 (fun p hp => Nat.le_trans (hsz.2.2 p hp) (by decide))).ex
  have hh := P.impl_has l0_0 l0_1 a0_2 a0_3 a1 hsz.1
  have HV := Aside0.mk hv
  have HH := Aside0.mk hh
  have HR0 := Aside0.mk hr0_0
  have HR1 := Aside0.mk hr0_1
  have HC0 := Aside0.mk hc0_0
  have HC1 := Aside0.mk hc0_1
  have H := Aside0.mk h
  have H0 := Aside0.mk (Bx.refl w)
  clear hr0_0 hr0_1 hc0_0 hc0_1 hv hh h hsz
  go_enter Try.func32, Try.ntmps32
  go_wp2_with (first | ((with_reducible refine gate_dst (N := 2) rfl ?_); refine Aside0.out ?_))
  refine Aside0.mk ?_
  refine mk ?hw2 (N := 2) ?hd2 (cs := #[.slice A0_0 l0_0.length c0_0, .slice A0_1 l0_1.length c0_1, .int .i64 a0_2, .bool a0_3]) (t := 35) ?hr2 ?_
  case hd2 => rfl
  case hw2 => rfl
  case hr2 => first | (go_simp; done) | (go_simp; rfl)
  intro g2 hg2 w2 hb2 hB2
  have H1 := Aside0.mk (H0.out.new hg2 hb2 hB2)
  clear hg2 hb2 hB2 H0
  go_wp2_with (first | ((with_reducible refine gate_dst (N := 6) rfl ?_); refine Aside0.out ?_))
  refine Aside0.mk ?_
  refine ld ?hw6 rfl ?hx6 H1.out.gt0 Try.underlying35 rfl (by kernel_rfl) ?_
  case hw6 => rfl
  case hx6 => rfl
  go_wp2_with (first | ((with_reducible refine gate_callee (f := 30) rfl ?_); refine Aside0.out ?_))
  refine Aside0.mk ?_
  refine goesW (some 7) rfl ?hw7 Try.func30 (by kernel_rfl) rfl #[.agg #[.slice A0_0 l0_0.length c0_0, .slice A0_1 l0_1.length c0_1, .int .i64 a0_2, .bool a0_3]] rfl (by (try simp only [List.map_toArray, List.map_cons, List.map_nil]); first | done | rfl) ?_
  case hw7 => rfl
  refine (impl_ValidDev.calls k _ _ l0_0 _ _ l0_1 a0_2 a0_3 _ _ (Kd.C_below HR0.out H1.out.below) HC0.out (Kd.C_below HR1.out H1.out.below) HC1.out HV.out).mono ?_
  rintro e w3 ⟨rfl, hb3⟩
  refine ⟨_, rfl, ?_⟩
  have H2 := Aside0.mk (H1.out.step hb3)
  clear hb3 H1
  by_cases hval : P.validDev l0_0 l0_1 a0_2 = true
  · rw [hval]
    go_wp2_with (first | ((with_reducible refine gate_dst (N := 10) rfl ?_); refine Aside0.out ?_))
    refine Aside0.mk ?_
    refine ld ?hw8 rfl ?hx8 H2.out.gt0 Try.underlying35 rfl (by kernel_rfl) ?_
    case hw8 => rfl
    case hx8 => rfl
    go_wp2_with (first | ((with_reducible refine gate_callee (f := 68) rfl ?_); refine Aside0.out ?_))
    refine Aside0.mk ?_
    refine goesW (some 12) rfl ?hw9 Try.func68 (by kernel_rfl) rfl #[.agg #[.slice A0_0 l0_0.length c0_0, .slice A0_1 l0_1.length c0_1, .int .i64 a0_2, .bool a0_3], .int .i64 a1] rfl (by (try simp only [List.map_toArray, List.map_cons, List.map_nil]); first | done | rfl) ?_
    case hw9 => rfl
    refine (impl_Dev_has.calls _ _ l0_0 _ _ l0_1 a0_2 a0_3 a1 _ _ (Kd.C_below HR0.out H2.out.below) HC0.out (Kd.C_below HR1.out H2.out.below) HC1.out HH.out).mono ?_
    rintro e w4 ⟨rfl, hb4⟩
    refine ⟨_, rfl, ?_⟩
    have H3 := Aside0.mk (H2.out.step hb4)
    clear hb4 H2
    by_cases hin : 0 ≤ a1 ∧ a1 < ((l0_0.length / 64 : Nat) : Int)
    · rw [decide_eq_true hin]
      have h := H.out
      rw [if_pos ⟨hval, hin⟩] at h
      cases h
      have HD := Aside0.mk (P.validDev_is.1 hval)
      have HIN := Aside0.mk hin
      go_wp2_with (first | ((with_reducible refine gate_dst (N := 15) rfl ?_); refine Aside0.out ?_))
      refine Aside0.mk ?_
      refine ld ?hw15 rfl ?hx15 H3.out.gt0 Try.underlying35 rfl (by kernel_rfl) ?_
      case hw15 => rfl
      case hx15 => rfl
      go_wp2_with (first | ((with_reducible refine gate_callee (f := 69) rfl ?_); refine Aside0.out ?_))
      refine Aside0.mk ?_
      refine goesW (some 17) rfl ?hw17 Try.func69 (by kernel_rfl) rfl #[.agg #[.slice A0_0 l0_0.length c0_0, .slice A0_1 l0_1.length c0_1, .int .i64 a0_2, .bool a0_3], .int .i64 a1] rfl (by (try simp only [List.map_toArray, List.map_cons, List.map_nil]); first | done | rfl) ?_
      case hw17 => rfl
      have hd := HD.out
      unfold P.headDev at hd
      have hsz : (a1 + 1) * 64 ≤ (l0_0.length : Int) := by have := HIN.out; omega
      have HS := Aside0.mk (secAt_length HIN.out.1 hsz (fun p hp => (hd.2 p hp).2.2))
      refine (read_calls (Kd.C_below HR0.out H3.out.below) HC0.out (Kd.C_below HR1.out H3.out.below) HC1.out HIN.out.1 (by have := HIN.out; omega) hsz (by omega) (fun p hp => (hd.2 p hp).2.2)).mono ?_
      clear hd hsz hin
      rintro e w5 ⟨rfl, hb5⟩
      refine ⟨_, rfl, ?_⟩
      have H4 := Aside0.mk (H3.out.step hb5)
      clear hb5 H3
      go_wp2_with (first | ((with_reducible refine gate_dst (N := 5) rfl ?_); refine Aside0.out ?_))
      refine Aside0.mk ?_
      refine mk ?hw5 (N := 5) ?hd5 (cs := (List.replicate 64 (Value.int .u8 0)).toArray) (t := 105) ?hr5 ?_
      case hd5 => rfl
      case hw5 => rfl
      case hr5 => first | (go_simp; done) | (go_simp; rfl)
      intro g5 hg5 w6 hb6 hB6
      have H5 := Aside0.mk (H4.out.new hg5 hb6 hB6)
      clear hg5 hb6 hB6 H4
      go_wp2_with (first | ((with_reducible refine gate_store (t := 105) (p := 5) rfl ?_); refine Aside0.out ?_))
      refine Aside0.mk ?_
      refine st_all ?hw13 ?hN13 rfl ?hp13 (cs := (bytesV (secAt l0_0 l0_1 a1)).toArray) ?hx13 H5.out.gt0 ?ht13 ?hs13 ?h113 ?_
      case hw13 => rfl
      case hN13 => rfl
      case hp13 => rfl
      case hx13 => rfl
      case ht13 => rw [List.size_toArray, bytesV_length, HS.out]; kernel_rfl
      case hs13 => rw [List.size_toArray, bytesV_length, HS.out]; rfl
      case h113 => exact bytesV_one _
      intro w13 hb13 hS13
      have H6 := Aside0.mk (H5.out.wr0 hb13 hS13)
      clear hb13 hS13 H5
      go_wp2
      go_ret
      have hR := R_arr H6.out.gt0 (H6.out.at_ _ (List.mem_cons_self ..)).1 (by rw [HS.out]; decide)
      rw [HS.out] at hR
      exact ⟨_, rfl, hR, H6.out.below⟩
    · rw [decide_eq_false hin]
      have h := H.out
      rw [if_neg (fun h => hin h.2)] at h
      cases h
      go_wp2
      go_ret
      exact ⟨_, rfl, Kd.R_nil _ _ _ _ _, H3.out.below⟩
  · rw [Bool.eq_false_iff.mpr hval]
    have h := H.out
    rw [if_neg (fun h => hval h.1)] at h
    cases h
    go_wp2
    go_ret
    exact ⟨_, rfl, Kd.R_nil _ _ _ _ _, H2.out.below⟩
end Go.Proofs.Ytbdbeccaopphaaa.Q
namespace Go.Proofs.Ytbdbeccaopphaaa.P
open Go.RowKit Go.Proofs.YtbdbeccaopphaaaW.PrintWords Go.Proofs.Ytbdbeccaopphaaa.Q
set_option linter.unusedVariables false
set_option linter.unusedSimpArgs false
theorem clone_ev (l0 : List Int) (l1 : List S101) (a2 : Int) (a3 : Bool) (h0 : l0.length ≤ 2097152) (h : l1.length ≤ 2097152) (hp : ∀ p ∈ l1, p.f1.length ≤ 2097152) : Ev (fun k => impl_Dev_clone.f k l0 l1 a2 a3) (l0, l1, a2, a3) := by
  have h1 := Ev.loop0 (fun k (s : Int × List S101) => impl_Dev_clone.l0 k l1 (l1.length : Int) s.1 l0 s.2 a2 a3) (fun i => ((i : Int), l1.take i)) l1.length (l0, l1, a2, a3) ?_ ?_
  · simp only [impl_Dev_clone.f, List.length_nil, List.nil_append]
    exact Ev.pos (by omega) h1
  · intro i hi
    obtain ⟨p, hat⟩ := some_at hi
    have hpl := hp p (List.mem_of_getElem? hat)
    have ht : (l1.take i).length = i := by rw [List.length_take]; omega
    refine ⟨0, fun k _ => ?_⟩
    simp only [impl_Dev_clone.l0]
    rw [if_pos (by omega), if_pos (by omega), if_pos (by omega), rdP_at hat, if_pos (by rw [List.length_nil]; omega), if_pos (by omega), w64s hi (by omega), List.take_add_one, hat]
    rfl
  · refine Ev.last ⟨0, fun k _ => ?_⟩
    simp only [impl_Dev_clone.l0]
    rw [if_neg (by omega), List.take_length]
end Go.Proofs.Ytbdbeccaopphaaa.P
namespace Go.Proofs.Ytbdbeccaopphaaa.Q
open Go.RowKit Go.Proofs.YtbdbeccaopphaaaW.PrintWords Go.Proofs.YtbdbeccaopphaaaW.PrintLast Go.Proofs.YtbdbeccaopphaaaW.PrintMore Go.Proofs.Ytbdbeccaopphaaa.LK
set_option linter.unusedVariables false
set_option linter.unusedSimpArgs false
def fuelOf (f : Int) : Int := if f > 0 then f - 1 else f
def deadOf (f : Int) (d : Bool) : Bool := if f = 0 then true else d
set_option maxHeartbeats 8000000 in
set_option maxRecDepth 100000 in
theorem spend_calls {g : Nat} {v0 v1 : Value} {f : Int} {d : Bool} {w : World} (hb : w.heap[g]? = some (.cells #[v0, v1, .int .i64 f, .bool d] 35 (0, 0))) (hf : -1 ≤ f ∧ f ≤ 1000000) :
    Calls Try.prog 73 #[.pointer (some ⟨g, 0, none⟩)] w fun e w' => e = .returned (.bool (decide (f ≠ 0))) ∧ w'.heap[g]? = some (.cells #[v0, v1, .int .i64 (fuelOf f), .bool (deadOf f d)] 35 (0, 0)) ∧ Stp (fun k => k = g) w w' := by
  have HB := Aside0.mk hb
  have hc2 : w.cell? ⟨g, 2, none⟩ = some (.int .i64 f) := (blk_cell hb 2).trans rfl
  have jn : IntKind.i64.wrap (f - 1) = f - 1 := by rw [IntKind.wrap_i64]; omega
  have HF := Aside0.mk hf
  clear hb hf
  by_cases c0 : f = 0
  · have c0b : (f == 0) = true := beq_iff_eq.mpr c0
    go_enter Try.func73, Try.ntmps73
    go_wp2_with (first | ((with_reducible refine gate_store (t := 4) (p := 11) rfl ?_); refine Aside0.out ?_))
    refine Aside0.mk ?_
    refine st (o' := 3) (u := .bool true) (seg := [.bool true]) ?hw1 ?hN1 rfl ?hp1 ?hx1 rfl HB.out (by kernel_rfl) (by show 3 + 1 ≤ 4; omega) (by simp [Value.oneCell']) ?_
    case hw1 => rfl
    case hN1 => rfl
    case hp1 => rfl
    case hx1 => rfl
    intro w1 hb1 hS1
    have HB1 := Aside0.mk hb1
    have HS1 := Aside0.mk hS1
    clear hb1 hS1
    go_wp2
    go_ret
    refine ⟨by first | rfl | (rw [c0]; rfl), ?_, HS1.out⟩
    have := HB1.out
    simpa [fuelOf, deadOf, c0] using this
  · have c0b : (f == 0) = false := beq_eq_false_iff_ne.mpr c0
    by_cases c1 : f > 0
    · have c1b : decide (0 < f) = true := decide_eq_true c1
      go_enter Try.func73, Try.ntmps73
      go_wp2_with (first | ((with_reducible refine gate_store (t := 2) (p := 24) rfl ?_); refine Aside0.out ?_))
      refine Aside0.mk ?_
      refine st (o' := 2) (u := .int .i64 (f - 1)) (seg := [.int .i64 (f - 1)]) ?hw2 ?hN2 rfl ?hp2 ?hx2 rfl HB.out (by kernel_rfl) ?hf2 (by simp [Value.oneCell']) ?_
      case hw2 => rfl
      case hN2 => rfl
      case hp2 => rfl
      case hx2 => rfl
      case hf2 => show 2 + 1 ≤ 4; omega
      intro w1 hb1 hS1
      have HB1 := Aside0.mk hb1
      have HS1 := Aside0.mk hS1
      clear hb1 hS1
      go_wp2
      go_ret
      refine ⟨by first | rfl | (rw [decide_eq_true (show f ≠ 0 from c0)]; rfl) | (simp [c0]), ?_, HS1.out⟩
      have := HB1.out
      rw [show fuelOf f = f - 1 from if_pos (by omega), show deadOf f d = d from if_neg (by omega)]
      exact this
    · have c1b : decide (0 < f) = false := decide_eq_false c1
      go_enter Try.func73, Try.ntmps73
      go_wp2
      go_ret
      refine ⟨by first | rfl | (rw [decide_eq_true (show f ≠ 0 from c0)]; rfl) | (simp [c0]), ?_, Stp.refl _ _⟩
      rw [show fuelOf f = f from if_neg (by omega), show deadOf f d = d from if_neg (by omega)]
      exact HB.out
/-- Where DevWrite writes. -/
def canWrite (l0 : List Int) (l1 : List S101) (a2 : Int) (a3 : Bool) (s : Int) (data : List Int) : Prop := P.validDev l0 l1 a2 = true ∧ a3 = false ∧ (0 ≤ s ∧ s < ((l0.length / 64 : Nat) : Int)) ∧ data.length = 64 ∧ l1.length ≠ 1000
instance (l0 : List Int) (l1 : List S101) (a2 : Int) (a3 : Bool) (s : Int) (data : List Int) : Decidable (canWrite l0 l1 a2 a3 s data) := by unfold canWrite; infer_instance
def sizesW (l0 : List Int) (l1 : List S101) (data : List Int) : Prop := l0.length ≤ 2097152 ∧ l1.length ≤ 2097152 ∧ (∀ p ∈ l1, p.f1.length ≤ 2097152) ∧ data.length ≤ 2097152
instance (l0 : List Int) (l1 : List S101) (data : List Int) : Decidable (sizesW l0 l1 data) := by unfold sizesW; infer_instance
def devWritten (l0 : List Int) (l1 : List S101) (a2 : Int) (a3 : Bool) (s : Int) (data : List Int) : List Int × List S101 × Int × Bool := (l0, (if a2 = 0 then l1 else l1 ++ [⟨s, data⟩]), fuelOf a2, deadOf a2 a3)
def impl_DevWrite.f (l0_0 : List Int) (l0_1 : List S101) (a0_2 : Int) (a0_3 : Bool) (a1 : Int) (l2 : List Int) : Option (List Int × List S101 × Int × Bool) :=
  if sizesW l0_0 l0_1 l2 then some (if canWrite l0_0 l0_1 a0_2 a0_3 a1 l2 then devWritten l0_0 l0_1 a0_2 a0_3 a1 l2 else (l0_0, l0_1, a0_2, a0_3)) else none
set_option maxHeartbeats 8000000 in
set_option maxRecDepth 100000 in
theorem impl_DevWrite.calls (A0_0 : Option Addr) (c0_0 : Nat) (l0_0 : List Int) (A0_1 : Option Addr) (c0_1 : Nat) (l0_1 : List S101) (a0_2 : Int) (a0_3 : Bool) (a1 : Int) (A2 : Option Addr) (c2 : Nat) (l2 : List Int) (r1 : List Int) (r2 : List S101) (r3 : Int) (r4 : Bool) (w : World)
    (hr0_0 : Kd.C (Kd.int .u8) w A0_0 l0_0.length l0_0) (hc0_0 : l0_0.length ≤ c0_0) (hr0_1 : Kd.C k101 w A0_1 l0_1.length l0_1) (hc0_1 : l0_1.length ≤ c0_1) (hr2 : Kd.C (Kd.int .u8) w A2 l2.length l2) (hc2 : l2.length ≤ c2) (h : impl_DevWrite.f l0_0 l0_1 a0_2 a0_3 a1 l2 = some (r1, r2, r3, r4)) :
    Calls Try.prog 36 #[.agg #[.slice A0_0 l0_0.length c0_0, .slice A0_1 l0_1.length c0_1, .int .i64 a0_2, .bool a0_3], .int .i64 a1, .slice A2 l2.length c2] w fun e w' => ∃ v0_ v1_ : Value, e = .returned (.agg #[v0_, v1_, .int .i64 r3, .bool r4]) ∧ Kd.R (Kd.int .u8) 5 w' w.heap.size (fun _ => True) v0_ r1 ∧ Kd.S k101 101 w' w.heap.size (fun k_ => some k_ ≠ (v0_ : Value).ownBlock) v1_ r2 ∧ Below w.heap.size w w' := by
  unfold impl_DevWrite.f at h
  by_cases hsz : sizesW l0_0 l0_1 l2
  case neg => rw [if_neg hsz] at h; cases h
  rw [if_pos hsz] at h
  have h := Option.some.inj h
  obtain ⟨k, hv⟩ := (P.impl_ValidDev_ev l0_0 l0_1 a0_2 a0_3 (Nat.le_trans hsz.1 (by decide)) (Nat.le_trans hsz.2.1 (by decide)) (fun p hp => Nat.le_trans (hsz.2.2.1 p hp) (by decide))).ex
  obtain ⟨k2, hcl⟩ := (P.clone_ev l0_0 l0_1 a0_2 a0_3 hsz.1 hsz.2.1 hsz.2.2.1).ex
  have HV := Aside0.mk hv
  have HCl := Aside0.mk hcl
  have HH := Aside0.mk (P.impl_has l0_0 l0_1 a0_2 a0_3 a1 (Nat.le_trans hsz.1 (by decide)))
  have HR0 := Aside0.mk hr0_0
  have HR1 := Aside0.mk hr0_1
  have HR2 := Aside0.mk hr2
  have HC0 := Aside0.mk hc0_0
  have HC1 := Aside0.mk hc0_1
  have H := Aside0.mk h
  have HSz := Aside0.mk hsz
  have H0 := Aside0.mk (Bx.refl w)
  clear hr0_0 hr0_1 hc0_0 hc0_1 hr2 hv hcl h hsz
  go_enter Try.func36, Try.ntmps36
  go_wp2_with (first | ((with_reducible refine gate_dst (N := 3) rfl ?_); refine Aside0.out ?_))
  refine Aside0.mk ?_
  refine mk ?hw3 (N := 3) ?hd3 (cs := #[.slice A0_0 l0_0.length c0_0, .slice A0_1 l0_1.length c0_1, .int .i64 a0_2, .bool a0_3]) (t := 35) ?hr3 ?_
  case hd3 => rfl
  case hw3 => rfl
  case hr3 => first | (go_simp; done) | (go_simp; rfl)
  intro g3 hg3 w3 hb3 hB3
  have H1 := Aside0.mk (H0.out.new hg3 hb3 hB3)
  clear hg3 hb3 hB3 H0
  go_wp2_with (first | ((with_reducible refine gate_dst (N := 6) rfl ?_); refine Aside0.out ?_))
  refine Aside0.mk ?_
  refine mk ?hw6 (N := 6) ?hd6 (cs := #[.slice none 0 0, .slice none 0 0, .int .i64 0, .bool false]) (t := 35) ?hr6 ?_
  case hd6 => rfl
  case hw6 => rfl
  case hr6 => first | (go_simp; done) | (go_simp; rfl)
  intro g6 hg6 w6 hb6 hB6
  have H2 := Aside0.mk (H1.out.new hg6 hb6 hB6)
  clear hg6 hb6 hB6 H1
  go_wp2_with (first | ((with_reducible refine gate_dst (N := 8) rfl ?_); refine Aside0.out ?_))
  refine Aside0.mk ?_
  refine ld ?hw8 rfl ?hx8 H2.out.gt1 Try.underlying35 rfl (by kernel_rfl) ?_
  case hw8 => rfl
  case hx8 => rfl
  go_wp2_with (first | ((with_reducible refine gate_callee (f := 72) rfl ?_); refine Aside0.out ?_))
  refine Aside0.mk ?_
  refine goesW (some 9) rfl ?hw9 Try.func72 (by kernel_rfl) rfl #[.agg #[.slice A0_0 l0_0.length c0_0, .slice A0_1 l0_1.length c0_1, .int .i64 a0_2, .bool a0_3]] rfl (by (try simp only [List.map_toArray, List.map_cons, List.map_nil]); first | done | rfl) ?_
  case hw9 => rfl
  refine (impl_Dev_clone.calls k2 _ _ l0_0 _ _ l0_1 a0_2 a0_3 _ _ _ _ _ (Kd.C_below HR0.out H2.out.below) HC0.out (Kd.C_below HR1.out H2.out.below) HC1.out HCl.out).mono ?_
  rintro e w9 ⟨v0, v1, rfl, hro, hso, hb9⟩
  refine ⟨_, rfl, ?_⟩
  have HS6 := Aside0.mk H2.out.below.size
  have HG6 := Aside0.mk (show g6 < w6.heap.size from blk_lt H2.out.gt0)
  have HB96 := Aside0.mk hb9
  have HO0 := Aside0.mk hro
  have HO1 := Aside0.mk hso
  obtain ⟨B0, d0, eB0⟩ := Kd.R_slice HO0.out
  obtain ⟨B1, d1, eB1⟩ := Kd.S_slice HO1.out
  subst eB0 eB1
  have H3 := Aside0.mk (H2.out.step hb9)
  clear hb9 H2 hro hso
  go_wp2_with (first | ((with_reducible refine gate_dst (N := 7) rfl ?_); refine Aside0.out ?_))
  refine Aside0.mk ?_
  refine mk ?hw7 (N := 7) ?hd7 (cs := #[.slice none 0 0, .slice none 0 0, .int .i64 0, .bool false]) (t := 35) ?hr7 ?_
  case hd7 => rfl
  case hw7 => rfl
  case hr7 => first | (go_simp; done) | (go_simp; rfl)
  intro g7 hg7 w10 hb10 hB10
  have H4 := Aside0.mk (H3.out.new hg7 hb10 hB10)
  have HG7 := Aside0.mk (Nat.le_of_eq hg7.symm)
  have HW4 := Aside0.mk hB10
  clear hg7 hb10 hB10 H3
  go_wp2_with (first | ((with_reducible refine gate_store (t := 35) (p := 7) rfl ?_); refine Aside0.out ?_))
  refine Aside0.mk ?_
  refine st_all ?hw11 ?hN11 rfl ?hp11 (cs := #[.slice B0 l0_0.length d0, .slice B1 l0_1.length d1, .int .i64 a0_2, .bool a0_3]) ?hx11 H4.out.gt0 (by kernel_rfl) rfl (by simp [Value.oneCell']) ?_
  case hw11 => rfl
  case hN11 => rfl
  case hp11 => rfl
  case hx11 => rfl
  intro w11 hb11 hS11
  have H5 := Aside0.mk (H4.out.wr0 hb11 hS11)
  have HB9 := Aside0.mk (show Below w9.heap.size w9 w11 from ⟨hS11.os.trans HW4.out.os, hS11.tape.trans HW4.out.tape, hS11.output.trans HW4.out.output, Nat.le_trans HW4.out.size hS11.size, fun i hi => (hS11.block i (Nat.lt_of_lt_of_le hi HW4.out.size) (by have := HG7.out; omega)).trans (HW4.out.block i hi)⟩)
  clear hb11 hS11 H4
  go_wp2_with (first | ((with_reducible refine gate_dst (N := 10) rfl ?_); refine Aside0.out ?_))
  refine Aside0.mk ?_
  refine ld ?hw12 rfl ?hx12 H5.out.gt2 Try.underlying35 rfl (by kernel_rfl) ?_
  case hw12 => rfl
  case hx12 => rfl
  go_wp2_with (first | ((with_reducible refine gate_callee (f := 30) rfl ?_); refine Aside0.out ?_))
  refine Aside0.mk ?_
  refine goesW (some 11) rfl ?hw13 Try.func30 (by kernel_rfl) rfl #[.agg #[.slice A0_0 l0_0.length c0_0, .slice A0_1 l0_1.length c0_1, .int .i64 a0_2, .bool a0_3]] rfl (by (try simp only [List.map_toArray, List.map_cons, List.map_nil]); first | done | rfl) ?_
  case hw13 => rfl
  refine (impl_ValidDev.calls k _ _ l0_0 _ _ l0_1 a0_2 a0_3 _ _ (Kd.C_below HR0.out H5.out.below) HC0.out (Kd.C_below HR1.out H5.out.below) HC1.out HV.out).mono ?_
  rintro e w13 ⟨rfl, hb13⟩
  refine ⟨_, rfl, ?_⟩
  have H6 := Aside0.mk (H5.out.step hb13)
  have n1 := Aside0.mk (below_step HB9.out hb13)
  clear hb13 H5 HB9
  have HB9 := n1
  clear n1
  by_cases hval : P.validDev l0_0 l0_1 a0_2 = true
  case neg =>
    rw [Bool.eq_false_iff.mpr hval]
    go_wp2_with (first | ((with_reducible refine gate_dst (N := 34) rfl ?_); refine Aside0.out ?_))
    refine Aside0.mk ?_
    refine ld ?hwa20 rfl ?hxa20 H6.out.gt0 Try.underlying35 rfl (by kernel_rfl) ?_
    case hwa20 => rfl
    case hxa20 => rfl
    go_wp2_with (first | ((with_reducible refine gate_store (t := 35) (p := 6) rfl ?_); refine Aside0.out ?_))
    refine Aside0.mk ?_
    refine st_all ?hwb20 ?hNb20 rfl ?hpb20 (cs := #[.slice B0 l0_0.length d0, .slice B1 l0_1.length d1, .int .i64 a0_2, .bool a0_3]) ?hxb20 H6.out.gt1 (by kernel_rfl) rfl ?h1b20 ?_
    case hwb20 => rfl
    case hNb20 => rfl
    case hpb20 => rfl
    case hxb20 => rfl
    case h1b20 => simp [Value.oneCell']
    intro wE hbE hSE
    have HE := Aside0.mk (H6.out.wr1 hbE hSE)
    have HER := Aside0.mk (Kd.R_lower (R_away (Kd.R_below HO0.out HB9.out) hSE HG6.out) HS6.out)
    have HES := Aside0.mk (Kd.S_lower (S_away (Kd.S_below HO1.out HB9.out) hSE HG6.out) HS6.out)
    clear hbE hSE H6
    go_wp2
    refine bodyPost_ret (results_cell_row rfl _ _ g6 35 #[.slice B0 l0_0.length d0, .slice B1 l0_1.length d1, .int .i64 a0_2, .bool a0_3] (0, 0) _ rfl HE.out.gt1 Try.underlying35 rfl (by kernel_rfl)) rfl ?_
    have h := H.out
    rw [if_neg (show ¬ canWrite l0_0 l0_1 a0_2 a0_3 a1 l2 from fun h => hval h.1)] at h
    cases h
    exact ⟨_, _, rfl, HER.out, HES.out, HE.out.below⟩
  rw [hval]
  have hd3 : w13.cell? ⟨g3, 3, none⟩ = some (.bool a0_3) := (blk_cell H6.out.gt2 3).trans rfl
  by_cases hdead : a0_3 = false
  case neg =>
    obtain rfl : a0_3 = true := by simpa using hdead
    clear hdead
    go_wp2_with (first | ((with_reducible refine gate_dst (N := 34) rfl ?_); refine Aside0.out ?_))
    refine Aside0.mk ?_
    refine ld ?hwa21 rfl ?hxa21 H6.out.gt0 Try.underlying35 rfl (by kernel_rfl) ?_
    case hwa21 => rfl
    case hxa21 => rfl
    go_wp2_with (first | ((with_reducible refine gate_store (t := 35) (p := 6) rfl ?_); refine Aside0.out ?_))
    refine Aside0.mk ?_
    refine st_all ?hwb21 ?hNb21 rfl ?hpb21 (cs := #[.slice B0 l0_0.length d0, .slice B1 l0_1.length d1, .int .i64 a0_2, .bool true]) ?hxb21 H6.out.gt1 (by kernel_rfl) rfl ?h1b21 ?_
    case hwb21 => rfl
    case hNb21 => rfl
    case hpb21 => rfl
    case hxb21 => rfl
    case h1b21 => simp [Value.oneCell']
    intro wE hbE hSE
    have HE := Aside0.mk (H6.out.wr1 hbE hSE)
    have HER := Aside0.mk (Kd.R_lower (R_away (Kd.R_below HO0.out HB9.out) hSE HG6.out) HS6.out)
    have HES := Aside0.mk (Kd.S_lower (S_away (Kd.S_below HO1.out HB9.out) hSE HG6.out) HS6.out)
    clear hbE hSE H6
    go_wp2
    refine bodyPost_ret (results_cell_row rfl _ _ g6 35 #[.slice B0 l0_0.length d0, .slice B1 l0_1.length d1, .int .i64 a0_2, .bool true] (0, 0) _ rfl HE.out.gt1 Try.underlying35 rfl (by kernel_rfl)) rfl ?_
    have h := H.out
    rw [if_neg (show ¬ canWrite l0_0 l0_1 a0_2 true a1 l2 from fun h => by cases h.2.1)] at h
    cases h
    exact ⟨_, _, rfl, HER.out, HES.out, HE.out.below⟩
  subst hdead
  by_cases hin : 0 ≤ a1 ∧ a1 < ((l0_0.length / 64 : Nat) : Int)
  all_goals
    go_wp2_with (first | ((with_reducible refine gate_dst (N := 18) rfl ?_); refine Aside0.out ?_))
    refine Aside0.mk ?_
    refine ld ?hw18 rfl ?hx18 H6.out.gt2 Try.underlying35 rfl (by kernel_rfl) ?_
    case hw18 => rfl
    case hx18 => rfl
    go_wp2_with (first | ((with_reducible refine gate_callee (f := 68) rfl ?_); refine Aside0.out ?_))
    refine Aside0.mk ?_
    refine goesW (some 20) rfl ?hw20 Try.func68 (by kernel_rfl) rfl #[.agg #[.slice A0_0 l0_0.length c0_0, .slice A0_1 l0_1.length c0_1, .int .i64 a0_2, .bool false], .int .i64 a1] rfl (by (try simp only [List.map_toArray, List.map_cons, List.map_nil]); first | done | rfl) ?_
    case hw20 => rfl
    refine (impl_Dev_has.calls _ _ l0_0 _ _ l0_1 a0_2 false a1 _ _ (Kd.C_below HR0.out H6.out.below) HC0.out (Kd.C_below HR1.out H6.out.below) HC1.out HH.out).mono ?_
    rintro e w20 ⟨rfl, hb20⟩
    refine ⟨_, rfl, ?_⟩
    have H7 := Aside0.mk (H6.out.step hb20)
    have n1 := Aside0.mk (below_step HB9.out hb20)
    clear hb20 H6 HB9 hd3
    have HB9 := n1
    clear n1
  rotate_left
  · rw [decide_eq_false hin]
    go_wp2_with (first | ((with_reducible refine gate_dst (N := 34) rfl ?_); refine Aside0.out ?_))
    refine Aside0.mk ?_
    refine ld ?hwa22 rfl ?hxa22 H7.out.gt0 Try.underlying35 rfl (by kernel_rfl) ?_
    case hwa22 => rfl
    case hxa22 => rfl
    go_wp2_with (first | ((with_reducible refine gate_store (t := 35) (p := 6) rfl ?_); refine Aside0.out ?_))
    refine Aside0.mk ?_
    refine st_all ?hwb22 ?hNb22 rfl ?hpb22 (cs := #[.slice B0 l0_0.length d0, .slice B1 l0_1.length d1, .int .i64 a0_2, .bool false]) ?hxb22 H7.out.gt1 (by kernel_rfl) rfl (by simp [Value.oneCell']) ?_
    case hwb22 => rfl
    case hNb22 => rfl
    case hpb22 => rfl
    case hxb22 => rfl
    intro wE hbE hSE
    have HE := Aside0.mk (H7.out.wr1 hbE hSE)
    have HER := Aside0.mk (Kd.R_lower (R_away (Kd.R_below HO0.out HB9.out) hSE HG6.out) HS6.out)
    have HES := Aside0.mk (Kd.S_lower (S_away (Kd.S_below HO1.out HB9.out) hSE HG6.out) HS6.out)
    clear hbE hSE H7
    go_wp2
    refine bodyPost_ret (results_cell_row rfl _ _ g6 35 #[.slice B0 l0_0.length d0, .slice B1 l0_1.length d1, .int .i64 a0_2, .bool false] (0, 0) _ rfl HE.out.gt1 Try.underlying35 rfl (by kernel_rfl)) rfl ?_
    have h := H.out
    rw [if_neg (show ¬ canWrite l0_0 l0_1 a0_2 false a1 l2 from fun h => hin h.2.2.1)] at h
    cases h
    exact ⟨_, _, rfl, Kd.R_mono HER.out (fun _ _ => trivial), HES.out, HE.out.below⟩
  rw [decide_eq_true hin]
  have hd1 : w20.cell? ⟨g3, 1, none⟩ = some (.slice A0_1 l0_1.length c0_1) := (blk_cell H7.out.gt2 1).trans rfl
  by_cases h64 : l2.length = 64
  case neg =>
    have h64b : ((l2.length : Int) != 64) = true := bne_iff_ne.mpr (by omega)
    have H64 := Aside0.mk h64
    clear h64
    go_wp2_with (first | ((with_reducible refine gate_dst (N := 34) rfl ?_); refine Aside0.out ?_))
    refine Aside0.mk ?_
    refine ld ?hwa23 rfl ?hxa23 H7.out.gt0 Try.underlying35 rfl (by kernel_rfl) ?_
    case hwa23 => rfl
    case hxa23 => rfl
    go_wp2_with (first | ((with_reducible refine gate_store (t := 35) (p := 6) rfl ?_); refine Aside0.out ?_))
    refine Aside0.mk ?_
    refine st_all ?hwb23 ?hNb23 rfl ?hpb23 (cs := #[.slice B0 l0_0.length d0, .slice B1 l0_1.length d1, .int .i64 a0_2, .bool false]) ?hxb23 H7.out.gt1 (by kernel_rfl) rfl (by simp [Value.oneCell']) ?_
    case hwb23 => rfl
    case hNb23 => rfl
    case hpb23 => rfl
    case hxb23 => rfl
    intro wE hbE hSE
    have HE := Aside0.mk (H7.out.wr1 hbE hSE)
    have HER := Aside0.mk (Kd.R_lower (R_away (Kd.R_below HO0.out HB9.out) hSE HG6.out) HS6.out)
    have HES := Aside0.mk (Kd.S_lower (S_away (Kd.S_below HO1.out HB9.out) hSE HG6.out) HS6.out)
    clear hbE hSE H7
    go_wp2
    refine bodyPost_ret (results_cell_row rfl _ _ g6 35 #[.slice B0 l0_0.length d0, .slice B1 l0_1.length d1, .int .i64 a0_2, .bool false] (0, 0) _ rfl HE.out.gt1 Try.underlying35 rfl (by kernel_rfl)) rfl ?_
    have h := H.out
    rw [if_neg (show ¬ canWrite l0_0 l0_1 a0_2 false a1 l2 from fun h => H64.out h.2.2.2.1)] at h
    cases h
    exact ⟨_, _, rfl, Kd.R_mono HER.out (fun _ _ => trivial), HES.out, HE.out.below⟩
  have h64b : ((l2.length : Int) != 64) = false := bne_eq_false_iff_eq.mpr (by omega)
  have H64 := Aside0.mk h64
  clear h64
  by_cases hfull : l0_1.length = 1000
  case pos =>
    have hfb : ((l0_1.length : Int) == 1000) = true := beq_iff_eq.mpr (by omega)
    have HFu := Aside0.mk hfull
    clear hfull
    go_wp2_with (first | ((with_reducible refine gate_dst (N := 34) rfl ?_); refine Aside0.out ?_))
    refine Aside0.mk ?_
    refine ld ?hwa24 rfl ?hxa24 H7.out.gt0 Try.underlying35 rfl (by kernel_rfl) ?_
    case hwa24 => rfl
    case hxa24 => rfl
    go_wp2_with (first | ((with_reducible refine gate_store (t := 35) (p := 6) rfl ?_); refine Aside0.out ?_))
    refine Aside0.mk ?_
    refine st_all ?hwb24 ?hNb24 rfl ?hpb24 (cs := #[.slice B0 l0_0.length d0, .slice B1 l0_1.length d1, .int .i64 a0_2, .bool false]) ?hxb24 H7.out.gt1 (by kernel_rfl) rfl (by simp [Value.oneCell']) ?_
    case hwb24 => rfl
    case hNb24 => rfl
    case hpb24 => rfl
    case hxb24 => rfl
    intro wE hbE hSE
    have HE := Aside0.mk (H7.out.wr1 hbE hSE)
    have HER := Aside0.mk (Kd.R_lower (R_away (Kd.R_below HO0.out HB9.out) hSE HG6.out) HS6.out)
    have HES := Aside0.mk (Kd.S_lower (S_away (Kd.S_below HO1.out HB9.out) hSE HG6.out) HS6.out)
    clear hbE hSE H7
    go_wp2
    refine bodyPost_ret (results_cell_row rfl _ _ g6 35 #[.slice B0 l0_0.length d0, .slice B1 l0_1.length d1, .int .i64 a0_2, .bool false] (0, 0) _ rfl HE.out.gt1 Try.underlying35 rfl (by kernel_rfl)) rfl ?_
    have h := H.out
    rw [if_neg (show ¬ canWrite l0_0 l0_1 a0_2 false a1 l2 from fun h => h.2.2.2.2 HFu.out)] at h
    cases h
    exact ⟨_, _, rfl, Kd.R_mono HER.out (fun _ _ => trivial), HES.out, HE.out.below⟩
  have hfb : ((l0_1.length : Int) == 1000) = false := beq_eq_false_iff_ne.mpr (by omega)
  have HCan := Aside0.mk (show canWrite l0_0 l0_1 a0_2 false a1 l2 from ⟨hval, rfl, hin, H64.out, hfull⟩)
  clear hfull
  have hfuel : -1 ≤ a0_2 ∧ a0_2 ≤ 1000000 := by have := (P.validDev_is.1 hval).1; unfold P.headDev at this; omega
  have h := H.out
  rw [if_pos HCan.out] at h
  unfold devWritten at h
  have HF := Aside0.mk h
  clear h
  go_wp2_with (first | ((with_reducible refine gate_callee (f := 73) rfl ?_); refine Aside0.out ?_))
  refine Aside0.mk ?_
  refine goesW (some 35) rfl ?hw35 Try.func73 (by kernel_rfl) rfl #[.pointer (some ⟨g7, 0, none⟩)] rfl (by (try simp only [List.map_toArray, List.map_cons, List.map_nil]); first | done | rfl) ?_
  case hw35 => rfl
  refine (spend_calls H7.out.gt0 hfuel).mono ?_
  rintro e w21 ⟨rfl, hb21, hS21⟩
  refine ⟨_, rfl, ?_⟩
  have H8 := Aside0.mk (H7.out.wr0 hb21 hS21)
  have n1 := Aside0.mk (show Below w9.heap.size w9 w21 from ⟨hS21.os.trans HB9.out.os, hS21.tape.trans HB9.out.tape, hS21.output.trans HB9.out.output, Nat.le_trans HB9.out.size hS21.size, fun i hi => (hS21.block i (Nat.lt_of_lt_of_le hi HB9.out.size) (by have := HG7.out; omega)).trans (HB9.out.block i hi)⟩)
  clear hb21 hS21 H7 HB9 hd1 hfuel
  have HB9 := n1
  clear n1
  by_cases hz : a0_2 = 0
  case pos =>
    subst hz
    rw [show decide ((0 : Int) ≠ 0) = false from by decide]
    go_wp2_with (first | ((with_reducible refine gate_dst (N := 45) rfl ?_); refine Aside0.out ?_))
    refine Aside0.mk ?_
    refine ld ?hwa25 rfl ?hxa25 H8.out.gt0 Try.underlying35 rfl (by kernel_rfl) ?_
    case hwa25 => rfl
    case hxa25 => rfl
    go_wp2_with (first | ((with_reducible refine gate_store (t := 35) (p := 6) rfl ?_); refine Aside0.out ?_))
    refine Aside0.mk ?_
    refine st_all ?hwb25 ?hNb25 rfl ?hpb25 (cs := #[.slice B0 l0_0.length d0, .slice B1 l0_1.length d1, .int .i64 (fuelOf 0), .bool (deadOf 0 false)]) ?hxb25 H8.out.gt1 (by kernel_rfl) rfl (by simp [Value.oneCell']) ?_
    case hwb25 => rfl
    case hNb25 => rfl
    case hpb25 => rfl
    case hxb25 => rfl
    intro wE hbE hSE
    have HE := Aside0.mk (H8.out.wr1 hbE hSE)
    have HER := Aside0.mk (Kd.R_lower (R_away (Kd.R_below HO0.out HB9.out) hSE HG6.out) HS6.out)
    have HES := Aside0.mk (Kd.S_lower (S_away (Kd.S_below HO1.out HB9.out) hSE HG6.out) HS6.out)
    clear hbE hSE H8
    go_wp2
    refine bodyPost_ret (results_cell_row rfl _ _ g6 35 #[.slice B0 l0_0.length d0, .slice B1 l0_1.length d1, .int .i64 (fuelOf 0), .bool (deadOf 0 false)] (0, 0) _ rfl HE.out.gt1 Try.underlying35 rfl (by kernel_rfl)) rfl ?_
    have h := HF.out
    rw [if_pos trivial] at h
    cases h
    exact ⟨_, _, rfl, Kd.R_mono HER.out (fun _ _ => trivial), HES.out, HE.out.below⟩
  rw [decide_eq_true (show a0_2 ≠ 0 from hz)]
  have HZ := Aside0.mk hz
  clear hz
  have h := HF.out
  rw [if_neg HZ.out] at h
  have HF2 := Aside0.mk h
  clear h HF
  try go_wp2
  have H9 := Aside0.mk H8.out.drew
  have HB22 := Aside0.mk (below_drew1 HB9.out)
  refine start_ (n := 10) (S := fun w' => w'.cell? ⟨g7, 1, none⟩ = some (.slice B1 l0_1.length d1)) (ds := [9]) #[false, false, false, false, false, false, false, false, false, false] (by kernel_rfl) rfl rfl ((blk_cell H9.out.gt0 1).trans rfl) (fun hHeld => ?_)
  clear H8 HB9
  generalize w21.drew = w22 at H9 HB22 hHeld ⊢
  refine pure_ (i := 0) (N := some 36) (v := ?_) (a' := ?_) #[true, false, false, false, false, false, false, false, false, false] rfl rfl (by kernel_rfl) (fun _ _ _ h => h) (Or.inl ⟨by rfl, ?_⟩) ?_ ?_
  rotate_left
  · intro w'
    go_simp
    with_reducible rfl
  rotate_left
  · simp only [Act.put, List.setIfInBounds_toArray, List.set_cons_zero, List.set_cons_succ, i64_w, i32_w]
    rfl
  refine take_ (i := 1) (N := some 37) (v := ?_) (a' := ?_) #[true, true, false, false, false, false, false, false, false, false] rfl rfl (by kernel_rfl) (fun _ _ _ h => h) (Or.inl ⟨by rfl, ?_⟩) hHeld ?_ ?_
  rotate_left
  · rintro w' s0
    go_simp
    with_reducible rfl
  rotate_left
  · simp only [Act.put, List.setIfInBounds_toArray, List.set_cons_zero, List.set_cons_succ, i64_w, i32_w]
    rfl
  refine pure_ (i := 2) (N := some 38) (v := ?_) (a' := ?_) #[true, true, true, false, false, false, false, false, false, false] rfl rfl (by kernel_rfl) (fun _ _ _ h => h) (Or.inl ⟨by rfl, ?_⟩) ?_ ?_
  rotate_left
  · intro w'
    go_simp
    with_reducible rfl
  rotate_left
  · simp only [Act.put, List.setIfInBounds_toArray, List.set_cons_zero, List.set_cons_succ, i64_w, i32_w]
    rfl
  refine pure_ (i := 3) (N := some 39) (v := ?_) (a' := ?_) #[true, true, true, true, false, false, false, false, false, false] rfl rfl (by kernel_rfl) (fun _ _ _ h => h) (Or.inl ⟨by rfl, ?_⟩) ?_ ?_
  rotate_left
  · intro w'
    go_simp
    with_reducible rfl
  rotate_left
  · simp only [Act.put, List.setIfInBounds_toArray, List.set_cons_zero, List.set_cons_succ, i64_w, i32_w]
    rfl
  refine one_ (i := 4) (N := some 40) #[true, true, true, true, true, false, false, false, false, false] rfl rfl (by kernel_rfl) (by decide) (fun K hK => ?_)
  refine Kd.R_append_rows_step (Kd.int .u8) (w0 := w6) w6.heap.size (by rfl) (.const (.slice none 0 0)) (.tmp 39) 23 5 (.int .u8 0) 1 rfl Try.underlying23 info5 rfl (by decide) (by omega) (.slice none 0 0) ([] : List Int) l2 _ _ _ (fun k_ => w22.heap.size ≤ k_) (fun _ => False) rfl rfl ?aO ?aR (fun _ _ h => h) (fun _ h => h.elim) ?aF ?aB ?aS ?aL ?_
  case aR => exact Kd.C_below HR2.out H9.out.below
  case aF => exact fun _ h => h
  case aB => exact below_step HB96.out HB22.out
  case aO => exact Kd.R_nil _ _ _ _ _
  case aS => exact Nat.le_trans HB96.out.size HB22.out.size
  case aL => have := HSz.out.2.2.2; simp only [List.length_nil]; omega
  intro v40 w23 ho hb hg hat
  have hb' : Below w22.heap.size w22 w23 := ⟨hg.os, hg.tape, hg.output, hg.size, fun i hi => hg.block i hi (by simp [Value.ownBlock])⟩
  have H10 := Aside0.mk (H9.out.step hb')
  have HB23 := Aside0.mk (below_step HB22.out hb')
  have HN := Aside0.mk (show w9.heap.size ≤ w22.heap.size from HB22.out.size)
  rw [List.nil_append] at ho
  obtain ⟨A40, c40, e40⟩ := Kd.R_slice ho
  subst e40
  have HO40 := Aside0.mk ho
  have HB6 := Aside0.mk hb
  clear ho hb hg hat hb' H9 HB22
  refine hK.out _ _ ((blk_cell H10.out.gt0 1).trans rfl) (fun hHeld => ?_)
  clear hK K
  refine norm_ (a' := ?_) ?_ ?_
  rotate_left
  · show Act.put _ (some 40) _ = _
    simp only [Act.put, List.setIfInBounds_toArray, List.set_cons_zero, List.set_cons_succ, i64_w, i32_w]
    rfl
  refine pure_ (i := 5) (N := some 41) (v := ?_) (a' := ?_) #[true, true, true, true, true, true, false, false, false, false] rfl rfl (by kernel_rfl) (fun _ _ _ h => h) (Or.inl ⟨by rfl, ?_⟩) ?_ ?_
  rotate_left
  · intro w'
    go_simp
    with_reducible rfl
  rotate_left
  · simp only [Act.put, List.setIfInBounds_toArray, List.set_cons_zero, List.set_cons_succ, i64_w, i32_w]
    rfl
  refine one_ (i := 6) (N := some 42) #[true, true, true, true, true, true, true, false, false, false] rfl rfl (by kernel_rfl) (by decide) (fun K hK => ?_)
  refine value_ (w1 := ?_) (v := ?_) (by rfl) rfl ?_ ?_
  rotate_left 2
  · go_simp
    constructor
    · rfl
    · rfl
  refine hK.out _ _ ((blk_cell (blk_alloc H10.out.gt0 _) 1).trans rfl) (fun hHeld => ?_)
  clear hK K
  refine norm_ (a' := ?_) ?_ ?_
  rotate_left
  · show Act.put _ (some 42) _ = _
    simp only [Act.put, List.setIfInBounds_toArray, List.set_cons_zero, List.set_cons_succ, i64_w, i32_w]
    rfl
  refine one_ (i := 7) (N := some 43) #[true, true, true, true, true, true, true, true, false, false] rfl rfl (by kernel_rfl) (by decide) (fun K hK => ?_)
  refine Kd.S_append_step k101 (w0 := w6) w6.heap.size (by rfl) (.tmp 37) (.tmp 42) 33 101 (.agg #[(.int .i64 0), (.slice none 0 0)]) 32 rfl Try.underlying33 info101 rfl (by decide) (by omega) (.slice B1 l0_1.length d1) l0_1 (⟨a1, l2⟩ : S101) [.int .i64 a1, .slice A40 l2.length c40] (fun k_ => some k_ ≠ (.slice B0 l0_0.length d0 : Value).ownBlock) (fun k_ => w22.heap.size ≤ k_ ∧ k_ < w23.heap.size) rfl rfl ?bP ?bK ?bF ?bO ?bB ?bS ?bL ?_
  case bP => exact k101_mkM _ _ _ (⟨a1, l2⟩ : S101) (Kd.R_mono (Kd.R_bound HO40.out) (fun k hk => ⟨hk.1, hk.2.2.1⟩))
  case bK => exact fun k hk => ⟨fun he => by have := Kd.R_lt HO0.out k he.symm; have := HN.out; omega, fun he => by have := Kd.S_lt HO1.out k he.symm; have := HN.out; omega⟩
  case bF => exact fun k hk he => by have := Kd.R_lt HO0.out k he.symm; have := HB23.out.size; omega
  case bO => exact Kd.S_mono (Kd.S_below (Kd.S_bound HO1.out) HB23.out) (fun k hk => ⟨hk.1, fun h => by have := hk.2.2.1; have := HN.out; omega⟩)
  case bB => exact HB6.out
  case bS => exact Nat.le_trans HB96.out.size HB23.out.size
  case bL => have := HSz.out.2.1; omega
  intro v43 w24 ho hb hg hat
  obtain ⟨A43, c43, e43⟩ := Kd.S_slice ho
  rw [show (l0_1 ++ [(⟨a1, l2⟩ : S101)]).length = l0_1.length + 1 from by simp] at e43
  subst e43
  have HS43 := Aside0.mk ho
  have hst := Stp.grown (S := fun k => some k = (.slice B1 l0_1.length d1 : Value).ownBlock) hg (fun k hk => hk.symm)
  have H11 := Aside0.mk (H10.out.stp hst (fun k hk => by have := Kd.S_base HO1.out k hk.symm; have := HS6.out; omega) (fun b hb he => by
    obtain ⟨cells, hc⟩ := Kd.S_typed (Kd.S_below HO1.out HB23.out) b.1 he.symm
    have h2 := (H10.out.at_ b hb).2
    rw [hc] at h2
    simp only [List.mem_cons, List.not_mem_nil, or_false] at hb
    rcases hb with rfl | rfl | rfl <;> cases h2))
  have HR24 := Aside0.mk (Kd.R_step (Kd.R_tight rfl (Kd.R_below HO0.out HB23.out)) (fun k hk hlt => hst.block k hlt (fun he => (Kd.S_R HO1.out).1 k he.symm hk)))
  clear ho hb hg hat hst H10
  refine hK.out _ _ ((blk_cell H11.out.gt0 1).trans rfl) (fun hHeld => ?_)
  clear hK K
  refine norm_ (a' := ?_) ?_ ?_
  rotate_left
  · show Act.put _ (some 43) _ = _
    simp only [Act.put, List.setIfInBounds_toArray, List.set_cons_zero, List.set_cons_succ, i64_w, i32_w]
    rfl
  refine pure_ (i := 8) (N := some 44) (v := ?_) (a' := ?_) #[true, true, true, true, true, true, true, true, true, false] rfl rfl (by kernel_rfl) (fun _ _ _ h => h) (Or.inl ⟨by rfl, ?_⟩) ?_ ?_
  rotate_left
  · intro w'
    go_simp
    with_reducible rfl
  rotate_left
  · simp only [Act.put, List.setIfInBounds_toArray, List.set_cons_zero, List.set_cons_succ, i64_w, i32_w]
    rfl
  refine last_ (i := 9) (N := none) #[true, true, true, true, true, true, true, true, true, true] rfl rfl (by kernel_rfl) (by decide) (fun K hK => ?_)
  have hs9 : w24.cell? ⟨g7, 1, none⟩ = some (.slice B1 l0_1.length d1) := (blk_cell H11.out.gt0 1).trans rfl
  have hf9 := blk_frozen H11.out.gt0 1
  refine skip_ (w1 := ?_) (by rfl) rfl ?_ ?_
  rotate_left
  · go_simp
    rfl
  refine hK.out _ _ ?_
  clear hK K
  refine done_ (by kernel_rfl) ?_
  have hst := Stp.set (S := fun k => k = g7) w24 (p := ⟨g7, 1, none⟩) rfl (.slice A43 (l0_1.length + 1) c43)
  have hbk := blk_put (cs := #[.slice B0 l0_0.length d0, .slice B1 l0_1.length d1, .int .i64 (fuelOf a0_2), .bool (deadOf a0_2 false)]) (cs' := #[.slice B0 l0_0.length d0, .slice A43 (l0_1.length + 1) c43, .int .i64 (fuelOf a0_2), .bool (deadOf a0_2 false)]) H11.out.gt0 1 (.slice A43 (l0_1.length + 1) c43) rfl
  have H12 := Aside0.mk (H11.out.wr0 hbk hst)
  have HR25 := Aside0.mk (R_other HR24.out H11.out.gt0 (by decide) hst)
  have HS25 := Aside0.mk (S_other HS43.out H11.out.gt0 (by decide) hst)
  generalize (w24.setCell ⟨g7, 1, none⟩ (.slice A43 (l0_1.length + 1) c43)) = w25 at H12 HR25 HS25 ⊢
  clear hst hbk hs9 hf9 H11 HR24 HS43
  go_wp2_with (first | ((with_reducible refine gate_dst (N := 45) rfl ?_); refine Aside0.out ?_))
  refine Aside0.mk ?_
  refine ld ?hwa26 rfl ?hxa26 H12.out.gt0 Try.underlying35 rfl (by kernel_rfl) ?_
  case hwa26 => rfl
  case hxa26 => rfl
  go_wp2_with (first | ((with_reducible refine gate_store (t := 35) (p := 6) rfl ?_); refine Aside0.out ?_))
  refine Aside0.mk ?_
  refine st_all ?hwb26 ?hNb26 rfl ?hpb26 (cs := #[.slice B0 l0_0.length d0, .slice A43 (l0_1.length + 1) c43, .int .i64 (fuelOf a0_2), .bool (deadOf a0_2 false)]) ?hxb26 H12.out.gt1 (by kernel_rfl) rfl (by simp [Value.oneCell']) ?_
  case hwb26 => rfl
  case hNb26 => rfl
  case hpb26 => rfl
  case hxb26 => rfl
  intro wE hbE hSE
  have HE := Aside0.mk (H12.out.wr1 hbE hSE)
  have HER := Aside0.mk (Kd.R_lower (R_away HR25.out hSE HG6.out) HS6.out)
  have HES := Aside0.mk (Kd.S_lower (S_away HS25.out hSE HG6.out) HS6.out)
  clear hbE hSE H12
  go_wp2
  refine bodyPost_ret (results_cell_row rfl _ _ g6 35 #[.slice B0 l0_0.length d0, .slice A43 (l0_1.length + 1) c43, .int .i64 (fuelOf a0_2), .bool (deadOf a0_2 false)] (0, 0) _ rfl HE.out.gt1 Try.underlying35 rfl (by kernel_rfl)) rfl ?_
  have h := HF2.out
  cases h
  exact ⟨_, _, rfl, Kd.R_mono HER.out (fun _ _ => trivial), HES.out, HE.out.below⟩
end Go.Proofs.Ytbdbeccaopphaaa.Q
