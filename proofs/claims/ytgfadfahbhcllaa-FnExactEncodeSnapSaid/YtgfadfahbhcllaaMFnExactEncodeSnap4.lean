/- Part 4 of 6 of the proof that the law FnExactEncodeSnap returns true at every input. No further condition. -/
import Derived.Test.YtgfadfahbhcllaaMFnExactEncodeSnap3
namespace Go.Proofs.Ytgfadfahbhcllaa.Q
open Go.RowKit Go.Proofs.YtgfadfahbhcllaaW.PrintWords Go.Proofs.YtgfadfahbhcllaaW.PrintLast Go.Proofs.Ytgfadfahbhcllaa.LK Go.Proofs.YtgfadfahbhcllaaW.PrintMore
attribute [local go_sem] max2_int min2_int max_two min_two max_three min_three max_four min_four   -- for this text's walks alone
set_option linter.unusedVariables false
set_option linter.unusedSimpArgs false

/-! ### impl_Snap_good: function 67 -/
def impl_Snap_good.f (k : Nat) (a0_0 : Int) (a0_1 : Int) (l0_2 : List Int) (l0_3 : List Int) : Option (Bool) := if a0_0 ≤ 4000000000 then (if a0_1 ≥ 1 then (if a0_1 ≤ 4000000000 then ((impl_goodSerials.f k l0_2).bind fun t102 => (if t102 = true then (if (l0_2.length : Int) ≤ 16 then ((impl_goodSerials.f k l0_3).bind fun t103 => (some t103)) else (some false)) else (some false))) else (some false)) else (some false)) else (some false)
theorem impl_Snap_good.mono : ∀ a0 a1 a2 a3 k, LeO (impl_Snap_good.f k a0 a1 a2 a3) (impl_Snap_good.f (k + 1) a0 a1 a2 a3) := by
  intro a0 a1 a2 a3 k
  unfold impl_Snap_good.f
  repeat' first
      | (with_reducible exact impl_goodSerials.mono _ _)
      | (with_reducible exact LeO.refl _)
      | (with_reducible exact LeO.none _)
      | (with_reducible refine LeO.ite ?_ ?_)
      | (with_reducible refine LeO.bind ?_ (fun _ => ?_))
      | exact impl_goodSerials.mono _ _
      | exact LeO.none _
      | refine LeO.ite ?_ ?_
      | refine LeO.bind ?_ (fun _ => ?_)
set_option maxHeartbeats 8000000 in
set_option maxRecDepth 100000 in
theorem impl_Snap_good.calls (k : Nat) (a0_0 : Int) (a0_1 : Int) (A0_2 : Option Addr) (c0_2 : Nat) (l0_2 : List Int) (A0_3 : Option Addr) (c0_3 : Nat) (l0_3 : List Int) (r : Bool) (w : World) (hr0_2 : Kd.C (Kd.int .i64) w A0_2 l0_2.length l0_2) (hc0_2 : l0_2.length ≤ c0_2) (hr0_3 : Kd.C (Kd.int .i64) w A0_3 l0_3.length l0_3) (hc0_3 : l0_3.length ≤ c0_3) (h : impl_Snap_good.f k a0_0 a0_1 l0_2 l0_3 = some r) :
    Calls Try.prog 67 #[.agg #[.int .u32 a0_0, .int .u32 a0_1, .slice A0_2 l0_2.length c0_2, .slice A0_3 l0_3.length c0_3]] w fun e w' => e = .returned (.bool r) ∧ Below w.heap.size w w' := by
  have hu44 := Try.underlying44
  have HR0_2 := Aside0.mk hr0_2
  have HC0_2 := Aside0.mk hc0_2
  clear hr0_2 hc0_2
  have HR0_3 := Aside0.mk hr0_3
  have HC0_3 := Aside0.mk hc0_3
  clear hr0_3 hc0_3
  have HB := Aside0.mk (Below.refl w.heap.size w)
  have H : (if a0_0 ≤ 4000000000 then (if a0_1 ≥ 1 then (if a0_1 ≤ 4000000000 then ((impl_goodSerials.f k l0_2).bind fun t102 => (if t102 = true then (if (l0_2.length : Int) ≤ 16 then ((impl_goodSerials.f k l0_3).bind fun t103 => (some t103)) else (some false)) else (some false))) else (some false)) else (some false)) else (some false)) = some r := h
  clear h
  by_cases c2 : a0_0 ≤ 4000000000
  · rw [if_pos c2] at H
    have c2b0 : decide (a0_0 ≤ 4000000000) = true := decide_eq_true c2
    clear c2
    by_cases c3 : a0_1 ≥ 1
    · rw [if_pos c3] at H
      have c3b0 : decide (1 ≤ a0_1) = true := decide_eq_true c3
      clear c3
      by_cases c4 : a0_1 ≤ 4000000000
      · rw [if_pos c4] at H
        have c4b0 : decide (a0_1 ≤ 4000000000) = true := decide_eq_true c4
        clear c4
        replace H := Option.bind_eq_some_iff.mp H
        obtain ⟨t102, A50, H⟩ := H
        replace H : (if t102 = true then (if (l0_2.length : Int) ≤ 16 then ((impl_goodSerials.f k l0_3).bind fun t103 => (some t103)) else (some false)) else (some false)) = some r := H
        have A5 := Aside0.mk A50
        clear A50
        by_cases c6 : t102 = true
        · subst c6
          have H1 : (if (l0_2.length : Int) ≤ 16 then ((impl_goodSerials.f k l0_3).bind fun t103 => (some t103)) else (some false)) = some r := by rw [if_pos rfl] at H; exact H
          clear H
          have H := H1
          clear H1
          by_cases c7 : (l0_2.length : Int) ≤ 16
          · rw [if_pos c7] at H
            have c7b0 : decide ((l0_2.length : Int) ≤ 16) = true := decide_eq_true c7
            have c7b1 : decide (l0_2.length ≤ 16) = true := decide_eq_true (by omega)
            clear c7
            replace H := Option.bind_eq_some_iff.mp H
            obtain ⟨t103, A80, H⟩ := H
            replace H : (some t103) = some r := H
            have A8 := Aside0.mk A80
            clear A80
            obtain rfl := Option.some.inj H
            go_enter Try.func67, Try.ntmps67
            go_wp2_with (first | ((with_reducible refine gate_dst (N := 1) rfl ?_); (try (refine gate_guard (by rfl) ?_; dsimp only)); refine box_event ?hg (N := 1) ?hd (cs := #[.int .u32 a0_0, .int .u32 a0_1, .slice A0_2 l0_2.length c0_2, .slice A0_3 l0_3.length c0_3]) (t := 44) ?hr ?_; (case hd => rfl); (case hg => rfl); (case hr => first | (go_simp; done) | (go_simp; rfl)); intro gb101 hg w9 hbox hb; have n0_ := Aside0.mk (below_step (by repeat (first | (with_reducible first | exact HB.out | apply below_alloc | apply pw_below_drewN | apply below_drew1) | exact HB.out)) hb); have n1_ := Aside0.mk (hbox); have n2_ := Aside0.mk ((by rw [hg]; exact (below_size (by repeat (first | (with_reducible first | exact HB.out | apply below_alloc | apply pw_below_drewN | apply below_drew1) | exact HB.out))) : w.heap.size ≤ gb101)); have n3_ := Aside0.mk ((by rw [hg]; exact (below_size (by repeat (first | (with_reducible first | exact HB.out | apply below_alloc | apply pw_below_drewN | apply below_drew1) | exact HB.out))) : w.heap.size ≤ gb101)); clear HB; have HB := n0_; have BK101 := n1_; have GW101 := n2_; have GE101 := n3_; clear n0_ n1_ n2_ n3_; clear hb hbox hg; have hcz10_0 : w9.cell? ⟨gb101, 0, none⟩ = some (.int .u32 a0_0) := (blk_cell BK101.out 0).trans rfl; have hcz10_1 : w9.cell? ⟨gb101, 1, none⟩ = some (.int .u32 a0_1) := (blk_cell BK101.out 1).trans rfl; have hcz10_2 : w9.cell? ⟨gb101, 2, none⟩ = some (.slice A0_2 l0_2.length c0_2) := (blk_cell BK101.out 2).trans rfl; have hcz10_3 : w9.cell? ⟨gb101, 3, none⟩ = some (.slice A0_3 l0_3.length c0_3) := (blk_cell BK101.out 3).trans rfl; have hfz10_0 := blk_frozen BK101.out 0; have hfz10_1 := blk_frozen BK101.out 1; have hfz10_2 := blk_frozen BK101.out 2; have hfz10_3 := blk_frozen BK101.out 3) | (go_at_call 94; (with_reducible refine (impl_goodSerials.calls k _ _ l0_2 true _ ?side1 ?side2 A5.out).mono ?_); (case side1 => repeat (first | exact (Kd.C_below HR0_2.out HB.out) | (with_reducible refine Kd.C_alloc ?_ _) | (with_reducible refine Kd.C_drewN ?_ _) | (with_reducible refine Kd.C_drew ?_))); (case side2 => exact HC0_2.out); rintro e w' ⟨rfl, ⟨nd, rfl⟩⟩) | (go_at_call 94; (with_reducible refine (impl_goodSerials.calls k _ _ l0_3 t103 _ ?side1 ?side2 A8.out).mono ?_); (case side1 => repeat (first | exact (Kd.C_below HR0_3.out (by repeat (first | (with_reducible first | exact HB.out | apply below_alloc | apply pw_below_drewN | apply below_drew1 | refine below_set ?_ GE101.out) | exact HB.out))) | (with_reducible refine Kd.C_alloc ?_ _) | (with_reducible refine Kd.C_drewN ?_ _) | (with_reducible refine Kd.C_drew ?_))); (case side2 => exact HC0_3.out); rintro e w' ⟨rfl, ⟨nd, rfl⟩⟩))
            go_ret
            exact ⟨by first | rfl | (simp [errW_none, errW_some] <;> rfl) | (simp [*, errW_none, errW_some] <;> rfl), by repeat (first | (with_reducible first | exact HB.out | apply below_alloc | apply pw_below_drewN | apply below_drew1 | refine below_set ?_ GE101.out) | exact HB.out)⟩
          · rw [if_neg c7] at H
            have c7b0 : decide ((l0_2.length : Int) ≤ 16) = false := decide_eq_false c7
            have c7b1 : decide (l0_2.length ≤ 16) = false := decide_eq_false (by omega)
            clear c7
            obtain rfl := Option.some.inj H
            go_enter Try.func67, Try.ntmps67
            go_wp2_with (first | ((with_reducible refine gate_dst (N := 1) rfl ?_); (try (refine gate_guard (by rfl) ?_; dsimp only)); refine box_event ?hg (N := 1) ?hd (cs := #[.int .u32 a0_0, .int .u32 a0_1, .slice A0_2 l0_2.length c0_2, .slice A0_3 l0_3.length c0_3]) (t := 44) ?hr ?_; (case hd => rfl); (case hg => rfl); (case hr => first | (go_simp; done) | (go_simp; rfl)); intro gb101 hg w11 hbox hb; have n0_ := Aside0.mk (below_step (by repeat (first | (with_reducible first | exact HB.out | apply below_alloc | apply pw_below_drewN | apply below_drew1) | exact HB.out)) hb); have n1_ := Aside0.mk (hbox); have n2_ := Aside0.mk ((by rw [hg]; exact (below_size (by repeat (first | (with_reducible first | exact HB.out | apply below_alloc | apply pw_below_drewN | apply below_drew1) | exact HB.out))) : w.heap.size ≤ gb101)); have n3_ := Aside0.mk ((by rw [hg]; exact (below_size (by repeat (first | (with_reducible first | exact HB.out | apply below_alloc | apply pw_below_drewN | apply below_drew1) | exact HB.out))) : w.heap.size ≤ gb101)); clear HB; have HB := n0_; have BK101 := n1_; have GW101 := n2_; have GE101 := n3_; clear n0_ n1_ n2_ n3_; clear hb hbox hg; have hcz12_0 : w11.cell? ⟨gb101, 0, none⟩ = some (.int .u32 a0_0) := (blk_cell BK101.out 0).trans rfl; have hcz12_1 : w11.cell? ⟨gb101, 1, none⟩ = some (.int .u32 a0_1) := (blk_cell BK101.out 1).trans rfl; have hcz12_2 : w11.cell? ⟨gb101, 2, none⟩ = some (.slice A0_2 l0_2.length c0_2) := (blk_cell BK101.out 2).trans rfl; have hcz12_3 : w11.cell? ⟨gb101, 3, none⟩ = some (.slice A0_3 l0_3.length c0_3) := (blk_cell BK101.out 3).trans rfl; have hfz12_0 := blk_frozen BK101.out 0; have hfz12_1 := blk_frozen BK101.out 1; have hfz12_2 := blk_frozen BK101.out 2; have hfz12_3 := blk_frozen BK101.out 3) | (go_at_call 94; (with_reducible refine (impl_goodSerials.calls k _ _ l0_2 true _ ?side1 ?side2 A5.out).mono ?_); (case side1 => repeat (first | exact (Kd.C_below HR0_2.out HB.out) | (with_reducible refine Kd.C_alloc ?_ _) | (with_reducible refine Kd.C_drewN ?_ _) | (with_reducible refine Kd.C_drew ?_))); (case side2 => exact HC0_2.out); rintro e w' ⟨rfl, ⟨nd, rfl⟩⟩))
            go_ret
            exact ⟨by first | rfl | (simp [errW_none, errW_some] <;> rfl) | (simp [*, errW_none, errW_some] <;> rfl), by repeat (first | (with_reducible first | exact HB.out | apply below_alloc | apply pw_below_drewN | apply below_drew1 | refine below_set ?_ GE101.out) | exact HB.out)⟩
        · replace c6 := Bool.eq_false_iff.mpr c6
          subst c6
          have H1 : (some false) = some r := by rw [if_neg (show ¬ (false = true) by decide)] at H; exact H
          clear H
          have H := H1
          clear H1
          obtain rfl := Option.some.inj H
          go_enter Try.func67, Try.ntmps67
          go_wp2_with (first | ((with_reducible refine gate_dst (N := 1) rfl ?_); (try (refine gate_guard (by rfl) ?_; dsimp only)); refine box_event ?hg (N := 1) ?hd (cs := #[.int .u32 a0_0, .int .u32 a0_1, .slice A0_2 l0_2.length c0_2, .slice A0_3 l0_3.length c0_3]) (t := 44) ?hr ?_; (case hd => rfl); (case hg => rfl); (case hr => first | (go_simp; done) | (go_simp; rfl)); intro gb101 hg w13 hbox hb; have n0_ := Aside0.mk (below_step (by repeat (first | (with_reducible first | exact HB.out | apply below_alloc | apply pw_below_drewN | apply below_drew1) | exact HB.out)) hb); have n1_ := Aside0.mk (hbox); have n2_ := Aside0.mk ((by rw [hg]; exact (below_size (by repeat (first | (with_reducible first | exact HB.out | apply below_alloc | apply pw_below_drewN | apply below_drew1) | exact HB.out))) : w.heap.size ≤ gb101)); have n3_ := Aside0.mk ((by rw [hg]; exact (below_size (by repeat (first | (with_reducible first | exact HB.out | apply below_alloc | apply pw_below_drewN | apply below_drew1) | exact HB.out))) : w.heap.size ≤ gb101)); clear HB; have HB := n0_; have BK101 := n1_; have GW101 := n2_; have GE101 := n3_; clear n0_ n1_ n2_ n3_; clear hb hbox hg; have hcz14_0 : w13.cell? ⟨gb101, 0, none⟩ = some (.int .u32 a0_0) := (blk_cell BK101.out 0).trans rfl; have hcz14_1 : w13.cell? ⟨gb101, 1, none⟩ = some (.int .u32 a0_1) := (blk_cell BK101.out 1).trans rfl; have hcz14_2 : w13.cell? ⟨gb101, 2, none⟩ = some (.slice A0_2 l0_2.length c0_2) := (blk_cell BK101.out 2).trans rfl; have hcz14_3 : w13.cell? ⟨gb101, 3, none⟩ = some (.slice A0_3 l0_3.length c0_3) := (blk_cell BK101.out 3).trans rfl; have hfz14_0 := blk_frozen BK101.out 0; have hfz14_1 := blk_frozen BK101.out 1; have hfz14_2 := blk_frozen BK101.out 2; have hfz14_3 := blk_frozen BK101.out 3) | (go_at_call 94; (with_reducible refine (impl_goodSerials.calls k _ _ l0_2 false _ ?side1 ?side2 A5.out).mono ?_); (case side1 => repeat (first | exact (Kd.C_below HR0_2.out HB.out) | (with_reducible refine Kd.C_alloc ?_ _) | (with_reducible refine Kd.C_drewN ?_ _) | (with_reducible refine Kd.C_drew ?_))); (case side2 => exact HC0_2.out); rintro e w' ⟨rfl, ⟨nd, rfl⟩⟩))
          go_ret
          exact ⟨by first | rfl | (simp [errW_none, errW_some] <;> rfl) | (simp [*, errW_none, errW_some] <;> rfl), by repeat (first | (with_reducible first | exact HB.out | apply below_alloc | apply pw_below_drewN | apply below_drew1 | refine below_set ?_ GE101.out) | exact HB.out)⟩
      · rw [if_neg c4] at H
        have c4b0 : decide (a0_1 ≤ 4000000000) = false := decide_eq_false c4
        clear c4
        obtain rfl := Option.some.inj H
        go_enter Try.func67, Try.ntmps67
        go_wp2_with (first | ((with_reducible refine gate_dst (N := 1) rfl ?_); (try (refine gate_guard (by rfl) ?_; dsimp only)); refine box_event ?hg (N := 1) ?hd (cs := #[.int .u32 a0_0, .int .u32 a0_1, .slice A0_2 l0_2.length c0_2, .slice A0_3 l0_3.length c0_3]) (t := 44) ?hr ?_; (case hd => rfl); (case hg => rfl); (case hr => first | (go_simp; done) | (go_simp; rfl)); intro gb101 hg w15 hbox hb; have n0_ := Aside0.mk (below_step (by repeat (first | (with_reducible first | exact HB.out | apply below_alloc | apply pw_below_drewN | apply below_drew1) | exact HB.out)) hb); have n1_ := Aside0.mk (hbox); have n2_ := Aside0.mk ((by rw [hg]; exact (below_size (by repeat (first | (with_reducible first | exact HB.out | apply below_alloc | apply pw_below_drewN | apply below_drew1) | exact HB.out))) : w.heap.size ≤ gb101)); have n3_ := Aside0.mk ((by rw [hg]; exact (below_size (by repeat (first | (with_reducible first | exact HB.out | apply below_alloc | apply pw_below_drewN | apply below_drew1) | exact HB.out))) : w.heap.size ≤ gb101)); clear HB; have HB := n0_; have BK101 := n1_; have GW101 := n2_; have GE101 := n3_; clear n0_ n1_ n2_ n3_; clear hb hbox hg; have hcz16_0 : w15.cell? ⟨gb101, 0, none⟩ = some (.int .u32 a0_0) := (blk_cell BK101.out 0).trans rfl; have hcz16_1 : w15.cell? ⟨gb101, 1, none⟩ = some (.int .u32 a0_1) := (blk_cell BK101.out 1).trans rfl; have hcz16_2 : w15.cell? ⟨gb101, 2, none⟩ = some (.slice A0_2 l0_2.length c0_2) := (blk_cell BK101.out 2).trans rfl; have hcz16_3 : w15.cell? ⟨gb101, 3, none⟩ = some (.slice A0_3 l0_3.length c0_3) := (blk_cell BK101.out 3).trans rfl; have hfz16_0 := blk_frozen BK101.out 0; have hfz16_1 := blk_frozen BK101.out 1; have hfz16_2 := blk_frozen BK101.out 2; have hfz16_3 := blk_frozen BK101.out 3))
        go_ret
        exact ⟨by first | rfl | (simp [errW_none, errW_some] <;> rfl) | (simp [*, errW_none, errW_some] <;> rfl), by repeat (first | (with_reducible first | exact HB.out | apply below_alloc | apply pw_below_drewN | apply below_drew1 | refine below_set ?_ GE101.out) | exact HB.out)⟩
    · rw [if_neg c3] at H
      have c3b0 : decide (1 ≤ a0_1) = false := decide_eq_false c3
      clear c3
      obtain rfl := Option.some.inj H
      go_enter Try.func67, Try.ntmps67
      go_wp2_with (first | ((with_reducible refine gate_dst (N := 1) rfl ?_); (try (refine gate_guard (by rfl) ?_; dsimp only)); refine box_event ?hg (N := 1) ?hd (cs := #[.int .u32 a0_0, .int .u32 a0_1, .slice A0_2 l0_2.length c0_2, .slice A0_3 l0_3.length c0_3]) (t := 44) ?hr ?_; (case hd => rfl); (case hg => rfl); (case hr => first | (go_simp; done) | (go_simp; rfl)); intro gb101 hg w17 hbox hb; have n0_ := Aside0.mk (below_step (by repeat (first | (with_reducible first | exact HB.out | apply below_alloc | apply pw_below_drewN | apply below_drew1) | exact HB.out)) hb); have n1_ := Aside0.mk (hbox); have n2_ := Aside0.mk ((by rw [hg]; exact (below_size (by repeat (first | (with_reducible first | exact HB.out | apply below_alloc | apply pw_below_drewN | apply below_drew1) | exact HB.out))) : w.heap.size ≤ gb101)); have n3_ := Aside0.mk ((by rw [hg]; exact (below_size (by repeat (first | (with_reducible first | exact HB.out | apply below_alloc | apply pw_below_drewN | apply below_drew1) | exact HB.out))) : w.heap.size ≤ gb101)); clear HB; have HB := n0_; have BK101 := n1_; have GW101 := n2_; have GE101 := n3_; clear n0_ n1_ n2_ n3_; clear hb hbox hg; have hcz18_0 : w17.cell? ⟨gb101, 0, none⟩ = some (.int .u32 a0_0) := (blk_cell BK101.out 0).trans rfl; have hcz18_1 : w17.cell? ⟨gb101, 1, none⟩ = some (.int .u32 a0_1) := (blk_cell BK101.out 1).trans rfl; have hcz18_2 : w17.cell? ⟨gb101, 2, none⟩ = some (.slice A0_2 l0_2.length c0_2) := (blk_cell BK101.out 2).trans rfl; have hcz18_3 : w17.cell? ⟨gb101, 3, none⟩ = some (.slice A0_3 l0_3.length c0_3) := (blk_cell BK101.out 3).trans rfl; have hfz18_0 := blk_frozen BK101.out 0; have hfz18_1 := blk_frozen BK101.out 1; have hfz18_2 := blk_frozen BK101.out 2; have hfz18_3 := blk_frozen BK101.out 3))
      go_ret
      exact ⟨by first | rfl | (simp [errW_none, errW_some] <;> rfl) | (simp [*, errW_none, errW_some] <;> rfl), by repeat (first | (with_reducible first | exact HB.out | apply below_alloc | apply pw_below_drewN | apply below_drew1 | refine below_set ?_ GE101.out) | exact HB.out)⟩
  · rw [if_neg c2] at H
    have c2b0 : decide (a0_0 ≤ 4000000000) = false := decide_eq_false c2
    clear c2
    obtain rfl := Option.some.inj H
    go_enter Try.func67, Try.ntmps67
    go_wp2_with (first | ((with_reducible refine gate_dst (N := 1) rfl ?_); (try (refine gate_guard (by rfl) ?_; dsimp only)); refine box_event ?hg (N := 1) ?hd (cs := #[.int .u32 a0_0, .int .u32 a0_1, .slice A0_2 l0_2.length c0_2, .slice A0_3 l0_3.length c0_3]) (t := 44) ?hr ?_; (case hd => rfl); (case hg => rfl); (case hr => first | (go_simp; done) | (go_simp; rfl)); intro gb101 hg w19 hbox hb; have n0_ := Aside0.mk (below_step (by repeat (first | (with_reducible first | exact HB.out | apply below_alloc | apply pw_below_drewN | apply below_drew1) | exact HB.out)) hb); have n1_ := Aside0.mk (hbox); have n2_ := Aside0.mk ((by rw [hg]; exact (below_size (by repeat (first | (with_reducible first | exact HB.out | apply below_alloc | apply pw_below_drewN | apply below_drew1) | exact HB.out))) : w.heap.size ≤ gb101)); have n3_ := Aside0.mk ((by rw [hg]; exact (below_size (by repeat (first | (with_reducible first | exact HB.out | apply below_alloc | apply pw_below_drewN | apply below_drew1) | exact HB.out))) : w.heap.size ≤ gb101)); clear HB; have HB := n0_; have BK101 := n1_; have GW101 := n2_; have GE101 := n3_; clear n0_ n1_ n2_ n3_; clear hb hbox hg; have hcz20_0 : w19.cell? ⟨gb101, 0, none⟩ = some (.int .u32 a0_0) := (blk_cell BK101.out 0).trans rfl; have hcz20_1 : w19.cell? ⟨gb101, 1, none⟩ = some (.int .u32 a0_1) := (blk_cell BK101.out 1).trans rfl; have hcz20_2 : w19.cell? ⟨gb101, 2, none⟩ = some (.slice A0_2 l0_2.length c0_2) := (blk_cell BK101.out 2).trans rfl; have hcz20_3 : w19.cell? ⟨gb101, 3, none⟩ = some (.slice A0_3 l0_3.length c0_3) := (blk_cell BK101.out 3).trans rfl; have hfz20_0 := blk_frozen BK101.out 0; have hfz20_1 := blk_frozen BK101.out 1; have hfz20_2 := blk_frozen BK101.out 2; have hfz20_3 := blk_frozen BK101.out 3))
    go_ret
    exact ⟨by first | rfl | (simp [errW_none, errW_some] <;> rfl) | (simp [*, errW_none, errW_some] <;> rfl), by repeat (first | (with_reducible first | exact HB.out | apply below_alloc | apply pw_below_drewN | apply below_drew1 | refine below_set ?_ GE101.out) | exact HB.out)⟩

end Go.Proofs.Ytgfadfahbhcllaa.Q
namespace Go.Proofs.Ytgfadfahbhcllaa.Q
open Go.RowKit Go.Proofs.YtgfadfahbhcllaaW.PrintWords Go.Proofs.YtgfadfahbhcllaaW.PrintLast Go.Proofs.Ytgfadfahbhcllaa.LK Go.Proofs.YtgfadfahbhcllaaW.PrintMore
attribute [local go_sem] max2_int min2_int max_two min_two max_three min_three max_four min_four   -- for this text's walks alone
set_option linter.unusedVariables false
set_option linter.unusedSimpArgs false

/-! ### spec_l6GoodSnap: function 63 -/
def spec_l6GoodSnap.f (k : Nat) (a0_0 : Int) (a0_1 : Int) (l0_2 : List Int) (l0_3 : List Int) : Option (Bool) := if a0_0 ≤ 4000000000 then (if a0_1 ≥ 1 then (if a0_1 ≤ 4000000000 then ((spec_l5Serials.f k l0_2).bind fun t102 => (if t102 = true then (if (l0_2.length : Int) ≤ 16 then ((spec_l5Serials.f k l0_3).bind fun t103 => (some t103)) else (some false)) else (some false))) else (some false)) else (some false)) else (some false)
theorem spec_l6GoodSnap.mono : ∀ a0 a1 a2 a3 k, LeO (spec_l6GoodSnap.f k a0 a1 a2 a3) (spec_l6GoodSnap.f (k + 1) a0 a1 a2 a3) := by
  intro a0 a1 a2 a3 k
  unfold spec_l6GoodSnap.f
  repeat' first
      | (with_reducible exact spec_l5Serials.mono _ _)
      | (with_reducible exact LeO.refl _)
      | (with_reducible exact LeO.none _)
      | (with_reducible refine LeO.ite ?_ ?_)
      | (with_reducible refine LeO.bind ?_ (fun _ => ?_))
      | exact spec_l5Serials.mono _ _
      | exact LeO.none _
      | refine LeO.ite ?_ ?_
      | refine LeO.bind ?_ (fun _ => ?_)
set_option maxHeartbeats 8000000 in
set_option maxRecDepth 100000 in
theorem spec_l6GoodSnap.calls (k : Nat) (a0_0 : Int) (a0_1 : Int) (A0_2 : Option Addr) (c0_2 : Nat) (l0_2 : List Int) (A0_3 : Option Addr) (c0_3 : Nat) (l0_3 : List Int) (r : Bool) (w : World) (hr0_2 : Kd.C (Kd.int .i64) w A0_2 l0_2.length l0_2) (hc0_2 : l0_2.length ≤ c0_2) (hr0_3 : Kd.C (Kd.int .i64) w A0_3 l0_3.length l0_3) (hc0_3 : l0_3.length ≤ c0_3) (h : spec_l6GoodSnap.f k a0_0 a0_1 l0_2 l0_3 = some r) :
    Calls Try.prog 63 #[.agg #[.int .u32 a0_0, .int .u32 a0_1, .slice A0_2 l0_2.length c0_2, .slice A0_3 l0_3.length c0_3]] w fun e w' => e = .returned (.bool r) ∧ Below w.heap.size w w' := by
  have hu44 := Try.underlying44
  have HR0_2 := Aside0.mk hr0_2
  have HC0_2 := Aside0.mk hc0_2
  clear hr0_2 hc0_2
  have HR0_3 := Aside0.mk hr0_3
  have HC0_3 := Aside0.mk hc0_3
  clear hr0_3 hc0_3
  have HB := Aside0.mk (Below.refl w.heap.size w)
  have H : (if a0_0 ≤ 4000000000 then (if a0_1 ≥ 1 then (if a0_1 ≤ 4000000000 then ((spec_l5Serials.f k l0_2).bind fun t102 => (if t102 = true then (if (l0_2.length : Int) ≤ 16 then ((spec_l5Serials.f k l0_3).bind fun t103 => (some t103)) else (some false)) else (some false))) else (some false)) else (some false)) else (some false)) = some r := h
  clear h
  by_cases c2 : a0_0 ≤ 4000000000
  · rw [if_pos c2] at H
    have c2b0 : decide (a0_0 ≤ 4000000000) = true := decide_eq_true c2
    clear c2
    by_cases c3 : a0_1 ≥ 1
    · rw [if_pos c3] at H
      have c3b0 : decide (1 ≤ a0_1) = true := decide_eq_true c3
      clear c3
      by_cases c4 : a0_1 ≤ 4000000000
      · rw [if_pos c4] at H
        have c4b0 : decide (a0_1 ≤ 4000000000) = true := decide_eq_true c4
        clear c4
        replace H := Option.bind_eq_some_iff.mp H
        obtain ⟨t102, A50, H⟩ := H
        replace H : (if t102 = true then (if (l0_2.length : Int) ≤ 16 then ((spec_l5Serials.f k l0_3).bind fun t103 => (some t103)) else (some false)) else (some false)) = some r := H
        have A5 := Aside0.mk A50
        clear A50
        by_cases c6 : t102 = true
        · subst c6
          have H1 : (if (l0_2.length : Int) ≤ 16 then ((spec_l5Serials.f k l0_3).bind fun t103 => (some t103)) else (some false)) = some r := by rw [if_pos rfl] at H; exact H
          clear H
          have H := H1
          clear H1
          by_cases c7 : (l0_2.length : Int) ≤ 16
          · rw [if_pos c7] at H
            have c7b0 : decide ((l0_2.length : Int) ≤ 16) = true := decide_eq_true c7
            have c7b1 : decide (l0_2.length ≤ 16) = true := decide_eq_true (by omega)
            clear c7
            replace H := Option.bind_eq_some_iff.mp H
            obtain ⟨t103, A80, H⟩ := H
            replace H : (some t103) = some r := H
            have A8 := Aside0.mk A80
            clear A80
            obtain rfl := Option.some.inj H
            go_enter Try.func63, Try.ntmps63
            go_wp2_with (first | ((with_reducible refine gate_dst (N := 1) rfl ?_); (try (refine gate_guard (by rfl) ?_; dsimp only)); refine box_event ?hg (N := 1) ?hd (cs := #[.int .u32 a0_0, .int .u32 a0_1, .slice A0_2 l0_2.length c0_2, .slice A0_3 l0_3.length c0_3]) (t := 44) ?hr ?_; (case hd => rfl); (case hg => rfl); (case hr => first | (go_simp; done) | (go_simp; rfl)); intro gb101 hg w9 hbox hb; have n0_ := Aside0.mk (below_step (by repeat (first | (with_reducible first | exact HB.out | apply below_alloc | apply pw_below_drewN | apply below_drew1) | exact HB.out)) hb); have n1_ := Aside0.mk (hbox); have n2_ := Aside0.mk ((by rw [hg]; exact (below_size (by repeat (first | (with_reducible first | exact HB.out | apply below_alloc | apply pw_below_drewN | apply below_drew1) | exact HB.out))) : w.heap.size ≤ gb101)); have n3_ := Aside0.mk ((by rw [hg]; exact (below_size (by repeat (first | (with_reducible first | exact HB.out | apply below_alloc | apply pw_below_drewN | apply below_drew1) | exact HB.out))) : w.heap.size ≤ gb101)); clear HB; have HB := n0_; have BK101 := n1_; have GW101 := n2_; have GE101 := n3_; clear n0_ n1_ n2_ n3_; clear hb hbox hg; have hcz10_0 : w9.cell? ⟨gb101, 0, none⟩ = some (.int .u32 a0_0) := (blk_cell BK101.out 0).trans rfl; have hcz10_1 : w9.cell? ⟨gb101, 1, none⟩ = some (.int .u32 a0_1) := (blk_cell BK101.out 1).trans rfl; have hcz10_2 : w9.cell? ⟨gb101, 2, none⟩ = some (.slice A0_2 l0_2.length c0_2) := (blk_cell BK101.out 2).trans rfl; have hcz10_3 : w9.cell? ⟨gb101, 3, none⟩ = some (.slice A0_3 l0_3.length c0_3) := (blk_cell BK101.out 3).trans rfl; have hfz10_0 := blk_frozen BK101.out 0; have hfz10_1 := blk_frozen BK101.out 1; have hfz10_2 := blk_frozen BK101.out 2; have hfz10_3 := blk_frozen BK101.out 3) | (go_at_call 92; (with_reducible refine (spec_l5Serials.calls k _ _ l0_2 true _ ?side1 ?side2 A5.out).mono ?_); (case side1 => repeat (first | exact (Kd.C_below HR0_2.out HB.out) | (with_reducible refine Kd.C_alloc ?_ _) | (with_reducible refine Kd.C_drewN ?_ _) | (with_reducible refine Kd.C_drew ?_))); (case side2 => exact HC0_2.out); rintro e w' ⟨rfl, ⟨nd, rfl⟩⟩) | (go_at_call 92; (with_reducible refine (spec_l5Serials.calls k _ _ l0_3 t103 _ ?side1 ?side2 A8.out).mono ?_); (case side1 => repeat (first | exact (Kd.C_below HR0_3.out (by repeat (first | (with_reducible first | exact HB.out | apply below_alloc | apply pw_below_drewN | apply below_drew1 | refine below_set ?_ GE101.out) | exact HB.out))) | (with_reducible refine Kd.C_alloc ?_ _) | (with_reducible refine Kd.C_drewN ?_ _) | (with_reducible refine Kd.C_drew ?_))); (case side2 => exact HC0_3.out); rintro e w' ⟨rfl, ⟨nd, rfl⟩⟩))
            go_ret
            exact ⟨by first | rfl | (simp [errW_none, errW_some] <;> rfl) | (simp [*, errW_none, errW_some] <;> rfl), by repeat (first | (with_reducible first | exact HB.out | apply below_alloc | apply pw_below_drewN | apply below_drew1 | refine below_set ?_ GE101.out) | exact HB.out)⟩
          · rw [if_neg c7] at H
            have c7b0 : decide ((l0_2.length : Int) ≤ 16) = false := decide_eq_false c7
            have c7b1 : decide (l0_2.length ≤ 16) = false := decide_eq_false (by omega)
            clear c7
            obtain rfl := Option.some.inj H
            go_enter Try.func63, Try.ntmps63
            go_wp2_with (first | ((with_reducible refine gate_dst (N := 1) rfl ?_); (try (refine gate_guard (by rfl) ?_; dsimp only)); refine box_event ?hg (N := 1) ?hd (cs := #[.int .u32 a0_0, .int .u32 a0_1, .slice A0_2 l0_2.length c0_2, .slice A0_3 l0_3.length c0_3]) (t := 44) ?hr ?_; (case hd => rfl); (case hg => rfl); (case hr => first | (go_simp; done) | (go_simp; rfl)); intro gb101 hg w11 hbox hb; have n0_ := Aside0.mk (below_step (by repeat (first | (with_reducible first | exact HB.out | apply below_alloc | apply pw_below_drewN | apply below_drew1) | exact HB.out)) hb); have n1_ := Aside0.mk (hbox); have n2_ := Aside0.mk ((by rw [hg]; exact (below_size (by repeat (first | (with_reducible first | exact HB.out | apply below_alloc | apply pw_below_drewN | apply below_drew1) | exact HB.out))) : w.heap.size ≤ gb101)); have n3_ := Aside0.mk ((by rw [hg]; exact (below_size (by repeat (first | (with_reducible first | exact HB.out | apply below_alloc | apply pw_below_drewN | apply below_drew1) | exact HB.out))) : w.heap.size ≤ gb101)); clear HB; have HB := n0_; have BK101 := n1_; have GW101 := n2_; have GE101 := n3_; clear n0_ n1_ n2_ n3_; clear hb hbox hg; have hcz12_0 : w11.cell? ⟨gb101, 0, none⟩ = some (.int .u32 a0_0) := (blk_cell BK101.out 0).trans rfl; have hcz12_1 : w11.cell? ⟨gb101, 1, none⟩ = some (.int .u32 a0_1) := (blk_cell BK101.out 1).trans rfl; have hcz12_2 : w11.cell? ⟨gb101, 2, none⟩ = some (.slice A0_2 l0_2.length c0_2) := (blk_cell BK101.out 2).trans rfl; have hcz12_3 : w11.cell? ⟨gb101, 3, none⟩ = some (.slice A0_3 l0_3.length c0_3) := (blk_cell BK101.out 3).trans rfl; have hfz12_0 := blk_frozen BK101.out 0; have hfz12_1 := blk_frozen BK101.out 1; have hfz12_2 := blk_frozen BK101.out 2; have hfz12_3 := blk_frozen BK101.out 3) | (go_at_call 92; (with_reducible refine (spec_l5Serials.calls k _ _ l0_2 true _ ?side1 ?side2 A5.out).mono ?_); (case side1 => repeat (first | exact (Kd.C_below HR0_2.out HB.out) | (with_reducible refine Kd.C_alloc ?_ _) | (with_reducible refine Kd.C_drewN ?_ _) | (with_reducible refine Kd.C_drew ?_))); (case side2 => exact HC0_2.out); rintro e w' ⟨rfl, ⟨nd, rfl⟩⟩))
            go_ret
            exact ⟨by first | rfl | (simp [errW_none, errW_some] <;> rfl) | (simp [*, errW_none, errW_some] <;> rfl), by repeat (first | (with_reducible first | exact HB.out | apply below_alloc | apply pw_below_drewN | apply below_drew1 | refine below_set ?_ GE101.out) | exact HB.out)⟩
        · replace c6 := Bool.eq_false_iff.mpr c6
          subst c6
          have H1 : (some false) = some r := by rw [if_neg (show ¬ (false = true) by decide)] at H; exact H
          clear H
          have H := H1
          clear H1
          obtain rfl := Option.some.inj H
          go_enter Try.func63, Try.ntmps63
          go_wp2_with (first | ((with_reducible refine gate_dst (N := 1) rfl ?_); (try (refine gate_guard (by rfl) ?_; dsimp only)); refine box_event ?hg (N := 1) ?hd (cs := #[.int .u32 a0_0, .int .u32 a0_1, .slice A0_2 l0_2.length c0_2, .slice A0_3 l0_3.length c0_3]) (t := 44) ?hr ?_; (case hd => rfl); (case hg => rfl); (case hr => first | (go_simp; done) | (go_simp; rfl)); intro gb101 hg w13 hbox hb; have n0_ := Aside0.mk (below_step (by repeat (first | (with_reducible first | exact HB.out | apply below_alloc | apply pw_below_drewN | apply below_drew1) | exact HB.out)) hb); have n1_ := Aside0.mk (hbox); have n2_ := Aside0.mk ((by rw [hg]; exact (below_size (by repeat (first | (with_reducible first | exact HB.out | apply below_alloc | apply pw_below_drewN | apply below_drew1) | exact HB.out))) : w.heap.size ≤ gb101)); have n3_ := Aside0.mk ((by rw [hg]; exact (below_size (by repeat (first | (with_reducible first | exact HB.out | apply below_alloc | apply pw_below_drewN | apply below_drew1) | exact HB.out))) : w.heap.size ≤ gb101)); clear HB; have HB := n0_; have BK101 := n1_; have GW101 := n2_; have GE101 := n3_; clear n0_ n1_ n2_ n3_; clear hb hbox hg; have hcz14_0 : w13.cell? ⟨gb101, 0, none⟩ = some (.int .u32 a0_0) := (blk_cell BK101.out 0).trans rfl; have hcz14_1 : w13.cell? ⟨gb101, 1, none⟩ = some (.int .u32 a0_1) := (blk_cell BK101.out 1).trans rfl; have hcz14_2 : w13.cell? ⟨gb101, 2, none⟩ = some (.slice A0_2 l0_2.length c0_2) := (blk_cell BK101.out 2).trans rfl; have hcz14_3 : w13.cell? ⟨gb101, 3, none⟩ = some (.slice A0_3 l0_3.length c0_3) := (blk_cell BK101.out 3).trans rfl; have hfz14_0 := blk_frozen BK101.out 0; have hfz14_1 := blk_frozen BK101.out 1; have hfz14_2 := blk_frozen BK101.out 2; have hfz14_3 := blk_frozen BK101.out 3) | (go_at_call 92; (with_reducible refine (spec_l5Serials.calls k _ _ l0_2 false _ ?side1 ?side2 A5.out).mono ?_); (case side1 => repeat (first | exact (Kd.C_below HR0_2.out HB.out) | (with_reducible refine Kd.C_alloc ?_ _) | (with_reducible refine Kd.C_drewN ?_ _) | (with_reducible refine Kd.C_drew ?_))); (case side2 => exact HC0_2.out); rintro e w' ⟨rfl, ⟨nd, rfl⟩⟩))
          go_ret
          exact ⟨by first | rfl | (simp [errW_none, errW_some] <;> rfl) | (simp [*, errW_none, errW_some] <;> rfl), by repeat (first | (with_reducible first | exact HB.out | apply below_alloc | apply pw_below_drewN | apply below_drew1 | refine below_set ?_ GE101.out) | exact HB.out)⟩
      · rw [if_neg c4] at H
        have c4b0 : decide (a0_1 ≤ 4000000000) = false := decide_eq_false c4
        clear c4
        obtain rfl := Option.some.inj H
        go_enter Try.func63, Try.ntmps63
        go_wp2_with (first | ((with_reducible refine gate_dst (N := 1) rfl ?_); (try (refine gate_guard (by rfl) ?_; dsimp only)); refine box_event ?hg (N := 1) ?hd (cs := #[.int .u32 a0_0, .int .u32 a0_1, .slice A0_2 l0_2.length c0_2, .slice A0_3 l0_3.length c0_3]) (t := 44) ?hr ?_; (case hd => rfl); (case hg => rfl); (case hr => first | (go_simp; done) | (go_simp; rfl)); intro gb101 hg w15 hbox hb; have n0_ := Aside0.mk (below_step (by repeat (first | (with_reducible first | exact HB.out | apply below_alloc | apply pw_below_drewN | apply below_drew1) | exact HB.out)) hb); have n1_ := Aside0.mk (hbox); have n2_ := Aside0.mk ((by rw [hg]; exact (below_size (by repeat (first | (with_reducible first | exact HB.out | apply below_alloc | apply pw_below_drewN | apply below_drew1) | exact HB.out))) : w.heap.size ≤ gb101)); have n3_ := Aside0.mk ((by rw [hg]; exact (below_size (by repeat (first | (with_reducible first | exact HB.out | apply below_alloc | apply pw_below_drewN | apply below_drew1) | exact HB.out))) : w.heap.size ≤ gb101)); clear HB; have HB := n0_; have BK101 := n1_; have GW101 := n2_; have GE101 := n3_; clear n0_ n1_ n2_ n3_; clear hb hbox hg; have hcz16_0 : w15.cell? ⟨gb101, 0, none⟩ = some (.int .u32 a0_0) := (blk_cell BK101.out 0).trans rfl; have hcz16_1 : w15.cell? ⟨gb101, 1, none⟩ = some (.int .u32 a0_1) := (blk_cell BK101.out 1).trans rfl; have hcz16_2 : w15.cell? ⟨gb101, 2, none⟩ = some (.slice A0_2 l0_2.length c0_2) := (blk_cell BK101.out 2).trans rfl; have hcz16_3 : w15.cell? ⟨gb101, 3, none⟩ = some (.slice A0_3 l0_3.length c0_3) := (blk_cell BK101.out 3).trans rfl; have hfz16_0 := blk_frozen BK101.out 0; have hfz16_1 := blk_frozen BK101.out 1; have hfz16_2 := blk_frozen BK101.out 2; have hfz16_3 := blk_frozen BK101.out 3))
        go_ret
        exact ⟨by first | rfl | (simp [errW_none, errW_some] <;> rfl) | (simp [*, errW_none, errW_some] <;> rfl), by repeat (first | (with_reducible first | exact HB.out | apply below_alloc | apply pw_below_drewN | apply below_drew1 | refine below_set ?_ GE101.out) | exact HB.out)⟩
    · rw [if_neg c3] at H
      have c3b0 : decide (1 ≤ a0_1) = false := decide_eq_false c3
      clear c3
      obtain rfl := Option.some.inj H
      go_enter Try.func63, Try.ntmps63
      go_wp2_with (first | ((with_reducible refine gate_dst (N := 1) rfl ?_); (try (refine gate_guard (by rfl) ?_; dsimp only)); refine box_event ?hg (N := 1) ?hd (cs := #[.int .u32 a0_0, .int .u32 a0_1, .slice A0_2 l0_2.length c0_2, .slice A0_3 l0_3.length c0_3]) (t := 44) ?hr ?_; (case hd => rfl); (case hg => rfl); (case hr => first | (go_simp; done) | (go_simp; rfl)); intro gb101 hg w17 hbox hb; have n0_ := Aside0.mk (below_step (by repeat (first | (with_reducible first | exact HB.out | apply below_alloc | apply pw_below_drewN | apply below_drew1) | exact HB.out)) hb); have n1_ := Aside0.mk (hbox); have n2_ := Aside0.mk ((by rw [hg]; exact (below_size (by repeat (first | (with_reducible first | exact HB.out | apply below_alloc | apply pw_below_drewN | apply below_drew1) | exact HB.out))) : w.heap.size ≤ gb101)); have n3_ := Aside0.mk ((by rw [hg]; exact (below_size (by repeat (first | (with_reducible first | exact HB.out | apply below_alloc | apply pw_below_drewN | apply below_drew1) | exact HB.out))) : w.heap.size ≤ gb101)); clear HB; have HB := n0_; have BK101 := n1_; have GW101 := n2_; have GE101 := n3_; clear n0_ n1_ n2_ n3_; clear hb hbox hg; have hcz18_0 : w17.cell? ⟨gb101, 0, none⟩ = some (.int .u32 a0_0) := (blk_cell BK101.out 0).trans rfl; have hcz18_1 : w17.cell? ⟨gb101, 1, none⟩ = some (.int .u32 a0_1) := (blk_cell BK101.out 1).trans rfl; have hcz18_2 : w17.cell? ⟨gb101, 2, none⟩ = some (.slice A0_2 l0_2.length c0_2) := (blk_cell BK101.out 2).trans rfl; have hcz18_3 : w17.cell? ⟨gb101, 3, none⟩ = some (.slice A0_3 l0_3.length c0_3) := (blk_cell BK101.out 3).trans rfl; have hfz18_0 := blk_frozen BK101.out 0; have hfz18_1 := blk_frozen BK101.out 1; have hfz18_2 := blk_frozen BK101.out 2; have hfz18_3 := blk_frozen BK101.out 3))
      go_ret
      exact ⟨by first | rfl | (simp [errW_none, errW_some] <;> rfl) | (simp [*, errW_none, errW_some] <;> rfl), by repeat (first | (with_reducible first | exact HB.out | apply below_alloc | apply pw_below_drewN | apply below_drew1 | refine below_set ?_ GE101.out) | exact HB.out)⟩
  · rw [if_neg c2] at H
    have c2b0 : decide (a0_0 ≤ 4000000000) = false := decide_eq_false c2
    clear c2
    obtain rfl := Option.some.inj H
    go_enter Try.func63, Try.ntmps63
    go_wp2_with (first | ((with_reducible refine gate_dst (N := 1) rfl ?_); (try (refine gate_guard (by rfl) ?_; dsimp only)); refine box_event ?hg (N := 1) ?hd (cs := #[.int .u32 a0_0, .int .u32 a0_1, .slice A0_2 l0_2.length c0_2, .slice A0_3 l0_3.length c0_3]) (t := 44) ?hr ?_; (case hd => rfl); (case hg => rfl); (case hr => first | (go_simp; done) | (go_simp; rfl)); intro gb101 hg w19 hbox hb; have n0_ := Aside0.mk (below_step (by repeat (first | (with_reducible first | exact HB.out | apply below_alloc | apply pw_below_drewN | apply below_drew1) | exact HB.out)) hb); have n1_ := Aside0.mk (hbox); have n2_ := Aside0.mk ((by rw [hg]; exact (below_size (by repeat (first | (with_reducible first | exact HB.out | apply below_alloc | apply pw_below_drewN | apply below_drew1) | exact HB.out))) : w.heap.size ≤ gb101)); have n3_ := Aside0.mk ((by rw [hg]; exact (below_size (by repeat (first | (with_reducible first | exact HB.out | apply below_alloc | apply pw_below_drewN | apply below_drew1) | exact HB.out))) : w.heap.size ≤ gb101)); clear HB; have HB := n0_; have BK101 := n1_; have GW101 := n2_; have GE101 := n3_; clear n0_ n1_ n2_ n3_; clear hb hbox hg; have hcz20_0 : w19.cell? ⟨gb101, 0, none⟩ = some (.int .u32 a0_0) := (blk_cell BK101.out 0).trans rfl; have hcz20_1 : w19.cell? ⟨gb101, 1, none⟩ = some (.int .u32 a0_1) := (blk_cell BK101.out 1).trans rfl; have hcz20_2 : w19.cell? ⟨gb101, 2, none⟩ = some (.slice A0_2 l0_2.length c0_2) := (blk_cell BK101.out 2).trans rfl; have hcz20_3 : w19.cell? ⟨gb101, 3, none⟩ = some (.slice A0_3 l0_3.length c0_3) := (blk_cell BK101.out 3).trans rfl; have hfz20_0 := blk_frozen BK101.out 0; have hfz20_1 := blk_frozen BK101.out 1; have hfz20_2 := blk_frozen BK101.out 2; have hfz20_3 := blk_frozen BK101.out 3))
    go_ret
    exact ⟨by first | rfl | (simp [errW_none, errW_some] <;> rfl) | (simp [*, errW_none, errW_some] <;> rfl), by repeat (first | (with_reducible first | exact HB.out | apply below_alloc | apply pw_below_drewN | apply below_drew1 | refine below_set ?_ GE101.out) | exact HB.out)⟩

end Go.Proofs.Ytgfadfahbhcllaa.Q
namespace Go.Proofs.Ytgfadfahbhcllaa.P
open Go.RowKit Go.Proofs.YtgfadfahbhcllaaW.PrintWords Go.Proofs.YtgfadfahbhcllaaW.PrintMore Go.Proofs.Ytgfadfahbhcllaa.Q
set_option linter.unusedVariables false
set_option linter.unusedSimpArgs false
theorem goodS_ge {l : List Int} (h : goodS l = true) : ∀ i : Nat, i < l.length → (i : Int) ≤ rd l i
  | 0, hi => (goodS_at h hi).1
  | i + 1, hi => by
    have h1 := goodS_ge h i (by omega)
    have h2 := goodS_lt h (i + 1) i (by omega) hi
    omega
theorem goodS_length {l : List Int} (h : goodS l = true) : l.length ≤ 256 := by
  rcases Nat.lt_or_ge 256 l.length with hl | hl
  · have h1 := goodS_ge h 256 hl
    have h2 := (goodS_at h hl).2.1
    omega
  · exact hl
def goodSnap (g t : Int) (xs u : List Int) : Bool := decide (g ≤ 4000000000) && (decide (1 ≤ t) && (decide (t ≤ 4000000000) && (goodS xs && (decide (xs.length ≤ 16) && goodS u))))
theorem goodSnap_iff {g t : Int} {xs u : List Int} : goodSnap g t xs u = true ↔ g ≤ 4000000000 ∧ 1 ≤ t ∧ t ≤ 4000000000 ∧ goodS xs = true ∧ xs.length ≤ 16 ∧ goodS u = true := by
  unfold goodSnap
  simp only [Bool.and_eq_true, decide_eq_true_eq]
theorem impl_snap_good (g t : Int) (xs u : List Int) (h1 : xs.length ≤ 4611686018427387904) (h2 : u.length ≤ 4611686018427387904) : Ev (fun k => impl_Snap_good.f k g t xs u) (goodSnap g t xs u) := by
  simp only [impl_Snap_good.f, goodSnap]
  by_cases c1 : g ≤ 4000000000
  · rw [decide_eq_true c1, Bool.true_and]
    refine Ev.pos c1 ?_
    by_cases c2 : 1 ≤ t
    · rw [decide_eq_true c2, Bool.true_and]
      refine Ev.pos c2 ?_
      by_cases c3 : t ≤ 4000000000
      · rw [decide_eq_true c3, Bool.true_and]
        refine Ev.pos c3 (Ev.bind (impl_good_ev xs h1) ?_)
        cases c4 : goodS xs with
        | false => exact Ev.neg (by decide) (Ev.const rfl)
        | true =>
          refine Ev.pos rfl ?_
          by_cases c5 : xs.length ≤ 16
          · rw [decide_eq_true c5, Bool.true_and, Bool.true_and]
            exact Ev.pos (by omega) (Ev.bind (impl_good_ev u h2) (Ev.const rfl))
          · rw [decide_eq_false c5]
            exact Ev.neg (by omega) (Ev.const rfl)
      · rw [decide_eq_false c3]
        exact Ev.neg c3 (Ev.const rfl)
    · rw [decide_eq_false c2]
      exact Ev.neg c2 (Ev.const rfl)
  · rw [decide_eq_false c1]
    exact Ev.neg c1 (Ev.const rfl)
theorem spec_snap_good (g t : Int) (xs u : List Int) (h1 : xs.length ≤ 4611686018427387904) (h2 : u.length ≤ 4611686018427387904) : Ev (fun k => spec_l6GoodSnap.f k g t xs u) (goodSnap g t xs u) := by
  simp only [spec_l6GoodSnap.f, goodSnap]
  by_cases c1 : g ≤ 4000000000
  · rw [decide_eq_true c1, Bool.true_and]
    refine Ev.pos c1 ?_
    by_cases c2 : 1 ≤ t
    · rw [decide_eq_true c2, Bool.true_and]
      refine Ev.pos c2 ?_
      by_cases c3 : t ≤ 4000000000
      · rw [decide_eq_true c3, Bool.true_and]
        refine Ev.pos c3 (Ev.bind (spec_good_ev xs h1) ?_)
        cases c4 : goodS xs with
        | false => exact Ev.neg (by decide) (Ev.const rfl)
        | true =>
          refine Ev.pos rfl ?_
          by_cases c5 : xs.length ≤ 16
          · rw [decide_eq_true c5, Bool.true_and, Bool.true_and]
            exact Ev.pos (by omega) (Ev.bind (spec_good_ev u h2) (Ev.const rfl))
          · rw [decide_eq_false c5]
            exact Ev.neg (by omega) (Ev.const rfl)
      · rw [decide_eq_false c3]
        exact Ev.neg c3 (Ev.const rfl)
    · rw [decide_eq_false c2]
      exact Ev.neg c2 (Ev.const rfl)
  · rw [decide_eq_false c1]
    exact Ev.neg c1 (Ev.const rfl)
/-- A snap's numbers. -/
def snapSz (g t : Int) (xs u : List Int) : Prop := (0 ≤ g ∧ g ≤ 4294967295) ∧ (0 ≤ t ∧ t ≤ 4294967295) ∧ xs.length ≤ 2097152 ∧ u.length ≤ 2097152
instance (g t : Int) (xs u : List Int) : Decidable (snapSz g t xs u) := by unfold snapSz; infer_instance
end Go.Proofs.Ytgfadfahbhcllaa.P
namespace Go.Proofs.Ytgfadfahbhcllaa.Q
open Go.RowKit Go.Proofs.YtgfadfahbhcllaaW.PrintWords Go.Proofs.YtgfadfahbhcllaaW.PrintLast Go.Proofs.YtgfadfahbhcllaaW.PrintMore Go.Proofs.Ytgfadfahbhcllaa.LK
set_option linter.unusedVariables false
set_option linter.unusedSimpArgs false
section
variable {P : Program} {ops : Array Oper} {rest : List Oper} {o : Oper} {a : Act} {Q : Exit → Act → World → Prop} {K : Act → World → Prop} {W : World}
/-- A literal's row is made, in a plain region. -/
theorem mkS {N : Tmp} {cs : Array Value} {t : Nat} (hw : Region.wanted o (yielded ops a.tmps) = true) (_hd : o.dst = some N)
    (hrun : (execOp a.eval o).run P W = .ok (.value (.slice (some ⟨W.heap.size, 0, none⟩) cs.size cs.size)) (W.alloc (.cells cs t (0, 0))))
    (h : ∀ g, g = W.heap.size → ∀ w1, w1.heap[g]? = some (.cells cs t (0, 0)) → Below W.heap.size W w1 → wpList P ops Q rest (a.put o.dst (.slice (some ⟨g, 0, none⟩) cs.size cs.size)) w1) : wpList P ops Q (o :: rest) a W := by
  refine wants hw fun K hK => ?_
  unfold Oper.wp
  rw [hrun]
  exact hK _ _ (h _ rfl _ (blk_new W _) (below_alloc (Below.refl _ _) _))
/-- Some cells of a block are written, in a region that draws. -/
theorem st_part_step {T g o' t : Nat} {p x : Operand} {cur : Array Value} {u : Value} {seg : List Value} (hw : Region.wanted o (yielded ops a.tmps) = true) (hN : o.dst = none) (ho : o.op = .store T p x)
    (hp : a.eval p = .pointer (some ⟨g, o', none⟩)) (hx : a.eval x = u) (hu : u.cells.toList = seg) (hh : W.heap[g]? = some (.cells cur t (0, 0))) (ht : (P.info? T).map (·.size) = some seg.length)
    (hfit : o' + seg.length ≤ cur.size) (h1 : ∀ q ∈ seg, q.oneCell' = true)
    (h : ∀ w1, w1.heap[g]? = some (.cells (cur.toList.take o' ++ seg ++ cur.toList.drop (o' + seg.length)).toArray t (0, 0)) → Stp (fun k => k = g) W w1 → K a w1) : if Region.wanted o (yielded ops a.tmps) = true then Oper.wp P o a W K Q else K (a.put none undef) W := by
  rw [if_pos hw]
  obtain ⟨cur', h3, _, h5⟩ := setCells_row seg o' W cur hh hfit
  obtain ⟨s1, s2, s3, s4⟩ := setCells_same g seg o' W
  unfold Oper.wp execOp
  simp only [ho, hp, hx, Sem.run_bind, Sem.run_pure, Result.andThen_ok, run_store_run T u seg hh hu ht hfit h1]
  show K (a.put o.dst undef) _
  rw [hN]
  refine h _ ?_ ⟨s1, s2, s3, Nat.le_of_eq s4.symm, fun i _ hi => setCells_far seg o' i hi⟩
  rw [← h5]
  exact h3
end
theorem lit_at {g : Nat} {W : World} {e : Nat} (h : W.heap[g]? = some (.cells #[.int .i64 0, .int .i64 60, .int .i64 64, .int .i64 124] e (0, 0))) {i : Nat} (hi : i < 4) : W.cell? ⟨g, i, none⟩ = some (.int .i64 (P.ats i : Nat)) := by
  refine (blk_cell h i).trans ?_
  rcases (show i = 0 ∨ i = 1 ∨ i = 2 ∨ i = 3 from by omega) with rfl | rfl | rfl | rfl <;> rfl
theorem sA_length (g : Int) (i : Nat) : (P.sA g i).length = 128 := by
  have h : ∀ j, (P.gi g i j).length = 4 := fun j => by unfold P.gi; split; exact P.leB_length _ _; rfl
  unfold P.sA P.snapP
  simp only [List.length_append, h, List.length_cons, List.length_nil, List.length_replicate, P.Z32, P.Z16]
theorem ats_fit {i : Nat} (hi : i < 4) : P.ats i + 4 ≤ 128 := by
  rcases (show i = 0 ∨ i = 1 ∨ i = 2 ∨ i = 3 from by omega) with rfl | rfl | rfl | rfl <;> decide
/-- What is known of a snap that is good. -/
structure SnapOk (g t : Int) (xs u : List Int) : Prop where
  g : 0 ≤ g ∧ g ≤ 4294967295
  t : 0 ≤ t ∧ t ≤ 4294967295
  xs : P.goodS xs = true ∧ xs.length ≤ 16
  u : P.goodS u = true ∧ u.length ≤ 256
theorem take_new {u : List Int} (h : P.goodS u = true) {i : Nat} (hi : i < u.length) : rd u i ∉ u.take i := by
  intro hm
  obtain ⟨j, hj, e⟩ := P.mem_rd hm
  rw [List.length_take] at hj
  have e2 : rd (u.take i) (j : Int) = rd u (j : Int) := by
    obtain ⟨b, hb⟩ := P.some_at (xs := u) (i := j) (by omega)
    rw [P.rd_at hb, P.rd_at (a := b) (by rw [List.getElem?_take, if_pos (by omega), hb])]
  have := P.goodS_lt h i j (by omega) hi
  rw [e2] at e
  omega
theorem take_snoc {u : List Int} {i : Nat} (hi : i < u.length) : u.take (i + 1) = u.take i ++ [rd u i] := by
  obtain ⟨b, hb⟩ := P.some_at hi
  rw [List.take_add_one, hb, P.rd_at hb]
  rfl
set_option maxHeartbeats 8000000 in
set_option maxRecDepth 100000 in
theorem snap_code_calls {A0 : Option Addr} {c0 : Nat} {xs : List Int} {A1 : Option Addr} {c1 : Nat} {u : List Int} {g t : Int} {w : World} (hr0 : Kd.C (Kd.int .i64) w A0 xs.length xs) (hc0 : xs.length ≤ c0) (hr1 : Kd.C (Kd.int .i64) w A1 u.length u) (hc1 : u.length ≤ c1) (hok : SnapOk g t xs u) :
    Calls Try.prog 68 #[.agg #[.int .u32 g, .int .u32 t, .slice A0 xs.length c0, .slice A1 u.length c1]] w fun e w' => e = .returned (.agg (bytesV (P.snapCode g t xs u)).toArray) ∧ Below w.heap.size w w' := by
  have jg : IntKind.u64.wrap g = g := by have := hok.g; rw [IntKind.wrap_u64]; omega
  have jt : IntKind.u64.wrap t = t := by have := hok.t; rw [IntKind.wrap_u64]; omega
  have jn : IntKind.u8.wrap (xs.length : Int) = (xs.length : Int) % 256 := by rw [IntKind.wrap_u8]
  obtain ⟨n, hn⟩ : ∃ n, n = (xs.length : Int) % 256 := ⟨_, rfl⟩
  rw [← hn] at jn
  have hcr := P.crc32_range (P.snapHead g n t u xs)
  obtain ⟨c, hc⟩ : ∃ c, c = P.crc32 (P.snapHead g n t u xs) := ⟨_, rfl⟩
  rw [← hc] at hcr
  unfold P.U32 at hcr
  have jc : IntKind.u64.wrap c = c := by rw [IntKind.wrap_u64]; omega
  obtain ⟨kc, hkc⟩ := (P.impl_Crc32_ev (P.snapHead g n t u xs) (by rw [P.snapHead_length]; decide)).ex
  rw [← hc] at hkc
  have HKC := Aside0.mk hkc
  have HC := Aside0.mk hc
  have HN := Aside0.mk hn
  have HCr := Aside0.mk hcr
  have HR0 := Aside0.mk hr0
  have HR1 := Aside0.mk hr1
  have HOk := Aside0.mk hok
  have H0 := Aside0.mk (Bx.refl w)
  clear hr0 hc0 hr1 hc1 hok hn hc hcr hkc
  go_enter Try.func68, Try.ntmps68
  go_wp2_with (first | ((with_reducible refine gate_dst (N := 1) rfl ?_); refine Aside0.out ?_))
  refine Aside0.mk ?_
  refine mk ?hw1 (N := 1) ?hd1 (cs := #[.int .u32 g, .int .u32 t, .slice A0 xs.length c0, .slice A1 u.length c1]) (t := 44) ?hr1 ?_
  case hd1 => rfl
  case hw1 => rfl
  case hr1 => first | (go_simp; done) | (go_simp; rfl)
  intro g1 hg1_ w101 hb1 hB1
  have H102 := Aside0.mk (H0.out.new hg1_ hb1 hB1)
  clear hg1_ hb1 hB1 H0
  go_wp2_with (first | ((with_reducible refine gate_dst (N := 2) rfl ?_); refine Aside0.out ?_))
  refine Aside0.mk ?_
  refine mk ?hw3 (N := 2) ?hd3 (cs := (bytesV (List.replicate 128 0)).toArray) (t := 98) ?hr3 ?_
  case hd3 => rfl
  case hw3 => rfl
  case hr3 => first | (go_simp; done) | (go_simp; rfl)
  intro g2 hg2_ w103 hb3 hB3
  have H104 := Aside0.mk (H102.out.new hg2_ hb3 hB3)
  clear hg2_ hb3 hB3 H102
  go_wp2_with (first | ((with_reducible refine gate_dst (N := 3) rfl ?_); refine Aside0.out ?_))
  refine Aside0.mk ?_
  refine mk ?hw5 (N := 3) ?hd5 (cs := (bytesV (P.sA g 0)).toArray) (t := 98) ?hr5 ?_
  case hd5 => rfl
  case hw5 => rfl
  case hr5 => first | (go_simp; done) | (go_simp; rfl)
  intro g3 hg3_ w105 hb5 hB5
  have H106 := Aside0.mk (H104.out.new hg3_ hb5 hB5)
  clear hg3_ hb5 hB5 H104
  go_wp2_with (first | ((with_reducible refine gate_dst (N := 10) rfl ?_); refine Aside0.out ?_))
  refine Aside0.mk ?_
  refine mkS ?hw7 (N := 10) ?hd7 (cs := #[.int .i64 0, .int .i64 60, .int .i64 64, .int .i64 124]) (t := 3) ?hr7 ?_
  case hd7 => rfl
  case hw7 => rfl
  case hr7 => first | (go_simp; done) | (go_simp; rfl)
  intro gl hgl_ w107 hb7 hB7
  have H108 := Aside0.mk (H106.out.new hgl_ hb7 hB7)
  clear hgl_ hb7 hB7 H106
  go_wp2
  go_loopg [12] (4 + 1) (fun kq v_ w' => ∃ (i : Nat) (x : Int) (wl : World), v_ = .int .i64 x ∧ Aside0 (wl = w') ∧ Aside0 (x = (i : Int)) ∧ Aside0 (kq + i = 4 + 1) ∧ Aside0 (i ≤ 4) ∧ Aside0 (Bx w [(gl, #[.int .i64 0, .int .i64 60, .int .i64 64, .int .i64 124], 3), (g3, (bytesV (P.sA g i)).toArray, 98), (g2, (bytesV (List.replicate 128 0)).toArray, 98), (g1, #[.int .u32 g, .int .u32 t, .slice A0 xs.length c0, .slice A1 u.length c1], 44)] w'))
  case atStart => exact ⟨0, 0, _, rfl, ⟨rfl⟩, ⟨rfl⟩, ⟨by omega⟩, ⟨Nat.zero_le _⟩, H108⟩
  case round =>
    clear H108
    obtain ⟨i, x, wl, rfl, hwl, HE, HK, HI, HX⟩ := hrel
    obtain ⟨hwl⟩ := hwl
    subst hwl
    have he := HE.out
    cases gk with
    | zero => exact absurd HK.out (by have := HI.out; omega)
    | succ k1_ =>
      by_cases c3 : i < 4
      · have C3 := Aside0.mk c3
        have c3b : decide (x < (4 : Int)) = true := decide_eq_true (by omega)
        have p5 : (0 ≤ x) = True := eq_true (by omega)
        have q5 : (x < (4 : Int)) = True := eq_true (by omega)
        have jx : IntKind.i64.wrap (x + 1) = x + 1 := by rw [IntKind.wrap_i64]; have := HOk.out.u.2; have := HOk.out.xs.2; omega
        have HAt := Aside0.mk (ats_fit c3)
        have he0 : wl.cell? ⟨gl, x.toNat, none⟩ = some (.int .i64 (P.ats i : Nat)) := by rw [show x.toNat = i from by omega]; exact lit_at HX.out.gt0 c3
        obtain ⟨at_, hat⟩ : ∃ at_ : Int, at_ = ((P.ats i : Nat) : Int) := ⟨_, rfl⟩
        rw [← hat] at he0
        have HAT := Aside0.mk hat
        clear c3 he hat
        go_wp2
        clear he0
        have H110 := Aside0.mk HX.out.drew
        refine start_ (n := 6) (S := fun w' => w'.cell? ⟨g1, 0, none⟩ = some (.int .u32 g)) (ds := [5]) #[false, false, false, false, false, false] (by kernel_rfl) rfl rfl ((blk_cell H110.out.gt3 0).trans rfl) (fun hHeld => ?_)
        clear HX
        generalize wl.drew = w109 at H110 hHeld ⊢
        refine pure_ (i := 0) (N := some 16) (v := ?_) (a' := ?_) #[true, false, false, false, false, false] rfl rfl (by kernel_rfl) (fun _ _ _ h => h) (Or.inl ⟨by rfl, ?_⟩) ?_ ?_
        rotate_left
        · intro w'
          go_simp
          with_reducible rfl
        rotate_left
        · simp only [Act.put, List.setIfInBounds_toArray, List.set_cons_zero, List.set_cons_succ, i64_w, i32_w]
          rfl
        refine pure_ (i := 1) (N := some 17) (v := ?_) (a' := ?_) #[true, true, false, false, false, false] rfl rfl (by kernel_rfl) (fun _ _ _ h => h) (Or.inl ⟨by rfl, ?_⟩) ?_ ?_
        rotate_left
        · intro w'
          go_simp
          with_reducible rfl
        rotate_left
        · simp only [Act.put, List.setIfInBounds_toArray, List.set_cons_zero, List.set_cons_succ, i64_w, i32_w]
          rfl
        refine pure_ (i := 2) (N := some 18) (v := ?_) (a' := ?_) #[true, true, true, false, false, false] rfl rfl (by kernel_rfl) (fun _ _ _ h => h) (Or.inl ⟨by rfl, ?_⟩) ?_ ?_
        rotate_left
        · intro w'
          go_simp
          with_reducible rfl
        rotate_left
        · simp only [Act.put, List.setIfInBounds_toArray, List.set_cons_zero, List.set_cons_succ, i64_w, i32_w]
          rfl
        refine take_ (i := 3) (N := some 19) (v := ?_) (a' := ?_) #[true, true, true, true, false, false] rfl rfl (by kernel_rfl) (fun _ _ _ h => h) (Or.inl ⟨by rfl, ?_⟩) hHeld ?_ ?_
        rotate_left
        · rintro w' s0
          go_simp
          with_reducible rfl
        rotate_left
        · simp only [Act.put, List.setIfInBounds_toArray, List.set_cons_zero, List.set_cons_succ, i64_w, i32_w]
          rfl
        refine pure_ (i := 4) (N := some 20) (v := ?_) (a' := ?_) #[true, true, true, true, true, false] rfl rfl (by kernel_rfl) (fun _ _ _ h => h) (Or.inl ⟨by rfl, ?_⟩) ?_ ?_
        rotate_left
        · intro w'
          go_simp
          with_reducible rfl
        rotate_left
        · simp only [Act.put, List.setIfInBounds_toArray, List.set_cons_zero, List.set_cons_succ, i64_w, i32_w]
          rfl
        refine last_ (i := 5) (N := some 21) #[true, true, true, true, true, true] rfl rfl (by kernel_rfl) (by decide) (fun K hK => ?_)
        have hat := HAT.out
        subst hat
        refine goes_ Try.func88 (by kernel_rfl) rfl #[.slice (some ⟨g3, 0, none⟩) 128 128, .int .i64 (P.ats i : Nat), .int .i64 4, .int .u64 g] (by rfl) rfl rfl (by (try simp only [List.map_toArray, List.map_cons, List.map_nil]); first | done | rfl) ?_
        have hp_ := put_box (l := P.sA g i) (x := g) (P.ats i) 4 H110.out.below (H110.out.at_ _ (List.mem_cons_of_mem _ (List.mem_cons_self ..))).1 H110.out.gt1 (by have := HOk.out.g; omega) (by decide) (by rw [sA_length]; exact HAt.out) (by rw [sA_length]; decide) (by rw [sA_length]; decide)
        rw [sA_length] at hp_
        refine hp_.mono ?_
        rintro e w111 ⟨rfl, hb11, hS11⟩
        refine ⟨_, rfl, ?_⟩
        clear hp_
        rw [P.sA_step g i C3.out] at hb11
        have H112 := Aside0.mk (H110.out.wr1 (cs' := (bytesV (P.sA g (i + 1))).toArray) hb11 hS11)
        clear hb11 hS11 H110
        refine hK.out _ _ ?_
        clear hK K
        refine done_ (by kernel_rfl) ?_
        try dsimp only
        have HZ := Aside0.mk H112.out
        clear H112
        go_wp2
        go_roundg k1_
        case measure => omega
        case rel => exact ⟨i + 1, x + 1, _, rfl, ⟨rfl⟩, ⟨by rw [HE.out]; rfl⟩, ⟨by have := HK.out; omega⟩, ⟨by have := C3.out; omega⟩, HZ⟩
      · have c3b : decide (x < (4 : Int)) = false := decide_eq_false (by omega)
        obtain rfl : i = 4 := by have := HI.out; omega
        clear he
        try clear C3
        have HX2 := Aside0.mk (show Bx w [(gl, #[.int .i64 0, .int .i64 60, .int .i64 64, .int .i64 124], 3), (g3, (bytesV (P.sB g [0, 0] [0, 0] 0 [0, 0, 0, 0])).toArray, 98), (g2, (bytesV (List.replicate 128 0)).toArray, 98), (g1, #[.int .u32 g, .int .u32 t, .slice A0 xs.length c0, .slice A1 u.length c1], 44)] wl from P.sA_4 g ▸ HX.out)
        clear HX
        go_wp2_with (first | ((with_reducible refine gate_builtin (b := .copy) (xs := #[.tmp 23, .const (.string ⟨#[83, 49]⟩)]) rfl ?_); refine Aside0.out ?_))
        refine Aside0.mk ?_
        obtain ⟨i5, hi5, _, hsz5, _⟩ := info_parts info5
        refine copy_str rfl (.tmp 23) _ 25 _ rfl 5 Try.underlying25 (fun w_ => by simp [sizeOf, typeInfo, hi5, hsz5, Result.andThen]) g3 4 124 124 rfl _ rfl (by decide) (bytesV (P.sB g [0, 0] [0, 0] 0 [0, 0, 0, 0])) 98 HX2.out.gt1 [83, 49] rfl rfl (by rw [bytesV_length]; show 6 ≤ 128; decide) ?_
        intro w113 hb13 hS13
        rw [show splice (bytesV (P.sB g [0, 0] [0, 0] 0 [0, 0, 0, 0])) 4 (bytesV [83, 49]) = bytesV (P.sB g [83, 49] [0, 0] 0 [0, 0, 0, 0]) from rfl] at hb13
        clear hi5 hsz5
        have H114 := Aside0.mk (HX2.out.wr1 (cs' := (bytesV (P.sB g [83, 49] [0, 0] 0 [0, 0, 0, 0])).toArray) hb13 hS13)
        clear hb13 hS13 HX2
        go_wp2_with (first | ((with_reducible refine gate_builtin (b := .copy) (xs := #[.tmp 25, .const (.string ⟨#[83, 50]⟩)]) rfl ?_); refine Aside0.out ?_))
        refine Aside0.mk ?_
        obtain ⟨i5, hi5, _, hsz5, _⟩ := info_parts info5
        refine copy_str rfl (.tmp 25) _ 25 _ rfl 5 Try.underlying25 (fun w_ => by simp [sizeOf, typeInfo, hi5, hsz5, Result.andThen]) g3 68 60 60 rfl _ rfl (by decide) (bytesV (P.sB g [83, 49] [0, 0] 0 [0, 0, 0, 0])) 98 H114.out.gt1 [83, 50] rfl rfl (by rw [bytesV_length]; show 70 ≤ 128; decide) ?_
        intro w115 hb15 hS15
        rw [show splice (bytesV (P.sB g [83, 49] [0, 0] 0 [0, 0, 0, 0])) 68 (bytesV [83, 50]) = bytesV (P.sB g [83, 49] [83, 50] 0 [0, 0, 0, 0]) from rfl] at hb15
        clear hi5 hsz5
        have H116 := Aside0.mk (H114.out.wr1 (cs' := (bytesV (P.sB g [83, 49] [83, 50] 0 [0, 0, 0, 0])).toArray) hb15 hS15)
        clear hb15 hS15 H114
        have hk2 : w115.cell? ⟨g1, 2, none⟩ = some (.slice A0 xs.length c0) := (blk_cell H116.out.gt3 2).trans rfl
        go_wp2_with (first | ((with_reducible refine gate_store (t := 5) (p := 31) rfl ?_); refine Aside0.out ?_))
        refine Aside0.mk ?_
        refine st (o' := 6) (u := .int .u8 n) (seg := [.int .u8 n]) ?hw17 ?hN17 rfl ?hp17 ?hx17 rfl H116.out.gt1 (by kernel_rfl) (by rw [List.size_toArray, bytesV_length]; show 7 ≤ 128; decide) (by simp [Value.oneCell']) ?_
        case hw17 => rfl
        case hN17 => rfl
        case hp17 => rfl
        case hx17 => rfl
        intro w117 hb17 hS17
        replace hb17 := hb17.trans (congrArg (fun z : List Value => some (Obj.cells z.toArray 98 (0, 0))) (set_seg (l := P.sB g [83, 49] [83, 50] 0 [0, 0, 0, 0]) (i := 6) (x := n) (by show 6 < 128; decide)))
        rw [P.sB_3] at hb17
        clear hk2
        have H118 := Aside0.mk (H116.out.wr1 (cs' := (bytesV (P.sB g [83, 49] [83, 50] n [0, 0, 0, 0])).toArray) hb17 hS17)
        clear hb17 hS17 H116
        try go_wp2
        have H120 := Aside0.mk H118.out.drew
        refine start_ (n := 5) (S := fun w' => w'.cell? ⟨g1, 1, none⟩ = some (.int .u32 t)) (ds := [4]) #[false, false, false, false, false] (by kernel_rfl) rfl rfl ((blk_cell H120.out.gt3 1).trans rfl) (fun hHeld => ?_)
        clear H118
        generalize w117.drew = w119 at H120 hHeld ⊢
        refine pure_ (i := 0) (N := some 32) (v := ?_) (a' := ?_) #[true, false, false, false, false] rfl rfl (by kernel_rfl) (fun _ _ _ h => h) (Or.inl ⟨by rfl, ?_⟩) ?_ ?_
        rotate_left
        · intro w'
          go_simp
          with_reducible rfl
        rotate_left
        · simp only [Act.put, List.setIfInBounds_toArray, List.set_cons_zero, List.set_cons_succ, i64_w, i32_w]
          rfl
        refine pure_ (i := 1) (N := some 33) (v := ?_) (a' := ?_) #[true, true, false, false, false] rfl rfl (by kernel_rfl) (fun _ _ _ h => h) (Or.inl ⟨by rfl, ?_⟩) ?_ ?_
        rotate_left
        · intro w'
          go_simp
          with_reducible rfl
        rotate_left
        · simp only [Act.put, List.setIfInBounds_toArray, List.set_cons_zero, List.set_cons_succ, i64_w, i32_w]
          rfl
        refine take_ (i := 2) (N := some 34) (v := ?_) (a' := ?_) #[true, true, true, false, false] rfl rfl (by kernel_rfl) (fun _ _ _ h => h) (Or.inl ⟨by rfl, ?_⟩) hHeld ?_ ?_
        rotate_left
        · rintro w' s0
          go_simp
          with_reducible rfl
        rotate_left
        · simp only [Act.put, List.setIfInBounds_toArray, List.set_cons_zero, List.set_cons_succ, i64_w, i32_w]
          rfl
        refine pure_ (i := 3) (N := some 35) (v := ?_) (a' := ?_) #[true, true, true, true, false] rfl rfl (by kernel_rfl) (fun _ _ _ h => h) (Or.inl ⟨by rfl, ?_⟩) ?_ ?_
        rotate_left
        · intro w'
          go_simp
          with_reducible rfl
        rotate_left
        · simp only [Act.put, List.setIfInBounds_toArray, List.set_cons_zero, List.set_cons_succ, i64_w, i32_w]
          rfl
        refine last_ (i := 4) (N := some 36) #[true, true, true, true, true] rfl rfl (by kernel_rfl) (by decide) (fun K hK => ?_)
        have sBl : ∀ s1 s2 n_ tl_, s1.length = 2 → s2.length = 2 → tl_.length = 4 → (P.sB g s1 s2 n_ tl_).length = 128 := fun s1 s2 n_ tl_ h1 h2 h3 => by unfold P.sB P.snapP; simp only [List.length_append, P.leB_length, h1, h2, h3, List.length_cons, List.length_nil, List.length_replicate, P.Z32, P.Z16]
        refine goes_ Try.func88 (by kernel_rfl) rfl #[.slice (some ⟨g3, 0, none⟩) 128 128, .int .i64 8, .int .i64 4, .int .u64 t] (by rfl) rfl rfl (by (try simp only [List.map_toArray, List.map_cons, List.map_nil]); first | done | rfl) ?_
        have hp_ := put_box (l := P.sB g [83, 49] [83, 50] n [0, 0, 0, 0]) (x := t) (8) 4 H120.out.below (H120.out.at_ _ (List.mem_cons_of_mem _ (List.mem_cons_self ..))).1 H120.out.gt1 (by have := HOk.out.t; omega) (by decide) (by rw [sBl _ _ _ _ rfl rfl rfl]; decide) (by rw [sBl _ _ _ _ rfl rfl rfl]; decide) (by rw [sBl _ _ _ _ rfl rfl rfl]; decide)
        rw [sBl _ _ _ _ rfl rfl rfl] at hp_
        refine hp_.mono ?_
        rintro e w121 ⟨rfl, hb21, hS21⟩
        refine ⟨_, rfl, ?_⟩
        clear hp_
        rw [P.sB_4] at hb21
        have H122 := Aside0.mk (H120.out.wr1 (cs' := (bytesV (P.sB g [83, 49] [83, 50] n (P.leB 4 t))).toArray) hb21 hS21)
        clear hb21 hS21 H120
        refine hK.out _ _ ?_
        clear hK K
        refine done_ (by kernel_rfl) ?_
        try dsimp only
        clear sBl
        have HY := H122.out
        rw [P.sE_0 g n t xs] at HY
        have HX2 := Aside0.mk HY
        clear HY H122
        have hk3 : w121.cell? ⟨g1, 3, none⟩ = some (.slice A1 u.length c1) := (blk_cell HX2.out.gt3 3).trans rfl
        go_wp2
        go_loopg [40] (u.length + 1) (fun kq v_ w' => ∃ (i : Nat) (x : Int) (wl : World), v_ = .int .i64 x ∧ Aside0 (wl = w') ∧ Aside0 (x = (i : Int)) ∧ Aside0 (kq + i = u.length + 1) ∧ Aside0 (i ≤ u.length) ∧ Aside0 (Bx w [(gl, #[.int .i64 0, .int .i64 60, .int .i64 64, .int .i64 124], 3), (g3, (bytesV (P.sE g n t (u.take i) xs 0 [0, 0, 0, 0])).toArray, 98), (g2, (bytesV (List.replicate 128 0)).toArray, 98), (g1, #[.int .u32 g, .int .u32 t, .slice A0 xs.length c0, .slice A1 u.length c1], 44)] w'))
        case atStart => exact ⟨0, 0, _, rfl, ⟨rfl⟩, ⟨rfl⟩, ⟨by omega⟩, ⟨Nat.zero_le _⟩, HX2⟩
        case round =>
          clear HX2
          obtain ⟨i, x, wl, rfl, hwl, HE, HK, HI, HX⟩ := hrel
          obtain ⟨hwl⟩ := hwl
          subst hwl
          have he := HE.out
          cases gk with
          | zero => exact absurd HK.out (by have := HI.out; omega)
          | succ k1_ =>
            by_cases c3 : i < u.length
            · have C3 := Aside0.mk c3
              have c3b : decide (x < (u.length : Int)) = true := decide_eq_true (by omega)
              have p5 : (0 ≤ x) = True := eq_true (by omega)
              have q5 : (x < (u.length : Int)) = True := eq_true (by omega)
              have jx : IntKind.i64.wrap (x + 1) = x + 1 := by rw [IntKind.wrap_i64]; have := HOk.out.u.2; have := HOk.out.xs.2; omega
              obtain ⟨ad, eA, hcf0⟩ := Kd.at_int HR1.out x (by omega) (by omega)
              subst eA
              replace hcf0 := pw_cell_below HX.out.below hcf0
              obtain ⟨v, hv⟩ : ∃ v, v = rd u x := ⟨_, rfl⟩
              rw [← hv] at hcf0
              rw [he] at hv
              have HV := Aside0.mk hv
              have hvr := P.goodS_mem HOk.out.u.1 (hv ▸ P.rd_mem c3)
              have HVr := Aside0.mk hvr
              have HVn := Aside0.mk (show v ∉ u.take i from hv ▸ take_new HOk.out.u.1 c3)
              obtain ⟨q, hq⟩ : ∃ q, q = v / 8 := ⟨_, rfl⟩
              obtain ⟨r, hr⟩ : ∃ r, r = v % 8 := ⟨_, rfl⟩
              have HQ := Aside0.mk hq
              have HRm := Aside0.mk hr
              have jq : wrap64 q = q := P.w64 (by omega) (by omega)
              have jr : wrap64 r = r := P.w64 (by omega) (by omega)
              have jq2 : Int.tdiv v 8 = q := by rw [Int.tdiv_eq_ediv_of_nonneg hvr.1]; omega
              have jr2 : Int.tmod v 8 = r := by rw [Int.tmod_eq_emod_of_nonneg hvr.1]; omega
              have ja : wrap64 (12 + q) = 12 + q := P.w64 (by omega) (by omega)
              have js : IntKind.u8.wrap ((2 : Int) ^ min r.toNat 8) = 2 ^ r.toNat := by
                rcases (show r = 0 ∨ r = 1 ∨ r = 2 ∨ r = 3 ∨ r = 4 ∨ r = 5 ∨ r = 6 ∨ r = 7 from by omega) with h | h | h | h | h | h | h | h <;> subst h <;> rfl
              have pa : (0 ≤ 12 + q) = True := eq_true (by omega)
              have pb : (12 + q < 128) = True := eq_true (by omega)
              have pr : (0 ≤ r) = True := eq_true (by omega)
              clear c3 he hv hvr hq hr
              go_wp2
              clear hcf0 p5 q5
              have H124 := Aside0.mk HX.out.drew
              refine start_ (n := 11) (S := fun w' => w'.cell? ⟨g3, (12 + q).toNat, none⟩ = some (.int .u8 (P.bitB (u.take i) q))) (ds := [10]) #[false, false, false, false, false, false, false, false, false, false, false] (by kernel_rfl) rfl rfl ((blk_cell H124.out.gt1 _).trans (by rw [List.getElem?_toArray]; unfold bytesV; rw [List.getElem?_map, HQ.out, P.sE_at g n t (u.take i) xs 0 [0, 0, 0, 0] HVr.out.1 HVr.out.2]; rfl)) (fun hHeld => ?_)
              clear HX
              generalize wl.drew = w123 at H124 hHeld ⊢
              refine pure_ (i := 0) (N := some 44) (v := ?_) (a' := ?_) #[true, false, false, false, false, false, false, false, false, false, false] rfl rfl (by kernel_rfl) (fun _ _ _ h => h) (Or.inl ⟨by rfl, ?_⟩) ?_ ?_
              rotate_left
              · intro w'
                go_simp
                with_reducible rfl
              rotate_left
              · simp only [Act.put, List.setIfInBounds_toArray, List.set_cons_zero, List.set_cons_succ, i64_w, i32_w]
                rfl
              refine pure_ (i := 1) (N := some 45) (v := ?_) (a' := ?_) #[true, true, false, false, false, false, false, false, false, false, false] rfl rfl (by kernel_rfl) (fun _ _ _ h => h) (Or.inl ⟨by rfl, ?_⟩) ?_ ?_
              rotate_left
              · intro w'
                go_simp
                with_reducible rfl
              rotate_left
              · simp only [Act.put, List.setIfInBounds_toArray, List.set_cons_zero, List.set_cons_succ, i64_w, i32_w]
                rfl
              refine pure_ (i := 2) (N := some 46) (v := ?_) (a' := ?_) #[true, true, true, false, false, false, false, false, false, false, false] rfl rfl (by kernel_rfl) (fun _ _ _ h => h) (Or.inl ⟨by rfl, ?_⟩) ?_ ?_
              rotate_left
              · intro w'
                go_simp
                with_reducible rfl
              rotate_left
              · simp only [Act.put, List.setIfInBounds_toArray, List.set_cons_zero, List.set_cons_succ, i64_w, i32_w]
                rfl
              refine pure_ (i := 3) (N := some 47) (v := ?_) (a' := ?_) #[true, true, true, true, false, false, false, false, false, false, false] rfl rfl (by kernel_rfl) (fun _ _ _ h => h) (Or.inl ⟨by rfl, ?_⟩) ?_ ?_
              rotate_left
              · intro w'
                go_simp
                with_reducible rfl
              rotate_left
              · simp only [Act.put, List.setIfInBounds_toArray, List.set_cons_zero, List.set_cons_succ, i64_w, i32_w]
                rfl
              refine take_ (i := 4) (N := some 48) (v := ?_) (a' := ?_) #[true, true, true, true, true, false, false, false, false, false, false] rfl rfl (by kernel_rfl) (fun _ _ _ h => h) (Or.inl ⟨by rfl, ?_⟩) hHeld ?_ ?_
              rotate_left
              · rintro w' s0
                go_simp
                with_reducible rfl
              rotate_left
              · simp only [Act.put, List.setIfInBounds_toArray, List.set_cons_zero, List.set_cons_succ, i64_w, i32_w]
                rfl
              refine pure_ (i := 5) (N := some 49) (v := ?_) (a' := ?_) #[true, true, true, true, true, true, false, false, false, false, false] rfl rfl (by kernel_rfl) (fun _ _ _ h => h) (Or.inl ⟨by rfl, ?_⟩) ?_ ?_
              rotate_left
              · intro w'
                go_simp
                with_reducible rfl
              rotate_left
              · simp only [Act.put, List.setIfInBounds_toArray, List.set_cons_zero, List.set_cons_succ, i64_w, i32_w]
                rfl
              refine pure_ (i := 6) (N := some 50) (v := ?_) (a' := ?_) #[true, true, true, true, true, true, true, false, false, false, false] rfl rfl (by kernel_rfl) (fun _ _ _ h => h) (Or.inl ⟨by rfl, ?_⟩) ?_ ?_
              rotate_left
              · intro w'
                go_simp
                with_reducible rfl
              rotate_left
              · simp only [Act.put, List.setIfInBounds_toArray, List.set_cons_zero, List.set_cons_succ, i64_w, i32_w]
                rfl
              refine pure_ (i := 7) (N := some 51) (v := ?_) (a' := ?_) #[true, true, true, true, true, true, true, true, false, false, false] rfl rfl (by kernel_rfl) (fun _ _ _ h => h) (Or.inl ⟨by rfl, ?_⟩) ?_ ?_
              rotate_left
              · intro w'
                go_simp
                with_reducible rfl
              rotate_left
              · simp only [Act.put, List.setIfInBounds_toArray, List.set_cons_zero, List.set_cons_succ, i64_w, i32_w]
                rfl
              refine pure_ (i := 8) (N := some 52) (v := ?_) (a' := ?_) #[true, true, true, true, true, true, true, true, true, false, false] rfl rfl (by kernel_rfl) (fun _ _ _ h => h) (Or.inl ⟨by rfl, ?_⟩) ?_ ?_
              rotate_left
              · intro w'
                go_simp
                with_reducible rfl
              rotate_left
              · simp only [Act.put, List.setIfInBounds_toArray, List.set_cons_zero, List.set_cons_succ, i64_w, i32_w]
                rfl
              refine pure_ (i := 9) (N := some 53) (v := ?_) (a' := ?_) #[true, true, true, true, true, true, true, true, true, true, false] rfl rfl (by kernel_rfl) (fun _ _ _ h => h) (Or.inl ⟨by rfl, ?_⟩) ?_ ?_
              rotate_left
              · intro w'
                go_simp
                with_reducible rfl
              rotate_left
              · simp only [Act.put, List.setIfInBounds_toArray, List.set_cons_zero, List.set_cons_succ, i64_w, i32_w]
                rfl
              refine last_ (i := 10) (N := none) #[true, true, true, true, true, true, true, true, true, true, true] rfl rfl (by kernel_rfl) (by decide) (fun K hK => ?_)
              refine st_part_step (o' := (12 + q).toNat) (u := .int .u8 (Go.bits .or .u8 (P.bitB (u.take i) q) (2 ^ r.toNat))) (seg := [.int .u8 (Go.bits .or .u8 (P.bitB (u.take i) q) (2 ^ r.toNat))]) (by rfl) rfl rfl ?hp25 ?hx25 rfl H124.out.gt1 (by kernel_rfl) (by rw [List.size_toArray, bytesV_length, P.sE_length _ _ _ _ _ _ _ rfl]; have := HQ.out; have := HVr.out; show (12 + q).toNat + 1 ≤ 128; omega) (by simp [Value.oneCell']) ?_
              case hp25 => rfl
              case hx25 => rfl
              intro w125 hb25 hS25
              replace hb25 := hb25.trans (congrArg (fun z : List Value => some (Obj.cells z.toArray 98 (0, 0))) (set_seg (l := P.sE g n t (u.take i) xs 0 [0, 0, 0, 0]) (i := (12 + q).toNat) (x := Go.bits .or .u8 (P.bitB (u.take i) q) (2 ^ r.toNat)) (by rw [P.sE_length _ _ _ _ _ _ _ rfl]; have := HQ.out; have := HVr.out; omega)))
              rw [show (P.sE g n t (u.take i) xs 0 [0, 0, 0, 0]).set (12 + q).toNat (Go.bits .or .u8 (P.bitB (u.take i) q) (2 ^ r.toNat)) = P.sE g n t (u.take (i + 1)) xs 0 [0, 0, 0, 0] from by rw [HQ.out, HRm.out, P.sE_bit g n t (u.take i) xs 0 [0, 0, 0, 0] HVr.out.1 HVr.out.2 HVn.out, take_snoc C3.out, ← HV.out]] at hb25
              have H126 := Aside0.mk (H124.out.wr1 (cs' := (bytesV (P.sE g n t (u.take (i + 1)) xs 0 [0, 0, 0, 0])).toArray) hb25 hS25)
              clear hb25 hS25 H124
              refine hK.out _ _ ?_
              clear hK K
              refine done_ (by kernel_rfl) ?_
              try dsimp only
              clear jq jr jq2 jr2 ja pa pb pr js
              have HZ := Aside0.mk H126.out
              clear H126
              go_wp2
              go_roundg k1_
              case measure => omega
              case rel => exact ⟨i + 1, x + 1, _, rfl, ⟨rfl⟩, ⟨by rw [HE.out]; rfl⟩, ⟨by have := HK.out; omega⟩, ⟨by have := C3.out; omega⟩, HZ⟩
            · have c3b : decide (x < (u.length : Int)) = false := decide_eq_false (by omega)
              obtain rfl : i = u.length := by have := HI.out; omega
              clear he
              have HY := HX.out
              rw [List.take_length] at HY
              have HX2 := Aside0.mk HY
              clear HY HX
              have hk4 : wl.cell? ⟨g1, 2, none⟩ = some (.slice A0 xs.length c0) := (blk_cell HX2.out.gt3 2).trans rfl
              go_wp2
              go_loopg [58] (xs.length + 1) (fun kq v_ w' => ∃ (i : Nat) (x : Int) (wl : World), v_ = .int .i64 x ∧ Aside0 (wl = w') ∧ Aside0 (x = (i : Int)) ∧ Aside0 (kq + i = xs.length + 1) ∧ Aside0 (i ≤ xs.length) ∧ Aside0 (Bx w [(gl, #[.int .i64 0, .int .i64 60, .int .i64 64, .int .i64 124], 3), (g3, (bytesV (P.sE g n t (u) xs i [0, 0, 0, 0])).toArray, 98), (g2, (bytesV (List.replicate 128 0)).toArray, 98), (g1, #[.int .u32 g, .int .u32 t, .slice A0 xs.length c0, .slice A1 u.length c1], 44)] w'))
              case atStart => exact ⟨0, 0, _, rfl, ⟨rfl⟩, ⟨rfl⟩, ⟨by omega⟩, ⟨Nat.zero_le _⟩, HX2⟩
              case round =>
                clear HX2
                obtain ⟨i, x, wl, rfl, hwl, HE, HK, HI, HX⟩ := hrel
                obtain ⟨hwl⟩ := hwl
                subst hwl
                have he := HE.out
                cases gk with
                | zero => exact absurd HK.out (by have := HI.out; omega)
                | succ k1_ =>
                  by_cases c3 : i < xs.length
                  · have C3 := Aside0.mk c3
                    have c3b : decide (x < (xs.length : Int)) = true := decide_eq_true (by omega)
                    have p5 : (0 ≤ x) = True := eq_true (by omega)
                    have q5 : (x < (xs.length : Int)) = True := eq_true (by omega)
                    have jx : IntKind.i64.wrap (x + 1) = x + 1 := by rw [IntKind.wrap_i64]; have := HOk.out.u.2; have := HOk.out.xs.2; omega
                    obtain ⟨ad, eA, hcf0⟩ := Kd.at_int HR0.out x (by omega) (by omega)
                    subst eA
                    replace hcf0 := pw_cell_below HX.out.below hcf0
                    obtain ⟨v, hv⟩ : ∃ v, v = rd xs x := ⟨_, rfl⟩
                    rw [← hv] at hcf0
                    rw [he] at hv
                    have HV := Aside0.mk hv
                    have hvr := P.goodS_mem HOk.out.xs.1 (hv ▸ P.rd_mem c3)
                    have HVr := Aside0.mk hvr
                    have jv : IntKind.u64.wrap v = v := by rw [IntKind.wrap_u64]; omega
                    have H16 := Aside0.mk (show i < 16 from Nat.lt_of_lt_of_le c3 HOk.out.xs.2)
                    have HDA := Aside0.mk (show impl_denyAt.f x = some ((P.denAt i : Nat) : Int) from by rw [he]; exact P.denyAt_is (Nat.lt_of_lt_of_le c3 HOk.out.xs.2))
                    obtain ⟨at_, hat⟩ : ∃ at_ : Int, at_ = ((P.denAt i : Nat) : Int) := ⟨_, rfl⟩
                    have HAT := Aside0.mk hat
                    clear c3 he hv hvr hat
                    go_wp2
                    clear hcf0 p5 q5
                    have H128 := Aside0.mk HX.out.drew
                    refine start_ (n := 6) (S := fun w' => True) (ds := [5]) #[false, false, false, false, false, false] (by kernel_rfl) rfl rfl trivial (fun hHeld => ?_)
                    clear HX
                    generalize wl.drew = w127 at H128 hHeld ⊢
                    refine pure_ (i := 0) (N := some 63) (v := ?_) (a' := ?_) #[true, false, false, false, false, false] rfl rfl (by kernel_rfl) (fun _ _ _ h => h) (Or.inl ⟨by rfl, ?_⟩) ?_ ?_
                    rotate_left
                    · intro w'
                      go_simp
                      with_reducible rfl
                    rotate_left
                    · simp only [Act.put, List.setIfInBounds_toArray, List.set_cons_zero, List.set_cons_succ, i64_w, i32_w]
                      rfl
                    refine pure_ (i := 1) (N := some 64) (v := ?_) (a' := ?_) #[true, true, false, false, false, false] rfl rfl (by kernel_rfl) (fun _ _ _ h => h) (Or.inl ⟨by rfl, ?_⟩) ?_ ?_
                    rotate_left
                    · intro w'
                      go_simp
                      with_reducible rfl
                    rotate_left
                    · simp only [Act.put, List.setIfInBounds_toArray, List.set_cons_zero, List.set_cons_succ, i64_w, i32_w]
                      rfl
                    refine pure_ (i := 3) (N := some 66) (v := ?_) (a' := ?_) #[true, true, false, true, false, false] rfl rfl (by kernel_rfl) (fun _ _ _ h => h) (Or.inl ⟨by rfl, ?_⟩) ?_ ?_
                    rotate_left
                    · intro w'
                      go_simp
                      with_reducible rfl
                    rotate_left
                    · simp only [Act.put, List.setIfInBounds_toArray, List.set_cons_zero, List.set_cons_succ, i64_w, i32_w]
                      rfl
                    refine pure_ (i := 4) (N := some 67) (v := ?_) (a' := ?_) #[true, true, false, true, true, false] rfl rfl (by kernel_rfl) (fun _ _ _ h => h) (Or.inl ⟨by rfl, ?_⟩) ?_ ?_
                    rotate_left
                    · intro w'
                      go_simp
                      with_reducible rfl
                    rotate_left
                    · simp only [Act.put, List.setIfInBounds_toArray, List.set_cons_zero, List.set_cons_succ, i64_w, i32_w]
                      rfl
                    refine one_ (i := 2) (N := some 65) #[true, true, true, true, true, false] rfl rfl (by kernel_rfl) (by decide) (fun K hK => ?_)
                    refine goes_ Try.func95 (by kernel_rfl) rfl #[.int .i64 x] (by rfl) rfl rfl (by (try simp only [List.map_toArray, List.map_cons, List.map_nil]); first | done | rfl) ?_
                    refine (impl_denyAt.calls x _ _ HDA.out).mono ?_
                    rintro e w129 ⟨rfl, hd_⟩
                    refine ⟨_, rfl, ?_⟩
                    have hb_ := hd_.below
                    clear hd_
                    have H130 := Aside0.mk (H128.out.step hb_)
                    clear hb_ H128
                    refine hK.out _ _ trivial (fun hHeld => ?_)
                    clear hK K
                    refine norm_ (a' := ?_) ?_ ?_
                    rotate_left
                    · show Act.put _ (some 65) _ = _
                      simp only [Act.put, List.setIfInBounds_toArray, List.set_cons_zero, List.set_cons_succ, i64_w, i32_w]
                      rfl
                    refine last_ (i := 5) (N := some 68) #[true, true, true, true, true, true] rfl rfl (by kernel_rfl) (by decide) (fun K hK => ?_)
                    refine goes_ Try.func88 (by kernel_rfl) rfl #[.slice (some ⟨g3, 0, none⟩) 128 128, .int .i64 (P.denAt i : Nat), .int .i64 2, .int .u64 v] (by rfl) rfl rfl (by (try simp only [List.map_toArray, List.map_cons, List.map_nil]); first | done | rfl) ?_
                    have hp_ := put_box (l := P.sE g n t (u) xs i [0, 0, 0, 0]) (x := v) (P.denAt i) 2 H130.out.below (H130.out.at_ _ (List.mem_cons_of_mem _ (List.mem_cons_self ..))).1 H130.out.gt1 (by have := HVr.out; omega) (by decide) (by rw [P.sE_length _ _ _ _ _ _ _ rfl]; exact P.denAt_fit H16.out) (by rw [P.sE_length _ _ _ _ _ _ _ rfl]; decide) (by rw [P.sE_length _ _ _ _ _ _ _ rfl]; decide)
                    rw [P.sE_length _ _ _ _ _ _ _ rfl] at hp_
                    refine hp_.mono ?_
                    rintro e w131 ⟨rfl, hb31, hS31⟩
                    refine ⟨_, rfl, ?_⟩
                    clear hp_
                    rw [HV.out, P.sE_deny g n t u xs i H16.out] at hb31
                    have H132 := Aside0.mk (H130.out.wr1 (cs' := (bytesV (P.sE g n t (u) xs (i + 1) [0, 0, 0, 0])).toArray) hb31 hS31)
                    clear hb31 hS31 H130
                    refine hK.out _ _ ?_
                    clear hK K
                    refine done_ (by kernel_rfl) ?_
                    try dsimp only
                    clear jv
                    have HZ := Aside0.mk H132.out
                    clear H132
                    go_wp2
                    go_roundg k1_
                    case measure => omega
                    case rel => exact ⟨i + 1, x + 1, _, rfl, ⟨rfl⟩, ⟨by rw [HE.out]; rfl⟩, ⟨by have := HK.out; omega⟩, ⟨by have := C3.out; omega⟩, HZ⟩
                  · have c3b : decide (x < (xs.length : Int)) = false := decide_eq_false (by omega)
                    obtain rfl : i = xs.length := by have := HI.out; omega
                    clear he
                    try go_wp2
                    have H134 := Aside0.mk HX.out.drew
                    refine start_ (n := 5) (S := fun w' => True) (ds := [4]) #[false, false, false, false, false] (by kernel_rfl) rfl rfl trivial (fun hHeld => ?_)
                    clear HX
                    generalize wl.drew = w133 at H134 hHeld ⊢
                    refine pure_ (i := 0) (N := some 70) (v := ?_) (a' := ?_) #[true, false, false, false, false] rfl rfl (by kernel_rfl) (fun _ _ _ h => h) (Or.inl ⟨by rfl, ?_⟩) ?_ ?_
                    rotate_left
                    · intro w'
                      go_simp
                      with_reducible rfl
                    rotate_left
                    · simp only [Act.put, List.setIfInBounds_toArray, List.set_cons_zero, List.set_cons_succ, i64_w, i32_w]
                      rfl
                    refine pure_ (i := 1) (N := some 71) (v := ?_) (a' := ?_) #[true, true, false, false, false] rfl rfl (by kernel_rfl) (fun _ _ _ h => h) (Or.inl ⟨by rfl, ?_⟩) ?_ ?_
                    rotate_left
                    · intro w'
                      go_simp
                      with_reducible rfl
                    rotate_left
                    · simp only [Act.put, List.setIfInBounds_toArray, List.set_cons_zero, List.set_cons_succ, i64_w, i32_w]
                      rfl
                    refine one_ (i := 2) (N := some 72) #[true, true, true, false, false] rfl rfl (by kernel_rfl) (by decide) (fun K hK => ?_)
                    refine goes_ Try.func89 (by kernel_rfl) rfl #[.slice (some ⟨g3, 0, none⟩) 120 128] (by rfl) rfl rfl (by (try simp only [List.map_toArray, List.map_cons, List.map_nil]); first | done | rfl) ?_
                    have hsl := P.sE_length g n t u xs xs.length [0, 0, 0, 0] rfl
                    have hCh : Kd.C (Kd.int .u8) w133 (some ⟨g3, 0, none⟩) (P.snapHead g n t u xs).length (P.snapHead g n t u xs) := by
                      have h1 := Kd.reads_of_C (enc := Value.int .u8) (d := (0 : Int)) (h1 := fun _ => rfl) (Kd.R_reads' (R_arr (base := 0) (l := P.sE g n t (u) xs xs.length [0, 0, 0, 0]) H134.out.gt1 (Nat.zero_le _) (by rw [hsl]; decide))).2.2
                      have h2 := h1.take_ 120 (by rw [hsl]; decide)
                      rw [P.sE_take] at h2
                      rw [P.snapHead_length]
                      exact Kd.C_of_reads (h1 := fun _ => rfl) h2
                    have hcc := impl_Crc32.calls kc _ 128 (P.snapHead g n t u xs) c _ hCh (by rw [P.snapHead_length]; decide) HKC.out
                    rw [P.snapHead_length] at hcc
                    refine hcc.mono ?_
                    rintro e w135 ⟨rfl, hd_⟩
                    refine ⟨_, rfl, ?_⟩
                    have hb_ := hd_.below
                    clear hd_ hCh hcc hsl
                    have H136 := Aside0.mk (H134.out.step hb_)
                    clear hb_ H134
                    refine hK.out _ _ trivial (fun hHeld => ?_)
                    clear hK K
                    refine norm_ (a' := ?_) ?_ ?_
                    rotate_left
                    · show Act.put _ (some 72) _ = _
                      simp only [Act.put, List.setIfInBounds_toArray, List.set_cons_zero, List.set_cons_succ, i64_w, i32_w]
                      rfl
                    refine pure_ (i := 3) (N := some 73) (v := ?_) (a' := ?_) #[true, true, true, true, false] rfl rfl (by kernel_rfl) (fun _ _ _ h => h) (Or.inl ⟨by rfl, ?_⟩) ?_ ?_
                    rotate_left
                    · intro w'
                      go_simp
                      with_reducible rfl
                    rotate_left
                    · simp only [Act.put, List.setIfInBounds_toArray, List.set_cons_zero, List.set_cons_succ, i64_w, i32_w]
                      rfl
                    refine last_ (i := 4) (N := some 74) #[true, true, true, true, true] rfl rfl (by kernel_rfl) (by decide) (fun K hK => ?_)
                    refine goes_ Try.func88 (by kernel_rfl) rfl #[.slice (some ⟨g3, 0, none⟩) 128 128, .int .i64 120, .int .i64 4, .int .u64 c] (by rfl) rfl rfl (by (try simp only [List.map_toArray, List.map_cons, List.map_nil]); first | done | rfl) ?_
                    have hp_ := put_box (l := P.sE g n t (u) xs xs.length [0, 0, 0, 0]) (x := c) (120) 4 H136.out.below (H136.out.at_ _ (List.mem_cons_of_mem _ (List.mem_cons_self ..))).1 H136.out.gt1 (by have := HCr.out; omega) (by decide) (by rw [P.sE_length _ _ _ _ _ _ _ rfl]; decide) (by rw [P.sE_length _ _ _ _ _ _ _ rfl]; decide) (by rw [P.sE_length _ _ _ _ _ _ _ rfl]; decide)
                    rw [P.sE_length _ _ _ _ _ _ _ rfl] at hp_
                    refine hp_.mono ?_
                    rintro e w137 ⟨rfl, hb37, hS37⟩
                    refine ⟨_, rfl, ?_⟩
                    clear hp_
                    rw [P.sE_crc] at hb37
                    have H138 := Aside0.mk (H136.out.wr1 (cs' := (bytesV (P.snapHead g n t u xs ++ (P.leB 4 c ++ P.leB 4 g))).toArray) hb37 hS37)
                    clear hb37 hS37 H136
                    refine hK.out _ _ ?_
                    clear hK K
                    refine done_ (by kernel_rfl) ?_
                    try dsimp only
                    have HFL := Aside0.mk (show (P.snapHead g n t u xs ++ (P.leB 4 c ++ P.leB 4 g)).length = 128 from by simp only [List.length_append, P.snapHead_length, P.leB_length])
                    go_wp2_with (first | ((with_reducible refine gate_dst (N := 75) rfl ?_); refine Aside0.out ?_))
                    refine Aside0.mk ?_
                    refine ld ?hw39 rfl ?hx39 H138.out.gt1 Try.underlying98 rfl (by rw [List.size_toArray, bytesV_length, HFL.out]; kernel_rfl) ?_
                    case hw39 => rfl
                    case hx39 => rfl
                    go_wp2_with (first | ((with_reducible refine gate_store (t := 98) (p := 2) rfl ?_); refine Aside0.out ?_))
                    refine Aside0.mk ?_
                    refine st_all ?hw40 ?hN40 rfl ?hp40 (cs := (bytesV (P.snapHead g n t u xs ++ (P.leB 4 c ++ P.leB 4 g))).toArray) ?hx40 H138.out.gt2 (by rw [List.size_toArray, bytesV_length, HFL.out]; kernel_rfl) (by rw [List.size_toArray, List.size_toArray, bytesV_length, bytesV_length, HFL.out]; rfl) (bytesV_one _) ?_
                    case hw40 => rfl
                    case hN40 => rfl
                    case hp40 => rfl
                    case hx40 => rfl
                    intro w140 hb40 hS40
                    have H141 := Aside0.mk (H138.out.wr2 (cs' := (bytesV (P.snapHead g n t u xs ++ (P.leB 4 c ++ P.leB 4 g))).toArray) hb40 hS40)
                    clear hb40 hS40 H138
                    go_wp2
                    refine bodyPost_ret (results_cell_row rfl _ _ g2 98 (bytesV (P.snapHead g n t u xs ++ (P.leB 4 c ++ P.leB 4 g))).toArray (0, 0) _ rfl H141.out.gt2 Try.underlying98 rfl (by rw [List.size_toArray, bytesV_length, HFL.out]; kernel_rfl)) rfl ?_
                    exact ⟨by unfold P.snapCode; rw [← HN.out, ← HC.out], H141.out.below⟩
/-- What EncodeSnap answers. -/
def encS (g t : Int) (xs u : List Int) : List Int := if P.goodSnap g t xs u = true then P.snapCode g t xs u else []
theorem snapOk_of {g t : Int} {xs u : List Int} (h : P.snapSz g t xs u) (hg : P.goodSnap g t xs u = true) : SnapOk g t xs u := by
  obtain ⟨h1, h2, h3, h4, h5, h6⟩ := P.goodSnap_iff.1 hg
  exact ⟨h.1, h.2.1, ⟨h4, h5⟩, ⟨h6, P.goodS_length h6⟩⟩
def impl_EncodeSnap.f (a0_0 : Int) (a0_1 : Int) (l0_2 : List Int) (l0_3 : List Int) : Option (List Int) := if P.snapSz a0_0 a0_1 l0_2 l0_3 then some (encS a0_0 a0_1 l0_2 l0_3) else none
set_option maxHeartbeats 8000000 in
set_option maxRecDepth 100000 in
theorem impl_EncodeSnap.calls (a0_0 : Int) (a0_1 : Int) (A0_2 : Option Addr) (c0_2 : Nat) (l0_2 : List Int) (A0_3 : Option Addr) (c0_3 : Nat) (l0_3 : List Int) (r : List Int) (w : World) (hr0_2 : Kd.C (Kd.int .i64) w A0_2 l0_2.length l0_2) (hc0_2 : l0_2.length ≤ c0_2) (hr0_3 : Kd.C (Kd.int .i64) w A0_3 l0_3.length l0_3) (hc0_3 : l0_3.length ≤ c0_3) (h : impl_EncodeSnap.f a0_0 a0_1 l0_2 l0_3 = some r) :
    Calls Try.prog 27 #[.agg #[.int .u32 a0_0, .int .u32 a0_1, .slice A0_2 l0_2.length c0_2, .slice A0_3 l0_3.length c0_3]] w fun e w' => ∃ v0_ : Value, e = .returned (v0_) ∧ Kd.R (Kd.int .u8) 98 w' w.heap.size (fun _ => True) v0_ r ∧ Below w.heap.size w w' := by
  unfold impl_EncodeSnap.f at h
  by_cases hsz : P.snapSz a0_0 a0_1 l0_2 l0_3
  case neg => rw [if_neg hsz] at h; cases h
  rw [if_pos hsz] at h
  have h := Option.some.inj h
  obtain ⟨kg, hkg⟩ := (P.impl_snap_good a0_0 a0_1 l0_2 l0_3 (Nat.le_trans hsz.2.2.1 (by decide)) (Nat.le_trans hsz.2.2.2 (by decide))).ex
  have HKG := Aside0.mk hkg
  have HSz := Aside0.mk hsz
  have H := Aside0.mk h
  have HR2 := Aside0.mk hr0_2
  have HC2 := Aside0.mk hc0_2
  have HR3 := Aside0.mk hr0_3
  have HC3 := Aside0.mk hc0_3
  have H0 := Aside0.mk (Bx.refl w)
  clear hsz h hkg hr0_2 hc0_2 hr0_3 hc0_3
  go_enter Try.func27, Try.ntmps27
  go_wp2_with (first | ((with_reducible refine gate_dst (N := 1) rfl ?_); refine Aside0.out ?_))
  refine Aside0.mk ?_
  refine mk ?hw42 (N := 1) ?hd42 (cs := #[.int .u32 a0_0, .int .u32 a0_1, .slice A0_2 l0_2.length c0_2, .slice A0_3 l0_3.length c0_3]) (t := 44) ?hr42 ?_
  case hd42 => rfl
  case hw42 => rfl
  case hr42 => first | (go_simp; done) | (go_simp; rfl)
  intro g1 hg1_ w142 hb42 hB42
  have H143 := Aside0.mk (H0.out.new hg1_ hb42 hB42)
  clear hg1_ hb42 hB42 H0
  go_wp2_with (first | ((with_reducible refine gate_dst (N := 4) rfl ?_); refine Aside0.out ?_))
  refine Aside0.mk ?_
  refine ld ?hw44 rfl ?hx44 H143.out.gt0 Try.underlying44 rfl (by kernel_rfl) ?_
  case hw44 => rfl
  case hx44 => rfl
  go_wp2_with (first | ((with_reducible refine gate_callee (f := 67) rfl ?_); refine Aside0.out ?_))
  refine Aside0.mk ?_
  refine goesW (some 5) rfl ?hw45 Try.func67 (by kernel_rfl) rfl #[.agg #[.int .u32 a0_0, .int .u32 a0_1, .slice A0_2 l0_2.length c0_2, .slice A0_3 l0_3.length c0_3]] rfl (by (try simp only [List.map_toArray, List.map_cons, List.map_nil]); first | done | rfl) ?_
  case hw45 => rfl
  refine (impl_Snap_good.calls kg a0_0 a0_1 _ _ l0_2 _ _ l0_3 _ _ (Kd.C_below HR2.out H143.out.below) HC2.out (Kd.C_below HR3.out H143.out.below) HC3.out HKG.out).mono ?_
  rintro e w145 ⟨rfl, hb_⟩
  refine ⟨_, rfl, ?_⟩
  have H146 := Aside0.mk (H143.out.step hb_)
  clear hb_ H143
  cases hk : P.goodSnap a0_0 a0_1 l0_2 l0_3 with
  | false =>
    have h := H.out
    unfold encS at h
    rw [if_neg (by rw [hk]; decide)] at h
    subst h
    clear hk
    go_wp2
    go_ret
    exact ⟨_, rfl, Kd.R_nil _ _ _ _ _, H146.out.below⟩
  | true =>
    have h := H.out
    unfold encS at h
    rw [if_pos hk] at h
    subst h
    have HOk := Aside0.mk (snapOk_of HSz.out hk)
    clear hk H
    go_wp2_with (first | ((with_reducible refine gate_dst (N := 7) rfl ?_); refine Aside0.out ?_))
    refine Aside0.mk ?_
    refine ld ?hw47 rfl ?hx47 H146.out.gt0 Try.underlying44 rfl (by kernel_rfl) ?_
    case hw47 => rfl
    case hx47 => rfl
    go_wp2_with (first | ((with_reducible refine gate_callee (f := 68) rfl ?_); refine Aside0.out ?_))
    refine Aside0.mk ?_
    refine goesW (some 8) rfl ?hw48 Try.func68 (by kernel_rfl) rfl #[.agg #[.int .u32 a0_0, .int .u32 a0_1, .slice A0_2 l0_2.length c0_2, .slice A0_3 l0_3.length c0_3]] rfl (by (try simp only [List.map_toArray, List.map_cons, List.map_nil]); first | done | rfl) ?_
    case hw48 => rfl
    refine (snap_code_calls (Kd.C_below HR2.out H146.out.below) HC2.out (Kd.C_below HR3.out H146.out.below) HC3.out HOk.out).mono ?_
    rintro e w148 ⟨rfl, hb_⟩
    refine ⟨_, rfl, ?_⟩
    have H149 := Aside0.mk (H146.out.step hb_)
    clear hb_ H146
    go_wp2_with (first | ((with_reducible refine gate_dst (N := 3) rfl ?_); refine Aside0.out ?_))
    refine Aside0.mk ?_
    refine mk ?hw50 (N := 3) ?hd50 (cs := (bytesV (List.replicate 128 0)).toArray) (t := 98) ?hr50 ?_
    case hd50 => rfl
    case hw50 => rfl
    case hr50 => first | (go_simp; done) | (go_simp; rfl)
    intro g3 hg3_ w150 hb50 hB50
    have H151 := Aside0.mk (H149.out.new hg3_ hb50 hB50)
    clear hg3_ hb50 hB50 H149
    go_wp2_with (first | ((with_reducible refine gate_store (t := 98) (p := 3) rfl ?_); refine Aside0.out ?_))
    refine Aside0.mk ?_
    refine st_all ?hw52 ?hN52 rfl ?hp52 (cs := (bytesV (P.snapCode a0_0 a0_1 l0_2 l0_3)).toArray) ?hx52 H151.out.gt0 (by rw [List.size_toArray, bytesV_length, P.snapCode_length]; kernel_rfl) (by rw [List.size_toArray, List.size_toArray, bytesV_length, bytesV_length, P.snapCode_length]; rfl) (bytesV_one _) ?_
    case hw52 => rfl
    case hN52 => rfl
    case hp52 => rfl
    case hx52 => rfl
    intro w152 hb52 hS52
    have H153 := Aside0.mk (H151.out.wr0 (cs' := (bytesV (P.snapCode a0_0 a0_1 l0_2 l0_3)).toArray) hb52 hS52)
    clear hb52 hS52 H151
    have HL := Aside0.mk (P.snapCode_length a0_0 a0_1 l0_2 l0_3)
    go_wp2
    go_ret
    have hR_ := R_arr (l := P.snapCode a0_0 a0_1 l0_2 l0_3) H153.out.gt0 (H153.out.at_ _ (List.mem_cons_self ..)).1 (by rw [HL.out]; decide)
    rw [HL.out] at hR_
    exact ⟨_, rfl, hR_, H153.out.below⟩
end Go.Proofs.Ytgfadfahbhcllaa.Q
namespace Go.Proofs.Ytgfadfahbhcllaa.Q
open Go.RowKit Go.Proofs.YtgfadfahbhcllaaW.PrintWords Go.Proofs.YtgfadfahbhcllaaW.PrintLast Go.Proofs.Ytgfadfahbhcllaa.LK Go.Proofs.YtgfadfahbhcllaaW.PrintMore
attribute [local go_sem] max2_int min2_int max_two min_two max_three min_three max_four min_four   -- for this text's walks alone
set_option linter.unusedVariables false
set_option linter.unusedSimpArgs false

/-! ### spec_l6Bits: function 64 -/
mutual
def spec_l6Bits.l0 : Nat → List Int → List Int → Int → Option (List Int)
  | 0, _, _, _ => none
  | k + 1, x0, x3, x4 => if x4 < 32 then (spec_l6Bits.l1 k x0 x3 x4 0 7) else (some x3)
def spec_l6Bits.l1 : Nat → List Int → List Int → Int → Int → Int → Option (List Int)
  | 0, _, _, _, _, _ => none
  | k + 1, x0, x3, x4, x5, x6 => if x6 ≥ 0 then ((spec_l5Holds.f k x0 (wrap64 ((wrap64 (8 * x4)) + x6))).bind fun t104 => (if t104 = true then (spec_l6Bits.l1 k x0 x3 x4 (wrap64 ((wrap64 (2 * x5)) + 1)) (wrap64 (x6 - 1))) else (spec_l6Bits.l1 k x0 x3 x4 (wrap64 (2 * x5)) (wrap64 (x6 - 1))))) else (if x3.length < 140737488355328 then (spec_l6Bits.l0 k x0 (x3 ++ [(x5) % 256]) (wrap64 (x4 + 1))) else (none))
end
def spec_l6Bits.f (k : Nat) (l0 : List Int) : Option (List Int) := spec_l6Bits.l0 k l0 (([] : List Int)) 0
theorem spec_l6Bits.mono_l : ∀ k, (∀ y0 y1 y2, LeO (spec_l6Bits.l0 k y0 y1 y2) (spec_l6Bits.l0 (k + 1) y0 y1 y2)) ∧ (∀ y0 y1 y2 y3 y4, LeO (spec_l6Bits.l1 k y0 y1 y2 y3 y4) (spec_l6Bits.l1 (k + 1) y0 y1 y2 y3 y4))
  | 0 => ⟨fun _ _ _ r h => by simp [spec_l6Bits.l0] at h, fun _ _ _ _ _ r h => by simp [spec_l6Bits.l1] at h⟩
  | k + 1 => by
    obtain ⟨ih0, ih1⟩ := spec_l6Bits.mono_l k
    refine ⟨?_, ?_⟩
    · intro y0 y1 y2
      unfold spec_l6Bits.l0
      repeat' first
      | (with_reducible exact ih0 _ _ _)
      | (with_reducible exact ih1 _ _ _ _ _)
      | (with_reducible exact spec_l5Holds.mono _ _ _)
      | (with_reducible exact LeO.refl _)
      | (with_reducible exact LeO.none _)
      | (with_reducible refine LeO.ite ?_ ?_)
      | (with_reducible refine LeO.bind ?_ (fun _ => ?_))
      | exact ih0 _ _ _
      | exact ih1 _ _ _ _ _
      | exact spec_l5Holds.mono _ _ _
      | exact LeO.none _
      | refine LeO.ite ?_ ?_
      | refine LeO.bind ?_ (fun _ => ?_)
    · intro y0 y1 y2 y3 y4
      unfold spec_l6Bits.l1
      repeat' first
      | (with_reducible exact ih0 _ _ _)
      | (with_reducible exact ih1 _ _ _ _ _)
      | (with_reducible exact spec_l5Holds.mono _ _ _)
      | (with_reducible exact LeO.refl _)
      | (with_reducible exact LeO.none _)
      | (with_reducible refine LeO.ite ?_ ?_)
      | (with_reducible refine LeO.bind ?_ (fun _ => ?_))
      | exact ih0 _ _ _
      | exact ih1 _ _ _ _ _
      | exact spec_l5Holds.mono _ _ _
      | exact LeO.none _
      | refine LeO.ite ?_ ?_
      | refine LeO.bind ?_ (fun _ => ?_)
theorem spec_l6Bits.mono : ∀ a0 k, LeO (spec_l6Bits.f k a0) (spec_l6Bits.f (k + 1) a0) := by
  intro a0 k
  obtain ⟨ih0, ih1⟩ := spec_l6Bits.mono_l k
  unfold spec_l6Bits.f
  repeat' first
      | (with_reducible exact ih0 _ _ _)
      | (with_reducible exact ih1 _ _ _ _ _)
      | (with_reducible exact spec_l5Holds.mono _ _ _)
      | (with_reducible exact LeO.refl _)
      | (with_reducible exact LeO.none _)
      | (with_reducible refine LeO.ite ?_ ?_)
      | (with_reducible refine LeO.bind ?_ (fun _ => ?_))
      | exact ih0 _ _ _
      | exact ih1 _ _ _ _ _
      | exact spec_l5Holds.mono _ _ _
      | exact LeO.none _
      | refine LeO.ite ?_ ?_
      | refine LeO.bind ?_ (fun _ => ?_)
set_option maxHeartbeats 8000000 in
set_option maxRecDepth 100000 in
theorem spec_l6Bits.calls (k : Nat) (A0 : Option Addr) (c0 : Nat) (l0 : List Int) (r : List Int) (w : World) (hr0 : Kd.C (Kd.int .i64) w A0 l0.length l0) (hc0 : l0.length ≤ c0) (h : spec_l6Bits.f k l0 = some r) :
    Calls Try.prog 64 #[.slice A0 l0.length c0] w fun e w' => ∃ v0_ : Value, e = .returned (v0_) ∧ Kd.R (Kd.int .u8) 5 w' w.heap.size (fun _ => True) v0_ r ∧ Below w.heap.size w w' := by
  have HR0 := Aside0.mk hr0
  have HC0 := Aside0.mk hc0
  clear hr0 hc0
  have HB := Aside0.mk (Below.refl w.heap.size w)
  have H : (spec_l6Bits.l0 k l0 (([] : List Int)) 0) = some r := h
  clear h
  obtain ⟨y101, hy101⟩ : ∃ y_ : List Int, y_ = (([] : List Int)) := ⟨_, rfl⟩
  replace H : (spec_l6Bits.l0 k l0 y101 0) = some r := by first | (rw [hy101]; with_reducible exact H) | (have H2_ := (Option.bind_some _ _).symm.trans H; rw [hy101]; with_reducible exact H2_) | (have H2_ := (Option.bind_some _ _).symm.trans H; with_reducible exact H2_) | with_reducible exact H | (rw [hy101]; exact H) | exact H
  have Ny101 := Aside0.mk hy101
  clear hy101
  have H' := Aside0.mk H
  clear H
  go_enter Try.func64, Try.ntmps64
  go_wp2_with (first | ((with_reducible refine gate_dst (N := 7) rfl ?_); refine Kd.R_lit (Kd.int .u8) _ 5 ?hg (N := 7) ?hd (xs := ([] : List Int)) (inner := []) (ok := fun _ => True) (okp := fun _ => True) ?hr ?hp (fun _ hk => hk) trivial (Below.refl _ _) (Nat.le_refl _) (by simp) ?_; (case hd => rfl); (case hg => rfl); (case hr => first | (go_simp; done) | (go_simp; rfl)); (case hp => exact (Reps.none _ _)); intro v102 w2 ho3 hb hg_ hnew_; clear hg_ hnew_; (first | rw [← Ny101.out] at ho3 | (simp only [Int.reduceToNat] at ho3; rw [← Ny101.out] at ho3)); have n0_ := Aside0.mk (Kd.R_lower ho3 (below_size (by repeat (first | (with_reducible first | exact HB.out | apply below_alloc | apply pw_below_drewN | apply below_drew1) | exact HB.out)))); have n1_ := Aside0.mk (below_step (by repeat (first | (with_reducible first | exact HB.out | apply below_alloc | apply pw_below_drewN | apply below_drew1) | exact HB.out)) hb); clear HB; have HO103 := n0_; have HB := n1_; clear n0_ n1_; clear hb ho3))
  go_loopg [3, 4] k (fun kq v3 v4 w' => ∃ (x3_1 : List Int) (x4_1 : Int), v4 = .int .i64 x4_1 ∧ Aside0 (spec_l6Bits.l0 kq l0 x3_1 x4_1 = some r) ∧ Aside0 (kq ≤ k) ∧ Aside0 (Kd.R (Kd.int .u8) 5 w' w.heap.size (fun _ => True) v3 x3_1) ∧ Aside0 (Below w.heap.size w w'))
  case atStart => exact ⟨(y101), (0), (by first | rfl | (simp; done) | (simp [*]; done)), H', ⟨Nat.le_refl _⟩, ⟨by (with_reducible repeat (first | apply Kd.R_alloc | apply Kd.R_drewN | apply Kd.R_drew)); exact HO103.out⟩, ⟨by repeat (first | (with_reducible first | exact HB.out | apply below_alloc | apply pw_below_drewN | apply below_drew1) | exact HB.out)⟩⟩
  case round =>
    clear H'
    try clear p2
    obtain ⟨x3_1, x4_1, rfl, HA, HK1, HO_3, HB⟩ := hrel
    cases gk with
    | zero => exact absurd HA.out (by simp [spec_l6Bits.l0])
    | succ k1 =>
      have H := HA.out
      clear HA
      simp only [spec_l6Bits.l0] at H
      by_cases c4 : x4_1 < 32
      · rw [if_pos c4] at H
        have c4b0 : decide (x4_1 < 32) = true := decide_eq_true c4
        clear c4
        have H' := Aside0.mk H
        clear H
        go_wp2
        go_loopg [5, 6] k1 (fun kq v5 v6 w' => ∃ (x5_2 : Int) (x6_2 : Int), v5 = .int .i64 x5_2 ∧ v6 = .int .i64 x6_2 ∧ Aside0 (spec_l6Bits.l1 kq l0 x3_1 x4_1 x5_2 x6_2 = some r) ∧ Aside0 (kq ≤ k1) ∧ Aside0 (Kd.R (Kd.int .u8) 5 w' w.heap.size (fun _ => True) u3 x3_1) ∧ Aside0 (Below w.heap.size w w'))
        case atStart => exact ⟨(0), (7), (by first | rfl | (simp; done) | (simp [*]; done)), (by first | rfl | (simp; done) | (simp [*]; done)), H', ⟨Nat.le_refl _⟩, ⟨by (with_reducible repeat (first | apply Kd.R_alloc | apply Kd.R_drewN | apply Kd.R_drew)); exact HO_3.out⟩, ⟨by repeat (first | (with_reducible first | exact HB.out | apply below_alloc | apply pw_below_drewN | apply below_drew1) | exact HB.out)⟩⟩
        case round =>
          clear H'
          try clear p2
          try clear c4
          try clear c4b0
          try clear p2
          obtain ⟨x5_2, x6_2, rfl, rfl, HA, HK2, HO_3, HB⟩ := hrel
          cases gk with
          | zero => exact absurd HA.out (by simp [spec_l6Bits.l1])
          | succ k2 =>
            have H := HA.out
            clear HA
            simp only [spec_l6Bits.l1] at H
            by_cases c5 : x6_2 ≥ 0
            · rw [if_pos c5] at H
              have c5b0 : decide (0 ≤ x6_2) = true := decide_eq_true c5
              clear c5
              replace H := Option.bind_eq_some_iff.mp H
              obtain ⟨t104, A60, H⟩ := H
              replace H : (if t104 = true then (spec_l6Bits.l1 k2 l0 x3_1 x4_1 (wrap64 ((wrap64 (2 * x5_2)) + 1)) (wrap64 (x6_2 - 1))) else (spec_l6Bits.l1 k2 l0 x3_1 x4_1 (wrap64 (2 * x5_2)) (wrap64 (x6_2 - 1)))) = some r := H
              have A6 := Aside0.mk A60
              clear A60
              by_cases c7 : t104 = true
              · subst c7
                have H1 : (spec_l6Bits.l1 k2 l0 x3_1 x4_1 (wrap64 ((wrap64 (2 * x5_2)) + 1)) (wrap64 (x6_2 - 1))) = some r := by rw [if_pos rfl] at H; exact H
                clear H
                have H := H1
                clear H1
                have H' := Aside0.mk H
                clear H
                go_wp2_with (first | ((with_reducible refine gate_callee (f := 78) rfl ?_); refine goesL_ (some 23) rfl rfl Try.func78 (by kernel_rfl) rfl #[.slice A0 l0.length c0, .int .i64 (wrap64 ((wrap64 (8 * x4_1)) + x6_2))] rfl (by (try simp only [List.map_toArray, List.map_cons, List.map_nil]); first | done | rfl | (simp only [List.length_drop, List.length_take]; rfl)) ?_; (with_reducible refine (spec_l5Holds.calls k2 _ _ l0 (wrap64 ((wrap64 (8 * x4_1)) + x6_2)) true _ ?side1 ?side2 A6.out).mono ?_); (case side1 => repeat (first | exact (Kd.C_below HR0.out HB.out) | (with_reducible refine Kd.C_alloc ?_ _) | (with_reducible refine Kd.C_drewN ?_ _) | (with_reducible refine Kd.C_drew ?_))); (case side2 => exact HC0.out); rintro e w' ⟨rfl, ⟨nd, rfl⟩⟩; refine ⟨_, rfl, ?_⟩))
                go_roundg k2
                case measure => have := HK1.out; have := HK2.out; omega
                case rel => exact ⟨(wrap64 ((wrap64 (2 * x5_2)) + 1)), (wrap64 (x6_2 - 1)), (by first | rfl | (simp; done) | (simp [*]; done)), (by first | rfl | (simp; done) | (simp [*]; done)), H', ⟨by have := HK1.out; have := HK2.out; omega⟩, ⟨by (with_reducible repeat (first | apply Kd.R_alloc | apply Kd.R_drewN | apply Kd.R_drew)); exact HO_3.out⟩, ⟨by repeat (first | (with_reducible first | exact HB.out | apply below_alloc | apply pw_below_drewN | apply below_drew1) | exact HB.out)⟩⟩
              · replace c7 := Bool.eq_false_iff.mpr c7
                subst c7
                have H1 : (spec_l6Bits.l1 k2 l0 x3_1 x4_1 (wrap64 (2 * x5_2)) (wrap64 (x6_2 - 1))) = some r := by rw [if_neg (show ¬ (false = true) by decide)] at H; exact H
                clear H
                have H := H1
                clear H1
                have H' := Aside0.mk H
                clear H
                go_wp2_with (first | ((with_reducible refine gate_callee (f := 78) rfl ?_); refine goesL_ (some 23) rfl rfl Try.func78 (by kernel_rfl) rfl #[.slice A0 l0.length c0, .int .i64 (wrap64 ((wrap64 (8 * x4_1)) + x6_2))] rfl (by (try simp only [List.map_toArray, List.map_cons, List.map_nil]); first | done | rfl | (simp only [List.length_drop, List.length_take]; rfl)) ?_; (with_reducible refine (spec_l5Holds.calls k2 _ _ l0 (wrap64 ((wrap64 (8 * x4_1)) + x6_2)) false _ ?side1 ?side2 A6.out).mono ?_); (case side1 => repeat (first | exact (Kd.C_below HR0.out HB.out) | (with_reducible refine Kd.C_alloc ?_ _) | (with_reducible refine Kd.C_drewN ?_ _) | (with_reducible refine Kd.C_drew ?_))); (case side2 => exact HC0.out); rintro e w' ⟨rfl, ⟨nd, rfl⟩⟩; refine ⟨_, rfl, ?_⟩))
                go_roundg k2
                case measure => have := HK1.out; have := HK2.out; omega
                case rel => exact ⟨(wrap64 (2 * x5_2)), (wrap64 (x6_2 - 1)), (by first | rfl | (simp; done) | (simp [*]; done)), (by first | rfl | (simp; done) | (simp [*]; done)), H', ⟨by have := HK1.out; have := HK2.out; omega⟩, ⟨by (with_reducible repeat (first | apply Kd.R_alloc | apply Kd.R_drewN | apply Kd.R_drew)); exact HO_3.out⟩, ⟨by repeat (first | (with_reducible first | exact HB.out | apply below_alloc | apply pw_below_drewN | apply below_drew1) | exact HB.out)⟩⟩
            · rw [if_neg c5] at H
              have c5b0 : decide (0 ≤ x6_2) = false := decide_eq_false c5
              clear c5
              by_cases c8 : x3_1.length < 140737488355328
              · rw [if_pos c8] at H
                have LMc8 := Aside0.mk c8
                clear c8
                obtain ⟨y105, hy105⟩ : ∃ y_ : List Int, y_ = (x3_1 ++ [(x5_2) % 256]) := ⟨_, rfl⟩
                replace H : (spec_l6Bits.l0 k2 l0 y105 (wrap64 (x4_1 + 1))) = some r := by first | (rw [hy105]; with_reducible exact H) | (have H2_ := (Option.bind_some _ _).symm.trans H; rw [hy105]; with_reducible exact H2_) | (have H2_ := (Option.bind_some _ _).symm.trans H; with_reducible exact H2_) | with_reducible exact H | (rw [hy105]; exact H) | exact H
                have Ny105 := Aside0.mk hy105
                clear hy105
                have H' := Aside0.mk H
                clear H
                go_wp2_with (first | ((with_reducible refine gate_builtin (b := .append) (xs := #[.tmp 26, .tmp 29]) rfl ?_); at_builtin; refine Kd.R_append (Kd.int .u8) (w0 := w) w.heap.size rfl (.tmp 26) (.tmp 29) 25 5 (.int .u8 0) 1 rfl Try.underlying25 info5 rfl (by decide) (by omega) u3 x3_1 ((x5_2) % 256) [.int .u8 ((x5_2) % 256)] (fun _ => True) (fun _ => False) rfl rfl ?aP (fun _ hk => hk.elim) ?aF ?aO ?aB ?aS ?aL ?_; (case aP => exact rfl); (case aB => exact (by repeat (first | (with_reducible first | exact HB.out | apply below_alloc | apply pw_below_drewN | apply below_drew1) | exact HB.out))); (case aF => exact (fun _ _ => trivial)); (case aO => exact (by (with_reducible repeat (first | apply Kd.R_alloc | apply Kd.R_drewN | apply Kd.R_drew)); exact HO_3.out)); (case aS => exact (below_size (by repeat (first | (with_reducible first | exact HB.out | apply below_alloc | apply pw_below_drewN | apply below_drew1) | exact HB.out)))); (case aL => have := LMc8.out; omega); intro v106 w9 ho hb hg hat; rw [← Ny105.out] at ho; have n0_ := Aside0.mk (hb); have n1_ := Aside0.mk (ho); clear HB; clear HO_3; have HB := n0_; have HO107 := n1_; clear n0_ n1_; clear ho hb hg hat))
                go_roundg k2
                case measure => have := HK1.out; have := HK2.out; omega
                case rel => exact ⟨(y105), (wrap64 (x4_1 + 1)), (by first | rfl | (simp; done) | (simp [*]; done)), H', ⟨by have := HK1.out; have := HK2.out; omega⟩, ⟨by (with_reducible repeat (first | apply Kd.R_alloc | apply Kd.R_drewN | apply Kd.R_drew)); exact HO107.out⟩, ⟨by repeat (first | (with_reducible first | exact HB.out | apply below_alloc | apply pw_below_drewN | apply below_drew1) | exact HB.out)⟩⟩
              · rw [if_neg c8] at H
                exact absurd H (by simp)
      · rw [if_neg c4] at H
        have c4b0 : decide (x4_1 < 32) = false := decide_eq_false c4
        clear c4
        obtain rfl := Option.some.inj H
        go_wp2
        go_ret
        exact ⟨_, by first | rfl | (simp [errW_none, errW_some] <;> rfl) | (simp [*, errW_none, errW_some] <;> rfl), by (with_reducible repeat (first | apply Kd.R_alloc | apply Kd.R_drewN | apply Kd.R_drew)); exact HO_3.out, by repeat (first | (with_reducible first | exact HB.out | apply below_alloc | apply pw_below_drewN | apply below_drew1) | exact HB.out)⟩

end Go.Proofs.Ytgfadfahbhcllaa.Q
namespace Go.Proofs.Ytgfadfahbhcllaa.Q
open Go.RowKit Go.Proofs.YtgfadfahbhcllaaW.PrintWords Go.Proofs.YtgfadfahbhcllaaW.PrintLast Go.Proofs.Ytgfadfahbhcllaa.LK Go.Proofs.YtgfadfahbhcllaaW.PrintMore
attribute [local go_sem] max2_int min2_int max_two min_two max_three min_three max_four min_four   -- for this text's walks alone
set_option linter.unusedVariables false
set_option linter.unusedSimpArgs false

/-! ### spec_l6Two: function 93 -/
def spec_l6Two.f (a0 : Int) : Option (List Int) := some (([(Int.tmod a0 256) % 256, (wrap64 (Int.tdiv a0 256)) % 256] : List Int))
set_option maxHeartbeats 8000000 in
set_option maxRecDepth 100000 in
theorem spec_l6Two.calls (a0 : Int) (r : List Int) (w : World) (h : spec_l6Two.f a0 = some r) :
    Calls Try.prog 93 #[.int .i64 a0] w fun e w' => ∃ v0_ : Value, e = .returned (v0_) ∧ Kd.R (Kd.int .u8) 5 w' w.heap.size (fun _ => True) v0_ r ∧ Below w.heap.size w w' := by
  have HB := Aside0.mk (Below.refl w.heap.size w)
  have H : (some (([(Int.tmod a0 256) % 256, (wrap64 (Int.tdiv a0 256)) % 256] : List Int))) = some r := h
  clear h
  obtain ⟨y101, hy101⟩ : ∃ y_ : List Int, y_ = (([(Int.tmod a0 256) % 256, (wrap64 (Int.tdiv a0 256)) % 256] : List Int)) := ⟨_, rfl⟩
  replace H : (some y101) = some r := by first | (rw [hy101]; with_reducible exact H) | (have H2_ := (Option.bind_some _ _).symm.trans H; rw [hy101]; with_reducible exact H2_) | (have H2_ := (Option.bind_some _ _).symm.trans H; with_reducible exact H2_) | with_reducible exact H | (rw [hy101]; exact H) | exact H
  have Ny101 := Aside0.mk hy101
  clear hy101
  obtain rfl := Option.some.inj H
  go_enter Try.func93, Try.ntmps93
  go_wp2_with (first | ((with_reducible refine gate_dst (N := 9) rfl ?_); refine Kd.R_lit (Kd.int .u8) _ 5 ?hg (N := 9) ?hd (xs := ([(Int.tmod a0 256) % 256, (wrap64 (Int.tdiv a0 256)) % 256] : List Int)) (inner := [.int .u8 ((Int.tmod a0 256) % 256), .int .u8 ((wrap64 (Int.tdiv a0 256)) % 256)]) (ok := fun _ => True) (okp := fun _ => True) ?hr ?hp (fun _ hk => hk) trivial (Below.refl _ _) (Nat.le_refl _) (by simp) ?_; (case hd => rfl); (case hg => rfl); (case hr => first | (go_simp; done) | (go_simp; rfl)); (case hp => exact (Reps.one (show Kd.M (Kd.int .u8) _ _ _ ((Int.tmod a0 256) % 256) [.int .u8 ((Int.tmod a0 256) % 256)] from rfl) (Reps.one (show Kd.M (Kd.int .u8) _ _ _ ((wrap64 (Int.tdiv a0 256)) % 256) [.int .u8 ((wrap64 (Int.tdiv a0 256)) % 256)] from rfl) (Reps.none _ _)))); intro v102 w2 ho3 hb hg_ hnew_; clear hg_ hnew_; (first | rw [← Ny101.out] at ho3 | (simp only [Int.reduceToNat] at ho3; rw [← Ny101.out] at ho3)); have n0_ := Aside0.mk (Kd.R_lower ho3 (below_size (by repeat (first | (with_reducible first | exact HB.out | apply below_alloc | apply pw_below_drewN | apply below_drew1) | exact HB.out)))); have n1_ := Aside0.mk (below_step (by repeat (first | (with_reducible first | exact HB.out | apply below_alloc | apply pw_below_drewN | apply below_drew1) | exact HB.out)) hb); clear HB; have HO103 := n0_; have HB := n1_; clear n0_ n1_; clear hb ho3))
  go_ret
  exact ⟨_, by first | rfl | (simp [errW_none, errW_some] <;> rfl) | (simp [*, errW_none, errW_some] <;> rfl), by (with_reducible repeat (first | apply Kd.R_alloc | apply Kd.R_drewN | apply Kd.R_drew)); exact HO103.out, by repeat (first | (with_reducible first | exact HB.out | apply below_alloc | apply pw_below_drewN | apply below_drew1) | exact HB.out)⟩

end Go.Proofs.Ytgfadfahbhcllaa.Q
namespace Go.Proofs.Ytgfadfahbhcllaa.Q
open Go.RowKit Go.Proofs.YtgfadfahbhcllaaW.PrintWords Go.Proofs.YtgfadfahbhcllaaW.PrintLast Go.Proofs.Ytgfadfahbhcllaa.LK Go.Proofs.YtgfadfahbhcllaaW.PrintMore
attribute [local go_sem] max2_int min2_int max_two min_two max_three min_three max_four min_four   -- for this text's walks alone
set_option linter.unusedVariables false
set_option linter.unusedSimpArgs false

/-! ### spec_l6Denied: function 65 -/
def spec_l6Denied.l0 : Nat → List Int → Int → List Int → Int → Option (List Int)
  | 0, _, _, _, _ => none
  | k + 1, x0, x2, x7, x8 => if x8 < x2 then (if x8 < (x0.length : Int) then (if 0 ≤ x8 then ((spec_l6Two.f (rd x0 x8)).bind fun t105 => (if x7.length + t105.length < 140737488355328 then (spec_l6Denied.l0 k x0 x2 (x7 ++ t105) (wrap64 (x8 + 1))) else (none))) else (none)) else ((some (([0, 0] : List Int) : List Int)).bind fun y111 => (if x7.length + y111.length < 140737488355328 then (spec_l6Denied.l0 k x0 x2 (x7 ++ y111) (wrap64 (x8 + 1))) else (none)))) else (some x7)
def spec_l6Denied.f (k : Nat) (l0 : List Int) (a1 : Int) (a2 : Int) : Option (List Int) := spec_l6Denied.l0 k l0 a2 (([] : List Int)) a1
theorem spec_l6Denied.mono_l : ∀ k, (∀ y0 y1 y2 y3, LeO (spec_l6Denied.l0 k y0 y1 y2 y3) (spec_l6Denied.l0 (k + 1) y0 y1 y2 y3))
  | 0 => fun _ _ _ _ r h => by simp [spec_l6Denied.l0] at h
  | k + 1 => by
    have ih0 := spec_l6Denied.mono_l k
    · intro y0 y1 y2 y3
      unfold spec_l6Denied.l0
      repeat' first
      | (with_reducible exact ih0 _ _ _ _)
      | (with_reducible exact LeO.refl _)
      | (with_reducible exact LeO.none _)
      | (with_reducible refine LeO.ite ?_ ?_)
      | (with_reducible refine LeO.bind ?_ (fun _ => ?_))
      | exact ih0 _ _ _ _
      | exact LeO.none _
      | refine LeO.ite ?_ ?_
      | refine LeO.bind ?_ (fun _ => ?_)
theorem spec_l6Denied.mono : ∀ a0 a1 a2 k, LeO (spec_l6Denied.f k a0 a1 a2) (spec_l6Denied.f (k + 1) a0 a1 a2) := by
  intro a0 a1 a2 k
  have ih0 := spec_l6Denied.mono_l k
  unfold spec_l6Denied.f
  repeat' first
      | (with_reducible exact ih0 _ _ _ _)
      | (with_reducible exact LeO.refl _)
      | (with_reducible exact LeO.none _)
      | (with_reducible refine LeO.ite ?_ ?_)
      | (with_reducible refine LeO.bind ?_ (fun _ => ?_))
      | exact ih0 _ _ _ _
      | exact LeO.none _
      | refine LeO.ite ?_ ?_
      | refine LeO.bind ?_ (fun _ => ?_)
set_option maxHeartbeats 8000000 in
set_option maxRecDepth 100000 in
theorem spec_l6Denied.calls (k : Nat) (A0 : Option Addr) (c0 : Nat) (l0 : List Int) (a1 : Int) (a2 : Int) (r : List Int) (w : World) (hr0 : Kd.C (Kd.int .i64) w A0 l0.length l0) (hc0 : l0.length ≤ c0) (h : spec_l6Denied.f k l0 a1 a2 = some r) :
    Calls Try.prog 65 #[.slice A0 l0.length c0, .int .i64 a1, .int .i64 a2] w fun e w' => ∃ v0_ : Value, e = .returned (v0_) ∧ Kd.R (Kd.int .u8) 5 w' w.heap.size (fun _ => True) v0_ r ∧ Below w.heap.size w w' := by
  have HR0 := Aside0.mk hr0
  have HC0 := Aside0.mk hc0
  clear hr0 hc0
  have HB := Aside0.mk (Below.refl w.heap.size w)
  have H : (spec_l6Denied.l0 k l0 a2 (([] : List Int)) a1) = some r := h
  clear h
  obtain ⟨y101, hy101⟩ : ∃ y_ : List Int, y_ = (([] : List Int)) := ⟨_, rfl⟩
  replace H : (spec_l6Denied.l0 k l0 a2 y101 a1) = some r := by first | (rw [hy101]; with_reducible exact H) | (have H2_ := (Option.bind_some _ _).symm.trans H; rw [hy101]; with_reducible exact H2_) | (have H2_ := (Option.bind_some _ _).symm.trans H; with_reducible exact H2_) | with_reducible exact H | (rw [hy101]; exact H) | exact H
  have Ny101 := Aside0.mk hy101
  clear hy101
  have H' := Aside0.mk H
  clear H
  go_enter Try.func65, Try.ntmps65
  go_wp2_with (first | ((with_reducible refine gate_dst (N := 9) rfl ?_); refine Kd.R_lit (Kd.int .u8) _ 5 ?hg (N := 9) ?hd (xs := ([] : List Int)) (inner := []) (ok := fun _ => True) (okp := fun _ => True) ?hr ?hp (fun _ hk => hk) trivial (Below.refl _ _) (Nat.le_refl _) (by simp) ?_; (case hd => rfl); (case hg => rfl); (case hr => first | (go_simp; done) | (go_simp; rfl)); (case hp => exact (Reps.none _ _)); intro v102 w4 ho5 hb hg_ hnew_; clear hg_ hnew_; (first | rw [← Ny101.out] at ho5 | (simp only [Int.reduceToNat] at ho5; rw [← Ny101.out] at ho5)); have n0_ := Aside0.mk (Kd.R_lower ho5 (below_size (by repeat (first | (with_reducible first | exact HB.out | apply below_alloc | apply pw_below_drewN | apply below_drew1) | exact HB.out)))); have n1_ := Aside0.mk (below_step (by repeat (first | (with_reducible first | exact HB.out | apply below_alloc | apply pw_below_drewN | apply below_drew1) | exact HB.out)) hb); clear HB; have HO103 := n0_; have HB := n1_; clear n0_ n1_; clear hb ho5))
  go_loopg [7, 8] k (fun kq v7 v8 w' => ∃ (x7_1 : List Int) (x8_1 : Int), v8 = .int .i64 x8_1 ∧ Aside0 (spec_l6Denied.l0 kq l0 a2 x7_1 x8_1 = some r) ∧ Aside0 (kq ≤ k) ∧ Aside0 (Kd.R (Kd.int .u8) 5 w' w.heap.size (fun _ => True) v7 x7_1) ∧ Aside0 (Below w.heap.size w w'))
  case atStart => exact ⟨(y101), (a1), (by first | rfl | (simp; done) | (simp [*]; done)), H', ⟨Nat.le_refl _⟩, ⟨by (with_reducible repeat (first | apply Kd.R_alloc | apply Kd.R_drewN | apply Kd.R_drew)); exact HO103.out⟩, ⟨by repeat (first | (with_reducible first | exact HB.out | apply below_alloc | apply pw_below_drewN | apply below_drew1) | exact HB.out)⟩⟩
  case round =>
    clear H'
    try clear p2
    obtain ⟨x7_1, x8_1, rfl, HA, HK1, HO_7, HB⟩ := hrel
    cases gk with
    | zero => exact absurd HA.out (by simp [spec_l6Denied.l0])
    | succ k1 =>
      have H := HA.out
      clear HA
      simp only [spec_l6Denied.l0] at H
      by_cases c6 : x8_1 < a2
      · rw [if_pos c6] at H
        have c6b0 : decide (x8_1 < a2) = true := decide_eq_true c6
        clear c6
        by_cases c7 : x8_1 < (l0.length : Int)
        · rw [if_pos c7] at H
          have c7b0 : decide (x8_1 < (l0.length : Int)) = true := decide_eq_true c7
          clear c7
          by_cases c8 : 0 ≤ x8_1
          · rw [if_pos c8] at H
            have c8b0 : decide (0 ≤ x8_1) = true := decide_eq_true c8
            clear c8
            replace H := Option.bind_eq_some_iff.mp H
            obtain ⟨t105, A90, H⟩ := H
            replace H : (if x7_1.length + t105.length < 140737488355328 then (spec_l6Denied.l0 k1 l0 a2 (x7_1 ++ t105) (wrap64 (x8_1 + 1))) else (none)) = some r := H
            have A9 := Aside0.mk A90
            clear A90
            by_cases c10 : x7_1.length + t105.length < 140737488355328
            · rw [if_pos c10] at H
              have LMc10 := Aside0.mk c10
              clear c10
              obtain ⟨y108, hy108⟩ : ∃ y_ : List Int, y_ = (x7_1 ++ t105) := ⟨_, rfl⟩
              replace H : (spec_l6Denied.l0 k1 l0 a2 y108 (wrap64 (x8_1 + 1))) = some r := by first | (rw [hy108]; with_reducible exact H) | (have H2_ := (Option.bind_some _ _).symm.trans H; rw [hy108]; with_reducible exact H2_) | (have H2_ := (Option.bind_some _ _).symm.trans H; with_reducible exact H2_) | with_reducible exact H | (rw [hy108]; exact H) | exact H
              have Ny108 := Aside0.mk hy108
              clear hy108
              have H' := Aside0.mk H
              clear H
              have p104 : 0 ≤ (x8_1 : Int) := of_decide_eq_true (by first | (with_reducible assumption) | assumption)
              have q104 : x8_1 < (l0.length : Int) := of_decide_eq_true (by first | (with_reducible assumption) | assumption)
              obtain ⟨ad104, e104, hx104_0⟩ := Kd.at_int HR0.out x8_1 p104 q104
              cases e104
              replace hx104_0 := (HB.out.cell (World.block_lt_of_cell? w _ hx104_0)).trans hx104_0
              replace p104 := eq_true p104
              replace q104 := eq_true q104
              go_wp2_with (first | ((with_reducible refine gate_callee (f := 93) rfl ?_); refine goesL_ (some 25) rfl rfl Try.func93 (by kernel_rfl) rfl #[.int .i64 (rd l0 x8_1)] rfl (by (try simp only [List.map_toArray, List.map_cons, List.map_nil]); first | done | rfl | (simp only [List.length_drop, List.length_take]; rfl)) ?_; (with_reducible refine (spec_l6Two.calls (rd l0 x8_1) t105 _ A9.out).mono ?_); rintro e w11 ⟨v106, rfl, ho0, hb⟩; refine ⟨_, rfl, ?_⟩; have n0_ := Aside0.mk (Kd.R_elder' (by (with_reducible repeat (first | apply Kd.R_alloc | apply Kd.R_drewN | apply Kd.R_drew)); exact HO_7.out) (Kd.R_base ho0) hb); have n1_ := Aside0.mk (Kd.R_lower (Kd.R_new' ho0 (Kd.R_lt (by (with_reducible repeat (first | apply Kd.R_alloc | apply Kd.R_drewN | apply Kd.R_drew)); exact HO_7.out))) (below_size (by repeat (first | (with_reducible first | exact HB.out | apply below_alloc | apply pw_below_drewN | apply below_drew1) | exact HB.out)))); have n2_ := Aside0.mk (below_step (by repeat (first | (with_reducible first | exact HB.out | apply below_alloc | apply pw_below_drewN | apply below_drew1) | exact HB.out)) hb); clear HO_7; clear HB; have HO_7 := n0_; have HO107 := n1_; have HB := n2_; clear n0_ n1_ n2_; (try clear hb); (try clear hb2); (try clear hk); (try clear hi); (try clear ho0); obtain ⟨Ao13, co13, eo13⟩ := Kd.R_slice HO107.out; subst eo13) | ((with_reducible refine gate_builtin (b := .append) (xs := #[.tmp 20, .tmp 25]) rfl ?_); at_builtin; refine Kd.R_append_rows (Kd.int .u8) (w0 := w) w.heap.size rfl (.tmp 20) (.tmp 25) 25 5 (.int .u8 0) 1 rfl Try.underlying25 info5 rfl (by decide) (by omega) u7 x7_1 t105 _ _ _ (fun k_ => some k_ ≠ (.slice Ao13 t105.length co13 : Value).ownBlock) (fun _ => False) rfl rfl ?aO ?aR (fun _ _ h => h) (fun _ h => h.elim) ?aF ?aB ?aS ?aL ?_; (case aR => repeat (first | exact (Kd.R_reads' HO107.out).2.2 | (with_reducible refine Kd.C_alloc ?_ _) | (with_reducible refine Kd.C_drewN ?_ _) | (with_reducible refine Kd.C_drew ?_))); (case aB => exact (by repeat (first | (with_reducible first | exact HB.out | apply below_alloc | apply pw_below_drewN | apply below_drew1) | exact HB.out))); (case aF => exact (fun k_ hk => Kd.fresh' (Kd.R_lt (by (with_reducible repeat (first | apply Kd.R_alloc | apply Kd.R_drewN | apply Kd.R_drew)); exact HO107.out)) k_ hk)); (case aO => exact (by (with_reducible repeat (first | apply Kd.R_alloc | apply Kd.R_drewN | apply Kd.R_drew)); exact Kd.R_mono HO_7.out (fun _ hk => hk.2))); (case aS => exact (below_size (by repeat (first | (with_reducible first | exact HB.out | apply below_alloc | apply pw_below_drewN | apply below_drew1) | exact HB.out)))); (case aL => have := LMc10.out; omega); intro v109 w12 ho hb hg hat; rw [← Ny108.out] at ho; have n0_ := Aside0.mk (Kd.R_after (ok := (fun _ => True)) (by (with_reducible repeat (first | apply Kd.R_alloc | apply Kd.R_drewN | apply Kd.R_drew)); exact HO107.out) hg hat); have n1_ := Aside0.mk (hb); have n2_ := Aside0.mk (ho); clear HO107; clear HB; clear HO_7; have HO107 := n0_; have HB := n1_; have HO110 := n2_; clear n0_ n1_ n2_; clear ho hb hg hat))
              go_roundg k1
              case measure => have := HK1.out; omega
              case rel => exact ⟨(y108), (wrap64 (x8_1 + 1)), (by first | rfl | (simp; done) | (simp [*]; done)), H', ⟨by have := HK1.out; omega⟩, ⟨by (with_reducible repeat (first | apply Kd.R_alloc | apply Kd.R_drewN | apply Kd.R_drew)); exact Kd.R_mono HO110.out (fun _ hk => trivial)⟩, ⟨by repeat (first | (with_reducible first | exact HB.out | apply below_alloc | apply pw_below_drewN | apply below_drew1) | exact HB.out)⟩⟩
            · rw [if_neg c10] at H
              exact absurd H (by simp)
          · rw [if_neg c8] at H
            exact absurd H (by simp)
        · rw [if_neg c7] at H
          have c7b0 : decide (x8_1 < (l0.length : Int)) = false := decide_eq_false c7
          clear c7
          obtain ⟨y111, hy111⟩ : ∃ y_ : List Int, y_ = (([0, 0] : List Int)) := ⟨_, rfl⟩
          replace H : (if x7_1.length + y111.length < 140737488355328 then (spec_l6Denied.l0 k1 l0 a2 (x7_1 ++ y111) (wrap64 (x8_1 + 1))) else (none)) = some r := by first | (rw [hy111]; with_reducible exact H) | (have H2_ := (Option.bind_some _ _).symm.trans H; rw [hy111]; with_reducible exact H2_) | (have H2_ := (Option.bind_some _ _).symm.trans H; with_reducible exact H2_) | with_reducible exact H | (rw [hy111]; exact H) | exact H
          have Ny111 := Aside0.mk hy111
          clear hy111
          by_cases c14 : x7_1.length + y111.length < 140737488355328
          · rw [if_pos c14] at H
            have LMc14 := Aside0.mk c14
            clear c14
            obtain ⟨y114, hy114⟩ : ∃ y_ : List Int, y_ = (x7_1 ++ y111) := ⟨_, rfl⟩
            replace H : (spec_l6Denied.l0 k1 l0 a2 y114 (wrap64 (x8_1 + 1))) = some r := by first | (rw [hy114]; with_reducible exact H) | (have H2_ := (Option.bind_some _ _).symm.trans H; rw [hy114]; with_reducible exact H2_) | (have H2_ := (Option.bind_some _ _).symm.trans H; with_reducible exact H2_) | with_reducible exact H | (rw [hy114]; exact H) | exact H
            have Ny114 := Aside0.mk hy114
            clear hy114
            have H' := Aside0.mk H
            clear H
            go_wp2_with (first | ((with_reducible refine gate_dst (N := 28) rfl ?_); refine Kd.R_lit (Kd.int .u8) _ 5 ?hg (N := 28) ?hd (xs := ([0, 0] : List Int)) (inner := [.int .u8 0, .int .u8 0]) (ok := fun _ => True) (okp := fun _ => True) ?hr ?hp (fun _ hk => hk) trivial (Below.refl _ _) (Nat.le_refl _) (by simp) ?_; (case hd => rfl); (case hg => rfl); (case hr => first | (go_simp; done) | (go_simp; rfl)); (case hp => exact (Reps.one (show Kd.M (Kd.int .u8) _ _ _ 0 [.int .u8 0] from rfl) (Reps.one (show Kd.M (Kd.int .u8) _ _ _ 0 [.int .u8 0] from rfl) (Reps.none _ _)))); intro v112 w15 ho16 hb hg_ hnew_; clear hg_ hnew_; (first | rw [← Ny111.out] at ho16 | (simp only [Int.reduceToNat] at ho16; rw [← Ny111.out] at ho16)); have n0_ := Aside0.mk (Kd.R_elder' (by (with_reducible repeat (first | apply Kd.R_alloc | apply Kd.R_drewN | apply Kd.R_drew)); exact HO_7.out) (Kd.R_base ho16) hb); have n1_ := Aside0.mk (Kd.R_lower (Kd.R_new' ho16 (Kd.R_lt (by (with_reducible repeat (first | apply Kd.R_alloc | apply Kd.R_drewN | apply Kd.R_drew)); exact HO_7.out))) (below_size (by repeat (first | (with_reducible first | exact HB.out | apply below_alloc | apply pw_below_drewN | apply below_drew1) | exact HB.out)))); have n2_ := Aside0.mk (below_step (by repeat (first | (with_reducible first | exact HB.out | apply below_alloc | apply pw_below_drewN | apply below_drew1) | exact HB.out)) hb); clear HO_7; clear HB; have HO_7 := n0_; have HO113 := n1_; have HB := n2_; clear n0_ n1_ n2_; clear hb ho16; obtain ⟨Ao18, co18, eo18⟩ := Kd.R_slice HO113.out; subst eo18) | ((with_reducible refine gate_builtin (b := .append) (xs := #[.tmp 27, .tmp 28]) rfl ?_); at_builtin; refine Kd.R_append_rows (Kd.int .u8) (w0 := w) w.heap.size rfl (.tmp 27) (.tmp 28) 25 5 (.int .u8 0) 1 rfl Try.underlying25 info5 rfl (by decide) (by omega) u7 x7_1 y111 _ _ _ (fun k_ => some k_ ≠ (.slice Ao18 y111.length co18 : Value).ownBlock) (fun _ => False) rfl rfl ?aO ?aR (fun _ _ h => h) (fun _ h => h.elim) ?aF ?aB ?aS ?aL ?_; (case aR => repeat (first | exact (Kd.R_reads' HO113.out).2.2 | (with_reducible refine Kd.C_alloc ?_ _) | (with_reducible refine Kd.C_drewN ?_ _) | (with_reducible refine Kd.C_drew ?_))); (case aB => exact (by repeat (first | (with_reducible first | exact HB.out | apply below_alloc | apply pw_below_drewN | apply below_drew1) | exact HB.out))); (case aF => exact (fun k_ hk => Kd.fresh' (Kd.R_lt (by (with_reducible repeat (first | apply Kd.R_alloc | apply Kd.R_drewN | apply Kd.R_drew)); exact HO113.out)) k_ hk)); (case aO => exact (by (with_reducible repeat (first | apply Kd.R_alloc | apply Kd.R_drewN | apply Kd.R_drew)); exact Kd.R_mono HO_7.out (fun _ hk => hk.2))); (case aS => exact (below_size (by repeat (first | (with_reducible first | exact HB.out | apply below_alloc | apply pw_below_drewN | apply below_drew1) | exact HB.out)))); (case aL => have := LMc14.out; omega); intro v115 w17 ho hb hg hat; rw [← Ny114.out] at ho; have n0_ := Aside0.mk (Kd.R_after (ok := (fun _ => True)) (by (with_reducible repeat (first | apply Kd.R_alloc | apply Kd.R_drewN | apply Kd.R_drew)); exact HO113.out) hg hat); have n1_ := Aside0.mk (hb); have n2_ := Aside0.mk (ho); clear HO113; clear HB; clear HO_7; have HO113 := n0_; have HB := n1_; have HO116 := n2_; clear n0_ n1_ n2_; clear ho hb hg hat))
            go_roundg k1
            case measure => have := HK1.out; omega
            case rel => exact ⟨(y114), (wrap64 (x8_1 + 1)), (by first | rfl | (simp; done) | (simp [*]; done)), H', ⟨by have := HK1.out; omega⟩, ⟨by (with_reducible repeat (first | apply Kd.R_alloc | apply Kd.R_drewN | apply Kd.R_drew)); exact Kd.R_mono HO116.out (fun _ hk => trivial)⟩, ⟨by repeat (first | (with_reducible first | exact HB.out | apply below_alloc | apply pw_below_drewN | apply below_drew1) | exact HB.out)⟩⟩
          · rw [if_neg c14] at H
            exact absurd H (by simp)
      · rw [if_neg c6] at H
        have c6b0 : decide (x8_1 < a2) = false := decide_eq_false c6
        clear c6
        obtain rfl := Option.some.inj H
        go_wp2
        go_ret
        exact ⟨_, by first | rfl | (simp [errW_none, errW_some] <;> rfl) | (simp [*, errW_none, errW_some] <;> rfl), by (with_reducible repeat (first | apply Kd.R_alloc | apply Kd.R_drewN | apply Kd.R_drew)); exact HO_7.out, by repeat (first | (with_reducible first | exact HB.out | apply below_alloc | apply pw_below_drewN | apply below_drew1) | exact HB.out)⟩

end Go.Proofs.Ytgfadfahbhcllaa.Q
namespace Go.Proofs.Ytgfadfahbhcllaa.P
open Go.RowKit Go.Proofs.YtgfadfahbhcllaaW.PrintWords Go.Proofs.YtgfadfahbhcllaaW.PrintMore Go.Proofs.Ytgfadfahbhcllaa.Q
set_option linter.unusedVariables false
set_option linter.unusedSimpArgs false
theorem bits_ev (u : List Int) (h : u.length ≤ 4611686018427387904) : Ev (fun k => spec_l6Bits.f k u) (bitsL u) := by
  simp only [spec_l6Bits.f]
  have inner : ∀ (x3 : List Int) (n : Nat), n < 32 → x3.length < 140737488355328 → ∀ r, Ev (fun k => spec_l6Bits.l0 k u (x3 ++ [bitB u n]) (wrap64 ((n : Int) + 1))) r → Ev (fun k => spec_l6Bits.l1 k u x3 n 0 7) r := by
    intro x3 n hn hx r hr
    have one : ∀ (b j : Int) (c : Int), 0 ≤ b → b ≤ 255 → 0 ≤ j → j ≤ 7 → Ev (fun k => spec_l6Bits.l1 k u x3 n (2 * b + mB u (8 * (n : Int) + j)) (j - 1)) r → Ev (fun k => spec_l6Bits.l1 k u x3 n b j) r := by
      intro b j c h0 h1 h2 h3 e
      have w1 : wrap64 (wrap64 (8 * (n : Int)) + j) = 8 * (n : Int) + j := by rw [w64 (n := 8 * (n : Int)) (by omega) (by omega), w64 (n := 8 * (n : Int) + j) (by omega) (by omega)]
      have w2 : wrap64 (j - 1) = j - 1 := w64 (n := j - 1) (by omega) (by omega)
      have w3 : wrap64 (2 * b) = 2 * b := w64 (n := 2 * b) (by omega) (by omega)
      have w4 : wrap64 (2 * b + 1) = 2 * b + 1 := w64 (n := 2 * b + 1) (by omega) (by omega)
      have hh := holds_ev u (8 * (n : Int) + j) h
      refine Ev.step (g := fun k => (spec_l5Holds.f k u (8 * (n : Int) + j)).bind fun t104 => if t104 = true then spec_l6Bits.l1 k u x3 n (2 * b + 1) (j - 1) else spec_l6Bits.l1 k u x3 n (2 * b) (j - 1)) ⟨0, fun k _ => ?_⟩ (Ev.bind hh ?_)
      · simp only [spec_l6Bits.l1]
        rw [if_pos (show j ≥ 0 from h2), w1, w2, w3, w4]
      · by_cases hm : 8 * (n : Int) + j ∈ u
        · have em : mB u (8 * (n : Int) + j) = 1 := by unfold mB; rw [if_pos hm]
          rw [em] at e
          exact Ev.pos (decide_eq_true hm) e
        · have em : mB u (8 * (n : Int) + j) = 0 := by unfold mB; rw [if_neg hm]
          rw [em, Int.add_zero] at e
          exact Ev.neg (by rw [decide_eq_false hm]; decide) e
    have b0 := mB_01 u (8 * (n : Int) + 0)
    have b1 := mB_01 u (8 * (n : Int) + 1)
    have b2 := mB_01 u (8 * (n : Int) + 2)
    have b3 := mB_01 u (8 * (n : Int) + 3)
    have b4 := mB_01 u (8 * (n : Int) + 4)
    have b5 := mB_01 u (8 * (n : Int) + 5)
    have b6 := mB_01 u (8 * (n : Int) + 6)
    have b7 := mB_01 u (8 * (n : Int) + 7)
    refine one 0 7 0 (by omega) (by omega) (by omega) (by omega) ?_
    refine one _ (7 - 1) 0 (by omega) (by omega) (by omega) (by omega) ?_
    rw [show (7 : Int) - 1 = 6 from rfl]
    refine one _ (6 - 1) 0 (by omega) (by omega) (by omega) (by omega) ?_
    rw [show (6 : Int) - 1 = 5 from rfl]
    refine one _ (5 - 1) 0 (by omega) (by omega) (by omega) (by omega) ?_
    rw [show (5 : Int) - 1 = 4 from rfl]
    refine one _ (4 - 1) 0 (by omega) (by omega) (by omega) (by omega) ?_
    rw [show (4 : Int) - 1 = 3 from rfl]
    refine one _ (3 - 1) 0 (by omega) (by omega) (by omega) (by omega) ?_
    rw [show (3 : Int) - 1 = 2 from rfl]
    refine one _ (2 - 1) 0 (by omega) (by omega) (by omega) (by omega) ?_
    rw [show (2 : Int) - 1 = 1 from rfl]
    refine one _ (1 - 1) 0 (by omega) (by omega) (by omega) (by omega) ?_
    rw [show (1 : Int) - 1 = 0 from rfl, show (0 : Int) - 1 = -1 from rfl]
    refine Ev.step (g := fun k => spec_l6Bits.l0 k u (x3 ++ [bitB u n]) (wrap64 ((n : Int) + 1))) ⟨0, fun k _ => ?_⟩ hr
    simp only [spec_l6Bits.l1]
    rw [if_neg (by decide), if_pos hx]
    congr 3
    unfold bitB
    rw [Int.add_zero] at *
    omega
  have key : ∀ m n, n + m = 32 → Ev (fun k => spec_l6Bits.l0 k u ((List.range n).map fun k => bitB u (k : Nat)) (n : Int)) (bitsL u) := by
    intro m
    induction m with
    | zero =>
      intro n hn
      obtain rfl : n = 32 := by omega
      refine Ev.last ⟨0, fun k _ => ?_⟩
      simp only [spec_l6Bits.l0]
      rw [if_neg (by decide)]
      rfl
    | succ m ih =>
      intro n hn
      have h1 := ih (n + 1) (by omega)
      rw [List.range_succ, List.map_append] at h1
      refine Ev.step (g := fun k => spec_l6Bits.l1 k u ((List.range n).map fun k => bitB u (k : Nat)) n 0 7) ⟨0, fun k _ => ?_⟩ (inner _ n (by omega) (by rw [List.length_map, List.length_range]; omega) _ ?_)
      · simp only [spec_l6Bits.l0]
        rw [if_pos (by omega)]
      · rw [w64 (n := (n : Int) + 1) (by omega) (by omega)]
        exact h1
  exact key 32 0 rfl
theorem two_is (x : Int) (h0 : 0 ≤ x) (h1 : x < 65536) : spec_l6Two.f x = some (leB 2 x) := by
  unfold spec_l6Two.f
  rw [Int.tmod_eq_emod_of_nonneg h0, Int.tdiv_eq_ediv_of_nonneg h0, w64 (n := x / 256) (by omega) (by omega), Int.emod_emod_of_dvd _ (by decide)]
  congr 1
  show _ = [x / 2 ^ (8 * 0) % 256, x / 2 ^ (8 * 1) % 256]
  rw [show (2 : Int) ^ (8 * 0) = 1 from rfl, show (2 : Int) ^ (8 * 1) = 256 from rfl, Int.ediv_one]
theorem den_ev (xs : List Int) (a : Nat) (ha : a ≤ 8) (hg : goodS xs = true) (h : xs.length ≤ 4611686018427387904) : Ev (fun k => spec_l6Denied.f k xs a ((a + 8 : Nat) : Int)) (denL xs xs.length a) := by
  simp only [spec_l6Denied.f]
  have one : ∀ (x7 : List Int) (j : Nat), j < a + 8 → x7.length ≤ 1000 → ∀ r, Ev (fun k => spec_l6Denied.l0 k xs ((a + 8 : Nat) : Int) (x7 ++ denB xs xs.length j) ((j + 1 : Nat) : Int)) r → Ev (fun k => spec_l6Denied.l0 k xs ((a + 8 : Nat) : Int) x7 (j : Int)) r := by
    intro x7 j hj hx r hr
    have hw : wrap64 ((j : Int) + 1) = ((j + 1 : Nat) : Int) := by rw [w64 (by omega) (by omega)]; rfl
    refine Ev.step (g := fun k => spec_l6Denied.l0 k xs ((a + 8 : Nat) : Int) (x7 ++ denB xs xs.length j) ((j + 1 : Nat) : Int)) ⟨0, fun k _ => ?_⟩ hr
    by_cases c : j < xs.length
    · have hm := goodS_mem hg (rd_mem c)
      have e : denB xs xs.length j = leB 2 (rd xs j) := by unfold denB; rw [if_pos c]
      simp only [spec_l6Denied.l0]
      rw [if_pos (by omega), if_pos (by omega), if_pos (by omega), two_is _ hm.1 (by omega), Option.bind_some, if_pos (by rw [leB_length]; omega), hw, e]
    · have e : denB xs xs.length j = [0, 0] := by unfold denB; rw [if_neg c]
      simp only [spec_l6Denied.l0]
      rw [if_pos (by omega), if_neg (by omega), Option.bind_some, if_pos (by simp only [List.length_cons, List.length_nil]; omega), hw, e]
  have l2 : ∀ j, (denB xs xs.length j).length = 2 := fun j => denB_length _ _ _
  have fin : ∀ x7, Ev (fun k => spec_l6Denied.l0 k xs ((a + 8 : Nat) : Int) x7 ((a + 7 + 1 : Nat) : Int)) x7 := by
    intro x7
    refine Ev.last ⟨0, fun k _ => ?_⟩
    simp only [spec_l6Denied.l0]
    rw [if_neg (by omega)]
  have e : denL xs xs.length a = ((((((([] ++ denB xs xs.length a) ++ denB xs xs.length (a + 1)) ++ denB xs xs.length (a + 2)) ++ denB xs xs.length (a + 3)) ++ denB xs xs.length (a + 4)) ++ denB xs xs.length (a + 5)) ++ denB xs xs.length (a + 6)) ++ denB xs xs.length (a + 7) := by
    unfold denL
    simp only [List.append_assoc, List.nil_append]
  rw [e]
  refine one _ a (by omega) (by simp) _ ?_
  refine one _ (a + 1) (by omega) (by simp only [List.length_append, List.length_nil, l2]; omega) _ ?_
  refine one _ (a + 2) (by omega) (by simp only [List.length_append, List.length_nil, l2]; omega) _ ?_
  refine one _ (a + 3) (by omega) (by simp only [List.length_append, List.length_nil, l2]; omega) _ ?_
  refine one _ (a + 4) (by omega) (by simp only [List.length_append, List.length_nil, l2]; omega) _ ?_
  refine one _ (a + 5) (by omega) (by simp only [List.length_append, List.length_nil, l2]; omega) _ ?_
  refine one _ (a + 6) (by omega) (by simp only [List.length_append, List.length_nil, l2]; omega) _ ?_
  exact one _ (a + 7) (by omega) (by simp only [List.length_append, List.length_nil, l2]; omega) _ (fin _)
end Go.Proofs.Ytgfadfahbhcllaa.P
namespace Go.Proofs.Ytgfadfahbhcllaa.Q
open Go.RowKit Go.Proofs.YtgfadfahbhcllaaW.PrintWords Go.Proofs.YtgfadfahbhcllaaW.PrintLast Go.Proofs.Ytgfadfahbhcllaa.LK Go.Proofs.YtgfadfahbhcllaaW.PrintMore
attribute [local go_sem] max2_int min2_int max_two min_two max_three min_three max_four min_four   -- for this text's walks alone
set_option linter.unusedVariables false
set_option linter.unusedSimpArgs false

/-! ### spec_l2Four: function 48 -/
def spec_l2Four.f (a0 : Int) : Option (List Int) := some (([(Int.tmod a0 256) % 256, ((Int.tdiv a0 256) % 4294967296) % 256, ((Int.tdiv a0 65536) % 4294967296) % 256, ((Int.tdiv a0 16777216) % 4294967296) % 256] : List Int))
set_option maxHeartbeats 8000000 in
set_option maxRecDepth 100000 in
theorem spec_l2Four.calls (a0 : Int) (r : List Int) (w : World) (h : spec_l2Four.f a0 = some r) :
    Calls Try.prog 48 #[.int .u32 a0] w fun e w' => ∃ v0_ : Value, e = .returned (v0_) ∧ Kd.R (Kd.int .u8) 5 w' w.heap.size (fun _ => True) v0_ r ∧ Below w.heap.size w w' := by
  have HB := Aside0.mk (Below.refl w.heap.size w)
  have H : (some (([(Int.tmod a0 256) % 256, ((Int.tdiv a0 256) % 4294967296) % 256, ((Int.tdiv a0 65536) % 4294967296) % 256, ((Int.tdiv a0 16777216) % 4294967296) % 256] : List Int))) = some r := h
  clear h
  obtain ⟨y101, hy101⟩ : ∃ y_ : List Int, y_ = (([(Int.tmod a0 256) % 256, ((Int.tdiv a0 256) % 4294967296) % 256, ((Int.tdiv a0 65536) % 4294967296) % 256, ((Int.tdiv a0 16777216) % 4294967296) % 256] : List Int)) := ⟨_, rfl⟩
  replace H : (some y101) = some r := by first | (rw [hy101]; with_reducible exact H) | (have H2_ := (Option.bind_some _ _).symm.trans H; rw [hy101]; with_reducible exact H2_) | (have H2_ := (Option.bind_some _ _).symm.trans H; with_reducible exact H2_) | with_reducible exact H | (rw [hy101]; exact H) | exact H
  have Ny101 := Aside0.mk hy101
  clear hy101
  obtain rfl := Option.some.inj H
  go_enter Try.func48, Try.ntmps48
  go_wp2_with (first | ((with_reducible refine gate_dst (N := 17) rfl ?_); refine Kd.R_lit (Kd.int .u8) _ 5 ?hg (N := 17) ?hd (xs := ([(Int.tmod a0 256) % 256, ((Int.tdiv a0 256) % 4294967296) % 256, ((Int.tdiv a0 65536) % 4294967296) % 256, ((Int.tdiv a0 16777216) % 4294967296) % 256] : List Int)) (inner := [.int .u8 ((Int.tmod a0 256) % 256), .int .u8 (((Int.tdiv a0 256) % 4294967296) % 256), .int .u8 (((Int.tdiv a0 65536) % 4294967296) % 256), .int .u8 (((Int.tdiv a0 16777216) % 4294967296) % 256)]) (ok := fun _ => True) (okp := fun _ => True) ?hr ?hp (fun _ hk => hk) trivial (Below.refl _ _) (Nat.le_refl _) (by simp) ?_; (case hd => rfl); (case hg => rfl); (case hr => first | (go_simp; done) | (go_simp; rfl)); (case hp => exact (Reps.one (show Kd.M (Kd.int .u8) _ _ _ ((Int.tmod a0 256) % 256) [.int .u8 ((Int.tmod a0 256) % 256)] from rfl) (Reps.one (show Kd.M (Kd.int .u8) _ _ _ (((Int.tdiv a0 256) % 4294967296) % 256) [.int .u8 (((Int.tdiv a0 256) % 4294967296) % 256)] from rfl) (Reps.one (show Kd.M (Kd.int .u8) _ _ _ (((Int.tdiv a0 65536) % 4294967296) % 256) [.int .u8 (((Int.tdiv a0 65536) % 4294967296) % 256)] from rfl) (Reps.one (show Kd.M (Kd.int .u8) _ _ _ (((Int.tdiv a0 16777216) % 4294967296) % 256) [.int .u8 (((Int.tdiv a0 16777216) % 4294967296) % 256)] from rfl) (Reps.none _ _)))))); intro v102 w2 ho3 hb hg_ hnew_; clear hg_ hnew_; (first | rw [← Ny101.out] at ho3 | (simp only [Int.reduceToNat] at ho3; rw [← Ny101.out] at ho3)); have n0_ := Aside0.mk (Kd.R_lower ho3 (below_size (by repeat (first | (with_reducible first | exact HB.out | apply below_alloc | apply pw_below_drewN | apply below_drew1) | exact HB.out)))); have n1_ := Aside0.mk (below_step (by repeat (first | (with_reducible first | exact HB.out | apply below_alloc | apply pw_below_drewN | apply below_drew1) | exact HB.out)) hb); clear HB; have HO103 := n0_; have HB := n1_; clear n0_ n1_; clear hb ho3))
  go_ret
  exact ⟨_, by first | rfl | (simp [errW_none, errW_some] <;> rfl) | (simp [*, errW_none, errW_some] <;> rfl), by (with_reducible repeat (first | apply Kd.R_alloc | apply Kd.R_drewN | apply Kd.R_drew)); exact HO103.out, by repeat (first | (with_reducible first | exact HB.out | apply below_alloc | apply pw_below_drewN | apply below_drew1) | exact HB.out)⟩

end Go.Proofs.Ytgfadfahbhcllaa.Q
