/- Part 7 of 8 of the proof that the law FnExactDevSync returns true at every input. No further condition. -/
import Derived.Test.YtbdbeccaopphaaaMFnExactDevSync6
namespace Go.Proofs.Ytbdbeccaopphaaa.Q
open Go.RowKit Go.Proofs.YtbdbeccaopphaaaW.PrintWords Go.Proofs.YtbdbeccaopphaaaW.PrintLast Go.Proofs.Ytbdbeccaopphaaa.LK Go.Proofs.YtbdbeccaopphaaaW.PrintMore
attribute [local go_sem] max2_int min2_int max_two min_two max_three min_three max_four min_four   -- for this text's walks alone
set_option linter.unusedVariables false
set_option linter.unusedSimpArgs false

/-! ### impl_Dev_clone: function 72 -/
def impl_Dev_clone.l0 : Nat → List (S101) → Int → Int → List Int → List (S101) → Int → Bool → Option (List Int × (List (S101)) × Int × Bool)
  | 0, _, _, _, _, _, _, _ => none
  | k + 1, x18, x19, x20, x104000, x104001, x104002, x104003 => if x20 < x19 then (if 0 ≤ x20 then (if x20 < (x18.length : Int) then (if ([] : List Int).length + ((rd_T101 x18 x20).f1).length < 140737488355328 then (if x104001.length < 4398046511104 then (impl_Dev_clone.l0 k x18 x19 (wrap64 (x20 + 1)) x104000 (x104001 ++ [(⟨(rd_T101 x18 x20).f0, (([] : List Int) ++ ((rd_T101 x18 x20).f1))⟩ : S101)]) x104002 x104003) else (none)) else (none)) else (none)) else (none)) else (some (x104000, x104001, x104002, x104003))
def impl_Dev_clone.f (k : Nat) (l0_0 : List Int) (l0_1 : List (S101)) (a0_2 : Int) (a0_3 : Bool) : Option (List Int × (List (S101)) × Int × Bool) := if ([] : List Int).length + l0_0.length < 140737488355328 then (impl_Dev_clone.l0 k l0_1 (l0_1.length : Int) 0 (([] : List Int) ++ l0_0) ([] : List (S101)) a0_2 a0_3) else (none)
theorem impl_Dev_clone.mono_l : ∀ k, (∀ y0 y1 y2 y3 y4 y5 y6, LeO (impl_Dev_clone.l0 k y0 y1 y2 y3 y4 y5 y6) (impl_Dev_clone.l0 (k + 1) y0 y1 y2 y3 y4 y5 y6))
  | 0 => fun _ _ _ _ _ _ _ r h => by simp [impl_Dev_clone.l0] at h
  | k + 1 => by
    have ih0 := impl_Dev_clone.mono_l k
    · intro y0 y1 y2 y3 y4 y5 y6
      unfold impl_Dev_clone.l0
      repeat' first
      | (with_reducible exact ih0 _ _ _ _ _ _ _)
      | (with_reducible exact LeO.refl _)
      | (with_reducible exact LeO.none _)
      | (with_reducible refine LeO.ite ?_ ?_)
      | (with_reducible refine LeO.bind ?_ (fun _ => ?_))
      | exact ih0 _ _ _ _ _ _ _
      | exact LeO.none _
      | refine LeO.ite ?_ ?_
      | refine LeO.bind ?_ (fun _ => ?_)
theorem impl_Dev_clone.mono : ∀ a0 a1 a2 a3 k, LeO (impl_Dev_clone.f k a0 a1 a2 a3) (impl_Dev_clone.f (k + 1) a0 a1 a2 a3) := by
  intro a0 a1 a2 a3 k
  have ih0 := impl_Dev_clone.mono_l k
  unfold impl_Dev_clone.f
  repeat' first
      | (with_reducible exact ih0 _ _ _ _ _ _ _)
      | (with_reducible exact LeO.refl _)
      | (with_reducible exact LeO.none _)
      | (with_reducible refine LeO.ite ?_ ?_)
      | (with_reducible refine LeO.bind ?_ (fun _ => ?_))
      | exact ih0 _ _ _ _ _ _ _
      | exact LeO.none _
      | refine LeO.ite ?_ ?_
      | refine LeO.bind ?_ (fun _ => ?_)
def impl_Dev_clone.T6 : Bool × List (List Nat × List Nat) := (true, [([], []), ([0], [0]), ([], []), ([2], [2]), ([], []), ([4], [4]), ([5], [5]), ([3, 6], [3, 6]), ([7], [7]), ([1, 8, 6], [1, 8]), ([0, 1, 2, 3, 4, 5, 6, 7, 8, 9], []), ([10, 9, 9, 0, 1, 2, 3, 4, 5, 6, 7, 8, 9], [9, 10])])
def impl_Dev_clone.B6 : List Nat := [0, 1, 0, 4, 0, 16, 48, 124, 252, 511, 1023, 2047]
theorem impl_Dev_clone.tab6 : rtab .any (opsOf Try.f72 6) = impl_Dev_clone.T6 := by kernel_rfl
theorem impl_Dev_clone.bits6 : waitsOk impl_Dev_clone.T6.2 impl_Dev_clone.B6 = true := by kernel_rfl
set_option maxHeartbeats 8000000 in
set_option maxRecDepth 100000 in
theorem impl_Dev_clone.calls (k : Nat) (A0_0 : Option Addr) (c0_0 : Nat) (l0_0 : List Int) (A0_1 : Option Addr) (c0_1 : Nat) (l0_1 : List (S101)) (a0_2 : Int) (a0_3 : Bool) (r1 : List Int) (r2 : List (S101)) (r3 : Int) (r4 : Bool) (w : World) (hr0_0 : Kd.C (Kd.int .u8) w A0_0 l0_0.length l0_0) (hc0_0 : l0_0.length ≤ c0_0) (hr0_1 : Kd.C k101 w A0_1 l0_1.length l0_1) (hc0_1 : l0_1.length ≤ c0_1) (h : impl_Dev_clone.f k l0_0 l0_1 a0_2 a0_3 = some (r1, r2, r3, r4)) :
    Calls Try.prog 72 #[.agg #[.slice A0_0 l0_0.length c0_0, .slice A0_1 l0_1.length c0_1, .int .i64 a0_2, .bool a0_3]] w fun e w' => ∃ v0_ v1_ : Value, e = .returned (.agg #[v0_, v1_, .int .i64 r3, .bool r4]) ∧ Kd.R (Kd.int .u8) 5 w' w.heap.size (fun _ => True) v0_ r1 ∧ Kd.S k101 101 w' w.heap.size (fun k_ => some k_ ≠ (v0_ : Value).ownBlock) v1_ r2 ∧ Below w.heap.size w w' := by
  have hu35 := Try.underlying35
  have hu101 := Try.underlying101
  have HR0_0 := Aside0.mk hr0_0
  have HC0_0 := Aside0.mk hc0_0
  clear hr0_0 hc0_0
  have HR0_1 := Aside0.mk hr0_1
  have HC0_1 := Aside0.mk hc0_1
  clear hr0_1 hc0_1
  have HB := Aside0.mk (Below.refl w.heap.size w)
  have H : (if ([] : List Int).length + l0_0.length < 140737488355328 then (impl_Dev_clone.l0 k l0_1 (l0_1.length : Int) 0 (([] : List Int) ++ l0_0) ([] : List (S101)) a0_2 a0_3) else (none)) = some (r1, r2, r3, r4) := h
  clear h
  by_cases c2 : ([] : List Int).length + l0_0.length < 140737488355328
  · rw [if_pos c2] at H
    have LMc2 := Aside0.mk c2
    clear c2
    obtain ⟨y104, hy104⟩ : ∃ y_ : List Int, y_ = (([] : List Int) ++ l0_0) := ⟨_, rfl⟩
    replace H : (impl_Dev_clone.l0 k l0_1 (l0_1.length : Int) 0 y104 ([] : List (S101)) a0_2 a0_3) = some (r1, r2, r3, r4) := by first | (rw [hy104]; with_reducible exact H) | (have H2_ := (Option.bind_some _ _).symm.trans H; rw [hy104]; with_reducible exact H2_) | (have H2_ := (Option.bind_some _ _).symm.trans H; with_reducible exact H2_) | with_reducible exact H | (rw [hy104]; exact H) | exact H
    have Ny104 := Aside0.mk hy104
    clear hy104
    have H' := Aside0.mk H
    clear H
    go_enter Try.func72, Try.ntmps72
    go_wp2_with (first | ((with_reducible refine gate_dst (N := 1) rfl ?_); refine box_event ?hg (N := 1) ?hd (cs := #[.slice A0_0 l0_0.length c0_0, .slice A0_1 l0_1.length c0_1, .int .i64 a0_2, .bool a0_3]) (t := 35) ?hr ?_; (case hd => rfl); (case hg => rfl); (case hr => first | (go_simp; done) | (go_simp; rfl)); intro gb101 hg w3 hbox hb; have n0_ := Aside0.mk (below_step (by repeat (first | (with_reducible first | exact HB.out | apply below_alloc | apply pw_below_drewN | apply below_drew1) | exact HB.out)) hb); have n1_ := Aside0.mk (hbox); have n2_ := Aside0.mk ((by rw [hg]; exact (below_size (by repeat (first | (with_reducible first | exact HB.out | apply below_alloc | apply pw_below_drewN | apply below_drew1) | exact HB.out))) : w.heap.size ≤ gb101)); have n3_ := Aside0.mk ((by rw [hg]; exact (below_size (by repeat (first | (with_reducible first | exact HB.out | apply below_alloc | apply pw_below_drewN | apply below_drew1) | exact HB.out))) : w.heap.size ≤ gb101)); clear HB; have HB := n0_; have BK101 := n1_; have GW101 := n2_; have GE101 := n3_; clear n0_ n1_ n2_ n3_; clear hb hbox hg) | ((with_reducible refine gate_dst (N := 2) rfl ?_); refine box_event ?hg (N := 2) ?hd (cs := #[.slice none 0 0, .slice none 0 0, .int .i64 0, .bool false]) (t := 35) ?hr ?_; (case hd => rfl); (case hg => rfl); (case hr => first | (go_simp; done) | (go_simp; rfl)); intro gb102 hg w4 hbox hb; have n0_ := Aside0.mk (blk_below (g := gb101) (o := .cells #[.slice A0_0 l0_0.length c0_0, .slice A0_1 l0_1.length c0_1, .int .i64 a0_2, .bool a0_3] 35 (0, 0)) (by (with_reducible repeat (first | refine blk_drewN ?_ _ | refine blk_drew ?_ | refine blk_alloc ?_ _)); exact BK101.out) hb); have n1_ := Aside0.mk (below_step (by repeat (first | (with_reducible first | exact HB.out | apply below_alloc | apply pw_below_drewN | apply below_drew1 | refine below_set ?_ GE101.out) | exact HB.out)) hb); have n2_ := Aside0.mk (hbox); have n3_ := Aside0.mk ((by rw [hg]; exact (below_size (by repeat (first | (with_reducible first | exact HB.out | apply below_alloc | apply pw_below_drewN | apply below_drew1 | refine below_set ?_ GE101.out) | exact HB.out))) : w.heap.size ≤ gb102)); have n4_ := Aside0.mk ((by rw [hg]; exact (below_size (by repeat (first | (with_reducible first | exact HB.out | apply below_alloc | apply pw_below_drewN | apply below_drew1 | refine below_set ?_ GE101.out) | exact HB.out))) : w.heap.size ≤ gb102)); have n5_ := Aside0.mk ((by rw [hg]; exact Nat.ne_of_lt (blk_lt (g := gb101) (o := .cells #[.slice A0_0 l0_0.length c0_0, .slice A0_1 l0_1.length c0_1, .int .i64 a0_2, .bool a0_3] 35 (0, 0)) (by (with_reducible repeat (first | refine blk_drewN ?_ _ | refine blk_drew ?_ | refine blk_alloc ?_ _)); exact BK101.out)) : gb101 ≠ gb102)); have n6_ := Aside0.mk ((by rw [hg]; exact Nat.ne_of_gt (blk_lt (g := gb101) (o := .cells #[.slice A0_0 l0_0.length c0_0, .slice A0_1 l0_1.length c0_1, .int .i64 a0_2, .bool a0_3] 35 (0, 0)) (by (with_reducible repeat (first | refine blk_drewN ?_ _ | refine blk_drew ?_ | refine blk_alloc ?_ _)); exact BK101.out)) : gb102 ≠ gb101)); clear BK101; clear HB; have BK101 := n0_; have HB := n1_; have BK102 := n2_; have GW102 := n3_; have GE102 := n4_; have NB101_102 := n5_; have NB102_101 := n6_; clear n0_ n1_ n2_ n3_ n4_ n5_ n6_; clear hb hbox hg; have hnb5 := NB101_102.out; have hnc5 := NB102_101.out; have hcz6_0 : w4.cell? ⟨gb101, 0, none⟩ = some (.slice A0_0 l0_0.length c0_0) := (blk_cell BK101.out 0).trans rfl; have hcz6_1 : w4.cell? ⟨gb101, 1, none⟩ = some (.slice A0_1 l0_1.length c0_1) := (blk_cell BK101.out 1).trans rfl; have hcz6_2 : w4.cell? ⟨gb101, 2, none⟩ = some (.int .i64 a0_2) := (blk_cell BK101.out 2).trans rfl; have hcz6_3 : w4.cell? ⟨gb101, 3, none⟩ = some (.bool a0_3) := (blk_cell BK101.out 3).trans rfl; have hfz6_0 := blk_frozen BK101.out 0; have hfz6_1 := blk_frozen BK101.out 1; have hfz6_2 := blk_frozen BK101.out 2; have hfz6_3 := blk_frozen BK101.out 3) | ((with_reducible refine gate_dst (N := 3) rfl ?_); refine box_event ?hg (N := 3) ?hd (cs := #[.slice none 0 0, .slice none 0 0, .int .i64 0, .bool false]) (t := 35) ?hr ?_; (case hd => rfl); (case hg => rfl); (case hr => first | (go_simp; done) | (go_simp; rfl)); intro gb103 hg w7 hbox hb; have n0_ := Aside0.mk (blk_below (g := gb101) (o := .cells #[.slice A0_0 l0_0.length c0_0, .slice A0_1 l0_1.length c0_1, .int .i64 a0_2, .bool a0_3] 35 (0, 0)) (by (with_reducible repeat (first | refine blk_drewN ?_ _ | refine blk_drew ?_ | refine blk_alloc ?_ _)); exact BK101.out) hb); have n1_ := Aside0.mk (blk_below (g := gb102) (o := .cells #[.slice none 0 0, .slice none 0 0, .int .i64 0, .bool false] 35 (0, 0)) (by (with_reducible repeat (first | refine blk_drewN ?_ _ | refine blk_drew ?_ | refine blk_alloc ?_ _)); exact BK102.out) hb); have n2_ := Aside0.mk (below_step (by repeat (first | (with_reducible first | exact HB.out | apply below_alloc | apply pw_below_drewN | apply below_drew1 | refine below_set ?_ GE101.out | refine below_set ?_ GE102.out) | exact HB.out)) hb); have n3_ := Aside0.mk (hbox); have n4_ := Aside0.mk ((by rw [hg]; exact (below_size (by repeat (first | (with_reducible first | exact HB.out | apply below_alloc | apply pw_below_drewN | apply below_drew1 | refine below_set ?_ GE101.out | refine below_set ?_ GE102.out) | exact HB.out))) : w.heap.size ≤ gb103)); have n5_ := Aside0.mk ((by rw [hg]; exact (below_size (by repeat (first | (with_reducible first | exact HB.out | apply below_alloc | apply pw_below_drewN | apply below_drew1 | refine below_set ?_ GE101.out | refine below_set ?_ GE102.out) | exact HB.out))) : w.heap.size ≤ gb103)); have n6_ := Aside0.mk ((by rw [hg]; exact Nat.ne_of_lt (blk_lt (g := gb101) (o := .cells #[.slice A0_0 l0_0.length c0_0, .slice A0_1 l0_1.length c0_1, .int .i64 a0_2, .bool a0_3] 35 (0, 0)) (by (with_reducible repeat (first | refine blk_drewN ?_ _ | refine blk_drew ?_ | refine blk_alloc ?_ _)); exact BK101.out)) : gb101 ≠ gb103)); have n7_ := Aside0.mk ((by rw [hg]; exact Nat.ne_of_gt (blk_lt (g := gb101) (o := .cells #[.slice A0_0 l0_0.length c0_0, .slice A0_1 l0_1.length c0_1, .int .i64 a0_2, .bool a0_3] 35 (0, 0)) (by (with_reducible repeat (first | refine blk_drewN ?_ _ | refine blk_drew ?_ | refine blk_alloc ?_ _)); exact BK101.out)) : gb103 ≠ gb101)); have n8_ := Aside0.mk ((by rw [hg]; exact Nat.ne_of_lt (blk_lt (g := gb102) (o := .cells #[.slice none 0 0, .slice none 0 0, .int .i64 0, .bool false] 35 (0, 0)) (by (with_reducible repeat (first | refine blk_drewN ?_ _ | refine blk_drew ?_ | refine blk_alloc ?_ _)); exact BK102.out)) : gb102 ≠ gb103)); have n9_ := Aside0.mk ((by rw [hg]; exact Nat.ne_of_gt (blk_lt (g := gb102) (o := .cells #[.slice none 0 0, .slice none 0 0, .int .i64 0, .bool false] 35 (0, 0)) (by (with_reducible repeat (first | refine blk_drewN ?_ _ | refine blk_drew ?_ | refine blk_alloc ?_ _)); exact BK102.out)) : gb103 ≠ gb102)); clear BK101; clear BK102; clear HB; have BK101 := n0_; have BK102 := n1_; have HB := n2_; have BK103 := n3_; have GW103 := n4_; have GE103 := n5_; have NB101_103 := n6_; have NB103_101 := n7_; have NB102_103 := n8_; have NB103_102 := n9_; clear n0_ n1_ n2_ n3_ n4_ n5_ n6_ n7_ n8_ n9_; clear hb hbox hg; have hnb8 := NB103_101.out; have hnc8 := NB101_103.out; have hnb9 := NB103_102.out; have hnc9 := NB102_103.out; have hcz10_0 : w7.cell? ⟨gb103, 0, none⟩ = some (.slice none 0 0) := (blk_cell BK103.out 0).trans rfl; have hcz10_1 : w7.cell? ⟨gb103, 1, none⟩ = some (.slice none 0 0) := (blk_cell BK103.out 1).trans rfl; have hcz10_2 : w7.cell? ⟨gb103, 2, none⟩ = some (.int .i64 0) := (blk_cell BK103.out 2).trans rfl; have hcz10_3 : w7.cell? ⟨gb103, 3, none⟩ = some (.bool false) := (blk_cell BK103.out 3).trans rfl; have hfz10_0 := blk_frozen BK103.out 0; have hfz10_1 := blk_frozen BK103.out 1; have hfz10_2 := blk_frozen BK103.out 2; have hfz10_3 := blk_frozen BK103.out 3; have hcz11_0 : w7.cell? ⟨gb101, 0, none⟩ = some (.slice A0_0 l0_0.length c0_0) := (blk_cell BK101.out 0).trans rfl; have hcz11_1 : w7.cell? ⟨gb101, 1, none⟩ = some (.slice A0_1 l0_1.length c0_1) := (blk_cell BK101.out 1).trans rfl; have hcz11_2 : w7.cell? ⟨gb101, 2, none⟩ = some (.int .i64 a0_2) := (blk_cell BK101.out 2).trans rfl; have hcz11_3 : w7.cell? ⟨gb101, 3, none⟩ = some (.bool a0_3) := (blk_cell BK101.out 3).trans rfl; have hfz11_0 := blk_frozen BK101.out 0; have hfz11_1 := blk_frozen BK101.out 1; have hfz11_2 := blk_frozen BK101.out 2; have hfz11_3 := blk_frozen BK101.out 3) | ((with_reducible refine gate_builtin (b := .append) (xs := #[.tmp 12, .tmp 14]) rfl ?_); at_builtin; refine Kd.R_append_rows (Kd.int .u8) (w0 := w) w.heap.size rfl (.tmp 12) (.tmp 14) 23 5 (.int .u8 0) 1 rfl Try.underlying23 info5 rfl (by decide) (by omega) (.slice none 0 0) ([] : List Int) l0_0 _ _ _ (fun _ => True) (fun _ => False) rfl rfl ?aO ?aR (fun _ _ h => h) (fun _ h => h.elim) ?aF ?aB ?aS ?aL ?_; (case aR => exact Kd.C_below HR0_0.out (by repeat (first | (with_reducible first | exact HB.out | apply below_alloc | apply pw_below_drewN | apply below_drew1 | refine below_set ?_ GE101.out | refine below_set ?_ GE102.out | refine below_set ?_ GE103.out) | exact HB.out))); (case aB => exact (by repeat (first | (with_reducible first | exact HB.out | apply below_alloc | apply pw_below_drewN | apply below_drew1 | refine below_set ?_ GE101.out | refine below_set ?_ GE102.out | refine below_set ?_ GE103.out) | exact HB.out))); (case aF => exact (fun _ _ => trivial)); (case aO => exact ((Kd.R_nil _ _ _ _ (fun _ => True)))); (case aS => exact (below_size (by repeat (first | (with_reducible first | exact HB.out | apply below_alloc | apply pw_below_drewN | apply below_drew1 | refine below_set ?_ GE101.out | refine below_set ?_ GE102.out | refine below_set ?_ GE103.out) | exact HB.out)))); (case aL => have := LMc2.out; omega); intro v105 w12 ho hb hg hat; rw [← Ny104.out] at ho; have n0_ := Aside0.mk (blk_grown (g := gb101) (o := .cells #[.slice A0_0 l0_0.length c0_0, .slice A0_1 l0_1.length c0_1, .int .i64 a0_2, .bool a0_3] 35 (0, 0)) (by (with_reducible repeat (first | refine blk_drewN ?_ _ | refine blk_drew ?_ | refine blk_alloc ?_ _)); refine blk_far ?_ NB101_103.out _; (with_reducible repeat (first | refine blk_drewN ?_ _ | refine blk_drew ?_ | refine blk_alloc ?_ _)); refine blk_far ?_ NB101_103.out _; (with_reducible repeat (first | refine blk_drewN ?_ _ | refine blk_drew ?_ | refine blk_alloc ?_ _)); refine blk_far ?_ NB101_103.out _; (with_reducible repeat (first | refine blk_drewN ?_ _ | refine blk_drew ?_ | refine blk_alloc ?_ _)); refine blk_far ?_ NB101_103.out _; (with_reducible repeat (first | refine blk_drewN ?_ _ | refine blk_drew ?_ | refine blk_alloc ?_ _)); exact BK101.out) hg (by simp [Value.ownBlock])); have n1_ := Aside0.mk (blk_grown (g := gb102) (o := .cells #[.slice none 0 0, .slice none 0 0, .int .i64 0, .bool false] 35 (0, 0)) (by (with_reducible repeat (first | refine blk_drewN ?_ _ | refine blk_drew ?_ | refine blk_alloc ?_ _)); refine blk_far ?_ NB102_103.out _; (with_reducible repeat (first | refine blk_drewN ?_ _ | refine blk_drew ?_ | refine blk_alloc ?_ _)); refine blk_far ?_ NB102_103.out _; (with_reducible repeat (first | refine blk_drewN ?_ _ | refine blk_drew ?_ | refine blk_alloc ?_ _)); refine blk_far ?_ NB102_103.out _; (with_reducible repeat (first | refine blk_drewN ?_ _ | refine blk_drew ?_ | refine blk_alloc ?_ _)); refine blk_far ?_ NB102_103.out _; (with_reducible repeat (first | refine blk_drewN ?_ _ | refine blk_drew ?_ | refine blk_alloc ?_ _)); exact BK102.out) hg (by simp [Value.ownBlock])); have n2_ := Aside0.mk (blk_grown (g := gb103) (o := .cells #[.slice none 0 0, .slice none 0 0, .int .i64 a0_2, .bool a0_3] 35 (0, 0)) (by (with_reducible repeat (first | refine blk_drewN ?_ _ | refine blk_drew ?_ | refine blk_alloc ?_ _)); refine blk_put (cs := #[.slice none 0 0, .slice none 0 0, .int .i64 a0_2, .bool false]) ?_ 3 _ rfl; (with_reducible repeat (first | refine blk_drewN ?_ _ | refine blk_drew ?_ | refine blk_alloc ?_ _)); refine blk_put (cs := #[.slice none 0 0, .slice none 0 0, .int .i64 0, .bool false]) ?_ 2 _ rfl; (with_reducible repeat (first | refine blk_drewN ?_ _ | refine blk_drew ?_ | refine blk_alloc ?_ _)); refine blk_put (cs := #[.slice none 0 0, .slice none 0 0, .int .i64 0, .bool false]) ?_ 1 _ rfl; (with_reducible repeat (first | refine blk_drewN ?_ _ | refine blk_drew ?_ | refine blk_alloc ?_ _)); refine blk_put (cs := #[.slice none 0 0, .slice none 0 0, .int .i64 0, .bool false]) ?_ 0 _ rfl; (with_reducible repeat (first | refine blk_drewN ?_ _ | refine blk_drew ?_ | refine blk_alloc ?_ _)); exact BK103.out) hg (by simp [Value.ownBlock])); have n3_ := Aside0.mk (hb); have n4_ := Aside0.mk (ho); clear BK101; clear BK102; clear BK103; clear HB; have BK101 := n0_; have BK102 := n1_; have BK103 := n2_; have HB := n3_; have HO106 := n4_; clear n0_ n1_ n2_ n3_ n4_; clear ho hb hg hat; obtain ⟨Ao13, co13, eo13⟩ := Kd.R_slice HO106.out; subst eo13; have hcz14_0 : w12.cell? ⟨gb103, 0, none⟩ = some (.slice none 0 0) := (blk_cell BK103.out 0).trans rfl; have hcz14_1 : w12.cell? ⟨gb103, 1, none⟩ = some (.slice none 0 0) := (blk_cell BK103.out 1).trans rfl; have hcz14_2 : w12.cell? ⟨gb103, 2, none⟩ = some (.int .i64 a0_2) := (blk_cell BK103.out 2).trans rfl; have hcz14_3 : w12.cell? ⟨gb103, 3, none⟩ = some (.bool a0_3) := (blk_cell BK103.out 3).trans rfl; have hfz14_0 := blk_frozen BK103.out 0; have hfz14_1 := blk_frozen BK103.out 1; have hfz14_2 := blk_frozen BK103.out 2; have hfz14_3 := blk_frozen BK103.out 3; have hcz15_0 : w12.cell? ⟨gb101, 0, none⟩ = some (.slice A0_0 l0_0.length c0_0) := (blk_cell BK101.out 0).trans rfl; have hcz15_1 : w12.cell? ⟨gb101, 1, none⟩ = some (.slice A0_1 l0_1.length c0_1) := (blk_cell BK101.out 1).trans rfl; have hcz15_2 : w12.cell? ⟨gb101, 2, none⟩ = some (.int .i64 a0_2) := (blk_cell BK101.out 2).trans rfl; have hcz15_3 : w12.cell? ⟨gb101, 3, none⟩ = some (.bool a0_3) := (blk_cell BK101.out 3).trans rfl; have hfz15_0 := blk_frozen BK101.out 0; have hfz15_1 := blk_frozen BK101.out 1; have hfz15_2 := blk_frozen BK101.out 2; have hfz15_3 := blk_frozen BK101.out 3))
    go_loopg [20] k (fun kq v20 w' => ∃ (x20_1 : Int) (x104001_1 : List (S101)) (u104001 : Value), v20 = .int .i64 x20_1 ∧ Aside0 (impl_Dev_clone.l0 kq l0_1 (l0_1.length : Int) x20_1 y104 x104001_1 a0_2 a0_3 = some (r1, r2, r3, r4)) ∧ Aside0 (kq ≤ k) ∧ Aside0 (Kd.R (Kd.int .u8) 5 w' w.heap.size (fun _ => True) (.slice Ao13 y104.length co13) y104) ∧ Aside0 (Kd.S k101 101 w' w.heap.size (fun k_ => some k_ ≠ ((.slice Ao13 y104.length co13) : Value).ownBlock) u104001 x104001_1) ∧ Aside0 (w'.heap[gb101]? = some (.cells #[(.slice A0_0 l0_0.length c0_0), (.slice A0_1 l0_1.length c0_1), .int .i64 a0_2, .bool a0_3] 35 (0, 0))) ∧ Aside0 (w'.heap[gb102]? = some (.cells #[(.slice none 0 0), (.slice none 0 0), .int .i64 0, .bool false] 35 (0, 0))) ∧ Aside0 (w'.heap[gb103]? = some (.cells #[(.slice Ao13 y104.length co13), u104001, .int .i64 a0_2, .bool a0_3] 35 (0, 0))) ∧ Aside0 (Below w.heap.size w w'))
    case atStart => exact ⟨(0), (([] : List (S101))), (.slice none 0 0), (by first | rfl | (simp; done) | (simp [*]; done)), H', ⟨Nat.le_refl _⟩, ⟨by (with_reducible repeat (first | apply Kd.R_alloc | apply Kd.R_drewN | apply Kd.R_drew)); exact Kd.R_mono (Kd.R_far (p := ⟨gb103, 0, none⟩) (Kd.R_types HO106.out BK103.out (by decide)) (fun _ hk => hk.2) (.slice Ao13 y104.length co13)) (fun _ hk => trivial)⟩, ⟨by first | exact Kd.S_nil _ _ _ _ _ | exact Kd.N_nil _ _ _ _ _ | exact Kd.V_nil _ _ _ _ _ | exact Kd.Q_nil _ _ _ _ _ | exact Kd.R_nil _ _ _ _ _⟩, ⟨by (with_reducible repeat (first | refine blk_drewN ?_ _ | refine blk_drew ?_ | refine blk_alloc ?_ _)); refine blk_far ?_ NB101_103.out _; (with_reducible repeat (first | refine blk_drewN ?_ _ | refine blk_drew ?_ | refine blk_alloc ?_ _)); exact BK101.out⟩, ⟨by (with_reducible repeat (first | refine blk_drewN ?_ _ | refine blk_drew ?_ | refine blk_alloc ?_ _)); refine blk_far ?_ NB102_103.out _; (with_reducible repeat (first | refine blk_drewN ?_ _ | refine blk_drew ?_ | refine blk_alloc ?_ _)); exact BK102.out⟩, ⟨by (with_reducible repeat (first | refine blk_drewN ?_ _ | refine blk_drew ?_ | refine blk_alloc ?_ _)); refine blk_put (cs := #[.slice none 0 0, .slice none 0 0, .int .i64 a0_2, .bool a0_3]) ?_ 0 _ rfl; (with_reducible repeat (first | refine blk_drewN ?_ _ | refine blk_drew ?_ | refine blk_alloc ?_ _)); exact BK103.out⟩, ⟨by repeat (first | (with_reducible first | exact HB.out | apply below_alloc | apply pw_below_drewN | apply below_drew1 | refine below_set ?_ GE101.out | refine below_set ?_ GE102.out | refine below_set ?_ GE103.out) | exact HB.out)⟩⟩
    case round =>
      clear H'
      try clear c2
      try clear p2
      try clear c5
      try clear c7
      try clear c8
      try clear c9
      try clear hcz10_0
      try clear hcz10_1
      try clear hcz10_2
      try clear hcz10_3
      try clear hcz11_0
      try clear hcz11_1
      try clear hcz11_2
      try clear hcz11_3
      try clear hcz14_0
      try clear hcz14_1
      try clear hcz14_2
      try clear hcz14_3
      try clear hcz15_0
      try clear hcz15_1
      try clear hcz15_2
      try clear hcz15_3
      try clear hcz6_0
      try clear hcz6_1
      try clear hcz6_2
      try clear hcz6_3
      try clear hfz10_0
      try clear hfz10_1
      try clear hfz10_2
      try clear hfz10_3
      try clear hfz11_0
      try clear hfz11_1
      try clear hfz11_2
      try clear hfz11_3
      try clear hfz14_0
      try clear hfz14_1
      try clear hfz14_2
      try clear hfz14_3
      try clear hfz15_0
      try clear hfz15_1
      try clear hfz15_2
      try clear hfz15_3
      try clear hfz6_0
      try clear hfz6_1
      try clear hfz6_2
      try clear hfz6_3
      obtain ⟨x20_1, x104001_1, u104001, rfl, HA, HK1, HO_104000, HO_104001, BK101, BK102, BK103, HB⟩ := hrel
      cases gk with
      | zero => exact absurd HA.out (by simp [impl_Dev_clone.l0])
      | succ k1 =>
        have H := HA.out
        clear HA
        simp only [impl_Dev_clone.l0] at H
        by_cases c16 : x20_1 < (l0_1.length : Int)
        · rw [if_pos c16] at H
          have c16b0 : decide (x20_1 < (l0_1.length : Int)) = true := decide_eq_true c16
          clear c16
          by_cases c17 : 0 ≤ x20_1
          · rw [if_pos c17] at H
            have c17b0 : decide (0 ≤ x20_1) = true := decide_eq_true c17
            clear c17
            by_cases c18 : x20_1 < (l0_1.length : Int)
            · rw [if_pos c18] at H
              have c18b0 : decide (x20_1 < (l0_1.length : Int)) = true := decide_eq_true c18
              clear c18
              by_cases c19 : ([] : List Int).length + ((rd_T101 l0_1 x20_1).f1).length < 140737488355328
              · rw [if_pos c19] at H
                have LMc19 := Aside0.mk c19
                clear c19
                obtain ⟨y109, hy109⟩ : ∃ y_ : List Int, y_ = (([] : List Int) ++ ((rd_T101 l0_1 x20_1).f1)) := ⟨_, rfl⟩
                replace H : (if x104001_1.length < 4398046511104 then (impl_Dev_clone.l0 k1 l0_1 (l0_1.length : Int) (wrap64 (x20_1 + 1)) y104 (x104001_1 ++ [(⟨(rd_T101 l0_1 x20_1).f0, y109⟩ : S101)]) a0_2 a0_3) else (none)) = some (r1, r2, r3, r4) := by first | (rw [hy109]; with_reducible exact H) | (have H2_ := (Option.bind_some _ _).symm.trans H; rw [hy109]; with_reducible exact H2_) | (have H2_ := (Option.bind_some _ _).symm.trans H; with_reducible exact H2_) | with_reducible exact H | (rw [hy109]; exact H) | exact H
                have Ny109 := Aside0.mk hy109
                clear hy109
                by_cases c20 : x104001_1.length < 4398046511104
                · rw [if_pos c20] at H
                  have LMc20 := Aside0.mk c20
                  clear c20
                  obtain ⟨y112, hy112⟩ : ∃ y_ : List (S101), y_ = (x104001_1 ++ [(⟨(rd_T101 l0_1 x20_1).f0, y109⟩ : S101)]) := ⟨_, rfl⟩
                  replace H : (impl_Dev_clone.l0 k1 l0_1 (l0_1.length : Int) (wrap64 (x20_1 + 1)) y104 y112 a0_2 a0_3) = some (r1, r2, r3, r4) := by first | (rw [hy112]; with_reducible exact H) | (have H2_ := (Option.bind_some _ _).symm.trans H; rw [hy112]; with_reducible exact H2_) | (have H2_ := (Option.bind_some _ _).symm.trans H; with_reducible exact H2_) | with_reducible exact H | (rw [hy112]; exact H) | exact H
                  have Ny112 := Aside0.mk hy112
                  clear hy112
                  have H' := Aside0.mk H
                  clear H
                  have p107 : 0 ≤ (x20_1 : Int) := of_decide_eq_true (by first | (with_reducible assumption) | assumption)
                  have q107 : x20_1 < (l0_1.length : Int) := of_decide_eq_true (by first | (with_reducible assumption) | assumption)
                  obtain ⟨ad107, A107_1, c107_1, e107, hx107_0, hx107_1, hl107_1, hi107_1⟩ := at_T101 HR0_1.out x20_1 p107 q107
                  cases e107
                  replace hx107_0 := (HB.out.cell (World.block_lt_of_cell? w _ hx107_0)).trans hx107_0
                  replace hx107_1 := (HB.out.cell (World.block_lt_of_cell? w _ hx107_1)).trans hx107_1
                  have HR107_1 := Aside0.mk hi107_1
                  have HC107_1 := Aside0.mk hl107_1
                  clear hi107_1 hl107_1
                  replace p107 := eq_true p107
                  replace q107 := eq_true q107
                  try go_wp2_with (first | ((with_reducible refine gate_dst (N := 5) rfl ?_); refine box_event ?hg (N := 5) ?hd (cs := #[.int .i64 0, .slice none 0 0]) (t := 101) ?hr ?_; (case hd => rfl); (case hg => rfl); (case hr => first | (go_simp; done) | (go_simp; rfl)); intro gb108 hg w21 hbox hb; have n0_ := Aside0.mk (Kd.R_below (by (with_reducible repeat (first | apply Kd.R_alloc | apply Kd.R_drewN | apply Kd.R_drew)); exact HO_104000.out) hb); have n1_ := Aside0.mk (Kd.S_below (Kd.S_elderB (by (with_reducible repeat (first | apply Kd.S_alloc | apply Kd.S_drewN | apply Kd.S_drew)); exact HO_104001.out) gb108 (Nat.le_of_eq hg.symm)) hb); have n2_ := Aside0.mk (blk_below (g := gb101) (o := .cells #[.slice A0_0 l0_0.length c0_0, .slice (some ad107) l0_1.length c0_1, .int .i64 a0_2, .bool a0_3] 35 (0, 0)) (by (with_reducible repeat (first | refine blk_drewN ?_ _ | refine blk_drew ?_ | refine blk_alloc ?_ _)); exact BK101.out) hb); have n3_ := Aside0.mk (blk_below (g := gb102) (o := .cells #[.slice none 0 0, .slice none 0 0, .int .i64 0, .bool false] 35 (0, 0)) (by (with_reducible repeat (first | refine blk_drewN ?_ _ | refine blk_drew ?_ | refine blk_alloc ?_ _)); exact BK102.out) hb); have n4_ := Aside0.mk (blk_below (g := gb103) (o := .cells #[.slice Ao13 y104.length co13, u104001, .int .i64 a0_2, .bool a0_3] 35 (0, 0)) (by (with_reducible repeat (first | refine blk_drewN ?_ _ | refine blk_drew ?_ | refine blk_alloc ?_ _)); exact BK103.out) hb); have n5_ := Aside0.mk (below_step (by repeat (first | (with_reducible first | exact HB.out | apply below_alloc | apply pw_below_drewN | apply below_drew1 | refine below_set ?_ GE101.out | refine below_set ?_ GE102.out | refine below_set ?_ GE103.out) | exact HB.out)) hb); have n6_ := Aside0.mk (hbox); have n7_ := Aside0.mk ((by rw [hg]; exact (below_size (by repeat (first | (with_reducible first | exact HB.out | apply below_alloc | apply pw_below_drewN | apply below_drew1 | refine below_set ?_ GE101.out | refine below_set ?_ GE102.out | refine below_set ?_ GE103.out) | exact HB.out))) : w.heap.size ≤ gb108)); have n8_ := Aside0.mk ((by rw [hg]; exact (below_size (by repeat (first | (with_reducible first | exact HB.out | apply below_alloc | apply pw_below_drewN | apply below_drew1 | refine below_set ?_ GE101.out | refine below_set ?_ GE102.out | refine below_set ?_ GE103.out) | exact HB.out))) : w.heap.size ≤ gb108)); have n9_ := Aside0.mk ((by rw [hg]; exact Nat.ne_of_lt (blk_lt (g := gb101) (o := .cells #[.slice A0_0 l0_0.length c0_0, .slice (some ad107) l0_1.length c0_1, .int .i64 a0_2, .bool a0_3] 35 (0, 0)) (by (with_reducible repeat (first | refine blk_drewN ?_ _ | refine blk_drew ?_ | refine blk_alloc ?_ _)); exact BK101.out)) : gb101 ≠ gb108)); have n10_ := Aside0.mk ((by rw [hg]; exact Nat.ne_of_gt (blk_lt (g := gb101) (o := .cells #[.slice A0_0 l0_0.length c0_0, .slice (some ad107) l0_1.length c0_1, .int .i64 a0_2, .bool a0_3] 35 (0, 0)) (by (with_reducible repeat (first | refine blk_drewN ?_ _ | refine blk_drew ?_ | refine blk_alloc ?_ _)); exact BK101.out)) : gb108 ≠ gb101)); have n11_ := Aside0.mk ((by rw [hg]; exact Nat.ne_of_lt (blk_lt (g := gb102) (o := .cells #[.slice none 0 0, .slice none 0 0, .int .i64 0, .bool false] 35 (0, 0)) (by (with_reducible repeat (first | refine blk_drewN ?_ _ | refine blk_drew ?_ | refine blk_alloc ?_ _)); exact BK102.out)) : gb102 ≠ gb108)); have n12_ := Aside0.mk ((by rw [hg]; exact Nat.ne_of_gt (blk_lt (g := gb102) (o := .cells #[.slice none 0 0, .slice none 0 0, .int .i64 0, .bool false] 35 (0, 0)) (by (with_reducible repeat (first | refine blk_drewN ?_ _ | refine blk_drew ?_ | refine blk_alloc ?_ _)); exact BK102.out)) : gb108 ≠ gb102)); have n13_ := Aside0.mk ((by rw [hg]; exact Nat.ne_of_lt (blk_lt (g := gb103) (o := .cells #[.slice Ao13 y104.length co13, u104001, .int .i64 a0_2, .bool a0_3] 35 (0, 0)) (by (with_reducible repeat (first | refine blk_drewN ?_ _ | refine blk_drew ?_ | refine blk_alloc ?_ _)); exact BK103.out)) : gb103 ≠ gb108)); have n14_ := Aside0.mk ((by rw [hg]; exact Nat.ne_of_gt (blk_lt (g := gb103) (o := .cells #[.slice Ao13 y104.length co13, u104001, .int .i64 a0_2, .bool a0_3] 35 (0, 0)) (by (with_reducible repeat (first | refine blk_drewN ?_ _ | refine blk_drew ?_ | refine blk_alloc ?_ _)); exact BK103.out)) : gb108 ≠ gb103)); clear HO_104000; clear HO_104001; clear BK101; clear BK102; clear BK103; clear HB; have HO_104000 := n0_; have HO_104001 := n1_; have BK101 := n2_; have BK102 := n3_; have BK103 := n4_; have HB := n5_; have BK108 := n6_; have GW108 := n7_; have GE108 := n8_; have NB101_108 := n9_; have NB108_101 := n10_; have NB102_108 := n11_; have NB108_102 := n12_; have NB103_108 := n13_; have NB108_103 := n14_; clear n0_ n1_ n2_ n3_ n4_ n5_ n6_ n7_ n8_ n9_ n10_ n11_ n12_ n13_ n14_; clear hb hbox hg; have hnb22 := NB108_101.out; have hnc22 := NB101_108.out; have hnb23 := NB108_102.out; have hnc23 := NB102_108.out; have hnb24 := NB108_103.out; have hnc24 := NB103_108.out; have hcz25_0 : w21.cell? ⟨gb108, 0, none⟩ = some (.int .i64 0) := (blk_cell BK108.out 0).trans rfl; have hcz25_1 : w21.cell? ⟨gb108, 1, none⟩ = some (.slice none 0 0) := (blk_cell BK108.out 1).trans rfl; have hfz25_0 := blk_frozen BK108.out 0; have hfz25_1 := blk_frozen BK108.out 1))
                  have n0_ : Aside0 (Kd.R (Kd.int .u8) 5 ((w21.setCell ⟨gb108, 0, none⟩ (.int .i64 ((rd_T101 l0_1 x20_1).f0))).setCell ⟨gb108, 1, none⟩ (.slice A107_1 ((rd_T101 l0_1 x20_1).f1).length c107_1)) w.heap.size (fun _ => True) (.slice Ao13 y104.length co13) y104) := ⟨by (with_reducible repeat (first | apply Kd.R_alloc | apply Kd.R_drewN | apply Kd.R_drew)); exact Kd.R_mono (Kd.R_far (p := ⟨gb108, 1, none⟩) (Kd.R_far (p := ⟨gb108, 0, none⟩) (Kd.R_types HO_104000.out BK108.out (by decide)) (fun _ hk => hk.2) (.int .i64 ((rd_T101 l0_1 x20_1).f0))) (fun _ hk => hk.2) (.slice A107_1 ((rd_T101 l0_1 x20_1).f1).length c107_1)) (fun _ hk => trivial)⟩
                  have n1_ : Aside0 (Kd.S k101 101 ((w21.setCell ⟨gb108, 0, none⟩ (.int .i64 ((rd_T101 l0_1 x20_1).f0))).setCell ⟨gb108, 1, none⟩ (.slice A107_1 ((rd_T101 l0_1 x20_1).f1).length c107_1)) w.heap.size (fun k_ => some k_ ≠ (.slice Ao13 y104.length co13 : Value).ownBlock ∧ k_ ≠ gb108) u104001 x104001_1) := ⟨by (with_reducible repeat (first | apply Kd.S_alloc | apply Kd.S_drewN | apply Kd.S_drew)); exact Kd.S_mono (Kd.S_far (p := ⟨gb108, 1, none⟩) (Kd.S_far (p := ⟨gb108, 0, none⟩) (Kd.S_mono HO_104001.out (fun k_ hk => (⟨hk, hk.2⟩ : _ ∧ k_ ≠ gb108))) (fun _ hk => hk.2) (.int .i64 ((rd_T101 l0_1 x20_1).f0))) (fun _ hk => hk.2) (.slice A107_1 ((rd_T101 l0_1 x20_1).f1).length c107_1)) (fun _ hk => ⟨hk.1.1, hk.1.2⟩)⟩
                  have n2_ : Aside0 (((w21.setCell ⟨gb108, 0, none⟩ (.int .i64 ((rd_T101 l0_1 x20_1).f0))).setCell ⟨gb108, 1, none⟩ (.slice A107_1 ((rd_T101 l0_1 x20_1).f1).length c107_1)).heap[gb101]? = some (.cells #[.slice A0_0 l0_0.length c0_0, .slice (some ad107) l0_1.length c0_1, .int .i64 a0_2, .bool a0_3] 35 (0, 0))) := ⟨by (with_reducible repeat (first | refine blk_drewN ?_ _ | refine blk_drew ?_ | refine blk_alloc ?_ _)); refine blk_far ?_ NB101_108.out _; (with_reducible repeat (first | refine blk_drewN ?_ _ | refine blk_drew ?_ | refine blk_alloc ?_ _)); refine blk_far ?_ NB101_108.out _; (with_reducible repeat (first | refine blk_drewN ?_ _ | refine blk_drew ?_ | refine blk_alloc ?_ _)); exact BK101.out⟩
                  have n3_ : Aside0 (((w21.setCell ⟨gb108, 0, none⟩ (.int .i64 ((rd_T101 l0_1 x20_1).f0))).setCell ⟨gb108, 1, none⟩ (.slice A107_1 ((rd_T101 l0_1 x20_1).f1).length c107_1)).heap[gb102]? = some (.cells #[.slice none 0 0, .slice none 0 0, .int .i64 0, .bool false] 35 (0, 0))) := ⟨by (with_reducible repeat (first | refine blk_drewN ?_ _ | refine blk_drew ?_ | refine blk_alloc ?_ _)); refine blk_far ?_ NB102_108.out _; (with_reducible repeat (first | refine blk_drewN ?_ _ | refine blk_drew ?_ | refine blk_alloc ?_ _)); refine blk_far ?_ NB102_108.out _; (with_reducible repeat (first | refine blk_drewN ?_ _ | refine blk_drew ?_ | refine blk_alloc ?_ _)); exact BK102.out⟩
                  have n4_ : Aside0 (((w21.setCell ⟨gb108, 0, none⟩ (.int .i64 ((rd_T101 l0_1 x20_1).f0))).setCell ⟨gb108, 1, none⟩ (.slice A107_1 ((rd_T101 l0_1 x20_1).f1).length c107_1)).heap[gb103]? = some (.cells #[.slice Ao13 y104.length co13, u104001, .int .i64 a0_2, .bool a0_3] 35 (0, 0))) := ⟨by (with_reducible repeat (first | refine blk_drewN ?_ _ | refine blk_drew ?_ | refine blk_alloc ?_ _)); refine blk_far ?_ NB103_108.out _; (with_reducible repeat (first | refine blk_drewN ?_ _ | refine blk_drew ?_ | refine blk_alloc ?_ _)); refine blk_far ?_ NB103_108.out _; (with_reducible repeat (first | refine blk_drewN ?_ _ | refine blk_drew ?_ | refine blk_alloc ?_ _)); exact BK103.out⟩
                  have n5_ : Aside0 (((w21.setCell ⟨gb108, 0, none⟩ (.int .i64 ((rd_T101 l0_1 x20_1).f0))).setCell ⟨gb108, 1, none⟩ (.slice A107_1 ((rd_T101 l0_1 x20_1).f1).length c107_1)).heap[gb108]? = some (.cells #[.int .i64 ((rd_T101 l0_1 x20_1).f0), .slice A107_1 ((rd_T101 l0_1 x20_1).f1).length c107_1] 101 (0, 0))) := ⟨by (with_reducible repeat (first | refine blk_drewN ?_ _ | refine blk_drew ?_ | refine blk_alloc ?_ _)); refine blk_put (cs := #[.int .i64 ((rd_T101 l0_1 x20_1).f0), .slice none 0 0]) ?_ 1 _ rfl; (with_reducible repeat (first | refine blk_drewN ?_ _ | refine blk_drew ?_ | refine blk_alloc ?_ _)); refine blk_put (cs := #[.int .i64 0, .slice none 0 0]) ?_ 0 _ rfl; (with_reducible repeat (first | refine blk_drewN ?_ _ | refine blk_drew ?_ | refine blk_alloc ?_ _)); exact BK108.out⟩
                  have n6_ : Aside0 (Below w.heap.size w ((w21.setCell ⟨gb108, 0, none⟩ (.int .i64 ((rd_T101 l0_1 x20_1).f0))).setCell ⟨gb108, 1, none⟩ (.slice A107_1 ((rd_T101 l0_1 x20_1).f1).length c107_1))) := ⟨by repeat (first | (with_reducible first | exact HB.out | apply below_alloc | apply pw_below_drewN | apply below_drew1 | refine below_set ?_ GE101.out | refine below_set ?_ GE102.out | refine below_set ?_ GE103.out | refine below_set ?_ GE108.out) | exact HB.out)⟩
                  (try clear HO_104000)
                  (try clear HO_104001)
                  (try clear BK101)
                  (try clear BK102)
                  (try clear BK103)
                  (try clear BK108)
                  (try clear HB)
                  generalize ((w21.setCell ⟨gb108, 0, none⟩ (.int .i64 ((rd_T101 l0_1 x20_1).f0))).setCell ⟨gb108, 1, none⟩ (.slice A107_1 ((rd_T101 l0_1 x20_1).f1).length c107_1)) = w26 at n0_ n1_ n2_ n3_ n4_ n5_ n6_ ⊢
                  have HO_104000 := n0_
                  have HO_104001 := n1_
                  have BK101 := n2_
                  have BK102 := n3_
                  have BK103 := n4_
                  have BK108 := n5_
                  have HB := n6_
                  clear n0_ n1_ n2_ n3_ n4_ n5_ n6_
                  have n0_ := Aside0.mk (Kd.R_drew HO_104000.out)
                  have n1_ := Aside0.mk (Kd.S_drew HO_104001.out)
                  have n2_ := Aside0.mk (blk_drew BK101.out)
                  have n3_ := Aside0.mk (blk_drew BK102.out)
                  have n4_ := Aside0.mk (blk_drew BK103.out)
                  have n5_ := Aside0.mk (blk_drew BK108.out)
                  have n6_ := Aside0.mk (below_drew1 HB.out)
                  clear HO_104000
                  clear HO_104001
                  clear BK101
                  clear BK102
                  clear BK103
                  clear BK108
                  clear HB
                  have HO_104000 := n0_
                  have HO_104001 := n1_
                  have BK101 := n2_
                  have BK102 := n3_
                  have BK103 := n4_
                  have BK108 := n5_
                  have HB := n6_
                  clear n0_ n1_ n2_ n3_ n4_ n5_ n6_
                  refine start_ (n := 12) (S := fun w' => w'.cell? ⟨gb103, 0, none⟩ = some (.slice Ao13 y104.length co13) ∧ w'.cell? ⟨gb103, 1, none⟩ = some (u104001) ∧ w'.cell? ⟨gb103, 2, none⟩ = some (.int .i64 a0_2) ∧ w'.cell? ⟨gb103, 3, none⟩ = some (.bool a0_3) ∧ w'.cell? ⟨gb108, 0, none⟩ = some (.int .i64 ((rd_T101 l0_1 x20_1).f0)) ∧ w'.cell? ⟨gb108, 1, none⟩ = some (.slice A107_1 ((rd_T101 l0_1 x20_1).f1).length c107_1)) (ds := [11]) #[false, false, false, false, false, false, false, false, false, false, false, false] (by kernel_rfl) rfl rfl ⟨(blk_cell BK103.out 0).trans rfl, (blk_cell BK103.out 1).trans rfl, (blk_cell BK103.out 2).trans rfl, (blk_cell BK103.out 3).trans rfl, (blk_cell BK108.out 0).trans rfl, (blk_cell BK108.out 1).trans rfl⟩ (fun hHeld => ?_); refine with_tabW impl_Dev_clone.tab6 impl_Dev_clone.bits6 (fun HT_ HW_ => ?_)
                  generalize w26.drew = w27 at HO_104000 HO_104001 BK101 BK102 BK103 BK108 HB hHeld ⊢
                  refine pure_ (i := 0) (N := some 24) (v := ?_) (a' := ?_) #[true, false, false, false, false, false, false, false, false, false, false, false] rfl rfl (any_of HT_.out (by kernel_rfl)) (fun _ _ _ h => h) (Or.inl ⟨by rfl, ?_⟩) ?_ ?_
                  rotate_left
                  · intro w'
                    go_simp
                    with_reducible rfl
                  rotate_left
                  · simp only [Act.put, List.setIfInBounds_toArray, List.set_cons_zero, List.set_cons_succ, i64_w, i32_w]
                    rfl
                  refine pure_ (i := 2) (N := some 26) (v := ?_) (a' := ?_) #[true, false, true, false, false, false, false, false, false, false, false, false] rfl rfl (any_of HT_.out (by kernel_rfl)) (fun _ _ _ h => h) (Or.inl ⟨by rfl, ?_⟩) ?_ ?_
                  rotate_left
                  · intro w'
                    go_simp
                    with_reducible rfl
                  rotate_left
                  · simp only [Act.put, List.setIfInBounds_toArray, List.set_cons_zero, List.set_cons_succ, i64_w, i32_w]
                    rfl
                  refine pure_ (i := 4) (N := some 28) (v := ?_) (a' := ?_) #[true, false, true, false, true, false, false, false, false, false, false, false] rfl rfl (any_of HT_.out (by kernel_rfl)) (fun _ _ _ h => h) (Or.inl ⟨by rfl, ?_⟩) ?_ ?_
                  rotate_left
                  · intro w'
                    go_simp
                    with_reducible rfl
                  rotate_left
                  · simp only [Act.put, List.setIfInBounds_toArray, List.set_cons_zero, List.set_cons_succ, i64_w, i32_w]
                    rfl
                  refine take_ (i := 1) (N := some 25) (v := ?_) (a' := ?_) #[true, true, true, false, true, false, false, false, false, false, false, false] rfl rfl (take_ofW HT_.out HW_.out (by kernel_rfl)) (fun _ _ _ h => h) (Or.inl ⟨by rfl, ?_⟩) hHeld ?_ ?_
                  rotate_left
                  · rintro w' ⟨s0, s1, s2, s3, s4, s5⟩
                    go_simp
                    with_reducible rfl
                  rotate_left
                  · simp only [Act.put, List.setIfInBounds_toArray, List.set_cons_zero, List.set_cons_succ, i64_w, i32_w]
                    rfl
                  refine take_ (i := 3) (N := some 27) (v := ?_) (a' := ?_) #[true, true, true, true, true, false, false, false, false, false, false, false] rfl rfl (take_ofW HT_.out HW_.out (by kernel_rfl)) (fun _ _ _ h => h) (Or.inl ⟨by rfl, ?_⟩) hHeld ?_ ?_
                  rotate_left
                  · rintro w' ⟨s0, s1, s2, s3, s4, s5⟩
                    go_simp
                    with_reducible rfl
                  rotate_left
                  · simp only [Act.put, List.setIfInBounds_toArray, List.set_cons_zero, List.set_cons_succ, i64_w, i32_w]
                    rfl
                  refine take_ (i := 5) (N := some 29) (v := ?_) (a' := ?_) #[true, true, true, true, true, true, false, false, false, false, false, false] rfl rfl (take_ofW HT_.out HW_.out (by kernel_rfl)) (fun _ _ _ h => h) (Or.inl ⟨by rfl, ?_⟩) hHeld ?_ ?_
                  rotate_left
                  · rintro w' ⟨s0, s1, s2, s3, s4, s5⟩
                    go_simp
                    with_reducible rfl
                  rotate_left
                  · simp only [Act.put, List.setIfInBounds_toArray, List.set_cons_zero, List.set_cons_succ, i64_w, i32_w]
                    rfl
                  refine one_ (i := 6) (N := some 30) #[true, true, true, true, true, true, true, false, false, false, false, false] rfl rfl (one_of HT_.out (by kernel_rfl)) (by decide) (fun K hK => ?_)
                  refine Kd.R_append_rows_step (Kd.int .u8) (w0 := w) w.heap.size (by rfl) (.const (.slice none 0 0)) (.tmp 29) 23 5 (.int .u8 0) 1 rfl Try.underlying23 info5 rfl (by decide) (by omega) (.slice none 0 0) ([] : List Int) ((rd_T101 l0_1 x20_1).f1) _ _ _ (fun k_ => some k_ ≠ (.slice Ao13 y104.length co13 : Value).ownBlock) (fun _ => False) rfl rfl ?aO ?aR (fun _ _ h => h) (fun _ h => h.elim) ?aF ?aB ?aS ?aL ?_
                  (case aR => repeat (first | exact (Kd.C_below HR107_1.out HB.out) | (with_reducible refine Kd.C_alloc ?_ _) | (with_reducible refine Kd.C_drewN ?_ _) | (with_reducible refine Kd.C_drew ?_)))
                  (case aB => exact (by repeat (first | (with_reducible first | exact HB.out | apply below_alloc | apply pw_below_drewN | apply below_drew1 | refine below_set ?_ GE101.out | refine below_set ?_ GE102.out | refine below_set ?_ GE103.out | refine below_set ?_ GE108.out) | exact HB.out)))
                  (case aF => exact (fun k_ hk => Kd.fresh' (Kd.R_lt (by (with_reducible repeat (first | apply Kd.R_alloc | apply Kd.R_drewN | apply Kd.R_drew)); exact HO_104000.out)) k_ hk))
                  (case aO => exact ((Kd.R_nil _ _ _ _ (fun k_ => some k_ ≠ (.slice Ao13 y104.length co13 : Value).ownBlock))))
                  (case aS => exact (below_size (by repeat (first | (with_reducible first | exact HB.out | apply below_alloc | apply pw_below_drewN | apply below_drew1 | refine below_set ?_ GE101.out | refine below_set ?_ GE102.out | refine below_set ?_ GE103.out | refine below_set ?_ GE108.out) | exact HB.out))))
                  (case aL => have := LMc19.out; omega)
                  intro v110 w28 ho hb hg hat
                  rw [← Ny109.out] at ho
                  have n0_ := Aside0.mk (Kd.R_after (Kd.R_apart_nil (by (with_reducible repeat (first | apply Kd.R_alloc | apply Kd.R_drewN | apply Kd.R_drew)); exact HO_104000.out)) hg hat)
                  have n1_ := Aside0.mk (Kd.S_after (Kd.S_apart_nil (by (with_reducible repeat (first | apply Kd.S_alloc | apply Kd.S_drewN | apply Kd.S_drew)); exact HO_104001.out)) hg hat)
                  have n2_ := Aside0.mk (blk_grown (g := gb101) (o := .cells #[.slice A0_0 l0_0.length c0_0, .slice (some ad107) l0_1.length c0_1, .int .i64 a0_2, .bool a0_3] 35 (0, 0)) (by (with_reducible repeat (first | refine blk_drewN ?_ _ | refine blk_drew ?_ | refine blk_alloc ?_ _)); exact BK101.out) hg (by simp [Value.ownBlock]))
                  have n3_ := Aside0.mk (blk_grown (g := gb102) (o := .cells #[.slice none 0 0, .slice none 0 0, .int .i64 0, .bool false] 35 (0, 0)) (by (with_reducible repeat (first | refine blk_drewN ?_ _ | refine blk_drew ?_ | refine blk_alloc ?_ _)); exact BK102.out) hg (by simp [Value.ownBlock]))
                  have n4_ := Aside0.mk (blk_grown (g := gb103) (o := .cells #[.slice Ao13 y104.length co13, u104001, .int .i64 a0_2, .bool a0_3] 35 (0, 0)) (by (with_reducible repeat (first | refine blk_drewN ?_ _ | refine blk_drew ?_ | refine blk_alloc ?_ _)); exact BK103.out) hg (by simp [Value.ownBlock]))
                  have n5_ := Aside0.mk (blk_grown (g := gb108) (o := .cells #[.int .i64 ((rd_T101 l0_1 x20_1).f0), .slice A107_1 ((rd_T101 l0_1 x20_1).f1).length c107_1] 101 (0, 0)) (by (with_reducible repeat (first | refine blk_drewN ?_ _ | refine blk_drew ?_ | refine blk_alloc ?_ _)); exact BK108.out) hg (by simp [Value.ownBlock]))
                  have n6_ := Aside0.mk (hb)
                  have n7_ := Aside0.mk (ho)
                  clear HO_104000
                  clear HO_104001
                  clear BK101
                  clear BK102
                  clear BK103
                  clear BK108
                  clear HB
                  have HO_104000 := n0_
                  have HO_104001 := n1_
                  have BK101 := n2_
                  have BK102 := n3_
                  have BK103 := n4_
                  have BK108 := n5_
                  have HB := n6_
                  have HO111 := n7_
                  clear n0_ n1_ n2_ n3_ n4_ n5_ n6_ n7_
                  clear ho hb hg hat
                  obtain ⟨Ao29, co29, eo29⟩ := Kd.R_slice HO111.out
                  (first | subst eo29 | (injection eo29 with f1_ f2_ f3_; have f4_ := f1_.symm; have f5_ := f3_.symm; clear f1_ f2_ f3_; subst f4_; subst f5_))
                  refine hK.out _ _ ⟨(blk_cell BK103.out 0).trans rfl, (blk_cell BK103.out 1).trans rfl, (blk_cell BK103.out 2).trans rfl, (blk_cell BK103.out 3).trans rfl, (blk_cell BK108.out 0).trans rfl, (blk_cell BK108.out 1).trans rfl⟩ (fun hHeld => ?_)
                  clear hK K
                  refine norm_ (a' := ?_) ?_ ?_
                  rotate_left
                  · show Act.put _ (some 30) _ = _
                    simp only [Act.put, List.setIfInBounds_toArray, List.set_cons_zero, List.set_cons_succ, i64_w, i32_w]
                    rfl
                  refine pure_ (i := 7) (N := some 31) (v := ?_) (a' := ?_) #[true, true, true, true, true, true, true, true, false, false, false, false] rfl rfl (any_of HT_.out (by kernel_rfl)) (fun _ _ _ h => h) (Or.inl ⟨by rfl, ?_⟩) ?_ ?_
                  rotate_left
                  · intro w'
                    go_simp
                    with_reducible rfl
                  rotate_left
                  · simp only [Act.put, List.setIfInBounds_toArray, List.set_cons_zero, List.set_cons_succ, i64_w, i32_w]
                    rfl
                  refine one_ (i := 8) (N := some 32) #[true, true, true, true, true, true, true, true, true, false, false, false] rfl rfl (one_of HT_.out (by kernel_rfl)) (by decide) (fun K hK => ?_)
                  refine value_ (w1 := ?_) (v := ?_) (by rfl) rfl ?_ ?_
                  rotate_left 2
                  · go_simp
                    constructor
                    · rfl
                    · rfl
                  refine hK.out _ _ ⟨(blk_cell (blk_alloc BK103.out _) 0).trans rfl, (blk_cell (blk_alloc BK103.out _) 1).trans rfl, (blk_cell (blk_alloc BK103.out _) 2).trans rfl, (blk_cell (blk_alloc BK103.out _) 3).trans rfl, (blk_cell (blk_alloc BK108.out _) 0).trans rfl, (blk_cell (blk_alloc BK108.out _) 1).trans rfl⟩ (fun hHeld => ?_)
                  clear hK K
                  refine norm_ (a' := ?_) ?_ ?_
                  rotate_left
                  · show Act.put _ (some 32) _ = _
                    simp only [Act.put, List.setIfInBounds_toArray, List.set_cons_zero, List.set_cons_succ, i64_w, i32_w]
                    rfl
                  refine one_ (i := 9) (N := some 33) #[true, true, true, true, true, true, true, true, true, true, false, false] rfl rfl (one_of HT_.out (by kernel_rfl)) (by decide) (fun K hK => ?_)
                  refine Kd.S_append_step k101 (w0 := w) w.heap.size (by rfl) (.tmp 25) (.tmp 32) 33 101 (.agg #[(.int .i64 0), (.slice none 0 0)]) 32 rfl Try.underlying33 info101 rfl (by decide) (by omega) u104001 x104001_1 (⟨(rd_T101 l0_1 x20_1).f0, y109⟩ : S101) [.int .i64 ((rd_T101 l0_1 x20_1).f0), .slice Ao29 y109.length co29] (fun k_ => some k_ ≠ (.slice Ao13 y104.length co13 : Value).ownBlock ∧ k_ ≠ gb108) (fun k_ => some k_ = (.slice Ao29 y109.length co29 : Value).ownBlock) rfl rfl ?aP (fun k_ hk_ => ((Kd.R_mono (ok' := fun k_ => ((fun k_ => some k_ ≠ (.slice Ao13 y104.length co13 : Value).ownBlock ∧ k_ ≠ gb108)) k_ ∧ some k_ ≠ (u104001 : Value).ownBlock) (Kd.R_types (Kd.R_apart' (HO111.out) (Kd.S_typed HO_104001.out) (by decide)) BK108.out (by decide)) (fun k_ hk => ⟨⟨hk.1.1, hk.2⟩, hk.1.2⟩))).1 k_ hk_.symm) ?aF ?aO ?aB ?aS ?aL ?_
                  (case aP => exact k101_mkM _ _ _ (⟨(rd_T101 l0_1 x20_1).f0, y109⟩ : S101) (Kd.R_mono (Kd.R_tight rfl (Kd.R_mono (ok' := fun k_ => ((fun k_ => some k_ ≠ (.slice Ao13 y104.length co13 : Value).ownBlock ∧ k_ ≠ gb108)) k_ ∧ some k_ ≠ (u104001 : Value).ownBlock) (Kd.R_types (Kd.R_apart' (HO111.out) (Kd.S_typed HO_104001.out) (by decide)) BK108.out (by decide)) (fun k_ hk => ⟨⟨hk.1.1, hk.2⟩, hk.1.2⟩))) (fun _ h_ => h_)))
                  (case aB => exact (by repeat (first | (with_reducible first | exact HB.out | apply below_alloc | apply pw_below_drewN | apply below_drew1 | refine below_set ?_ GE101.out | refine below_set ?_ GE102.out | refine below_set ?_ GE103.out | refine below_set ?_ GE108.out) | exact HB.out)))
                  (case aF => exact (fun k_ hk => ⟨Kd.fresh' (Kd.R_lt (by (with_reducible repeat (first | apply Kd.R_alloc | apply Kd.R_drewN | apply Kd.R_drew)); exact HO_104000.out)) k_ hk, Kd.freshB (g := gb108) (o := .cells #[.int .i64 ((rd_T101 l0_1 x20_1).f0), .slice A107_1 ((rd_T101 l0_1 x20_1).f1).length c107_1] 101 (0, 0)) (by (with_reducible repeat (first | refine blk_drewN ?_ _ | refine blk_drew ?_ | refine blk_alloc ?_ _)); exact BK108.out) k_ hk⟩))
                  (case aO => exact (by (with_reducible repeat (first | apply Kd.S_alloc | apply Kd.S_drewN | apply Kd.S_drew)); exact Kd.S_mono HO_104001.out (fun k_ hk => ⟨⟨hk.1.1, hk.1.2⟩, fun e_ => hk.2 e_⟩)))
                  (case aS => exact (below_size (by repeat (first | (with_reducible first | exact HB.out | apply below_alloc | apply pw_below_drewN | apply below_drew1 | refine below_set ?_ GE101.out | refine below_set ?_ GE102.out | refine below_set ?_ GE103.out | refine below_set ?_ GE108.out) | exact HB.out))))
                  (case aL => have := LMc20.out; omega)
                  intro v113 w30 ho hb hg hat
                  rw [← Ny112.out] at ho
                  have n0_ := Aside0.mk (Kd.R_over' (by (with_reducible repeat (first | apply Kd.R_alloc | apply Kd.R_drewN | apply Kd.R_drew)); exact HO_104000.out) (Kd.S_typed (by (with_reducible repeat (first | apply Kd.S_alloc | apply Kd.S_drewN | apply Kd.S_drew)); exact HO_104001.out)) (by decide) hg)
                  have n1_ := Aside0.mk (blk_grown (g := gb101) (o := .cells #[.slice A0_0 l0_0.length c0_0, .slice (some ad107) l0_1.length c0_1, .int .i64 a0_2, .bool a0_3] 35 (0, 0)) (by (with_reducible repeat (first | refine blk_drewN ?_ _ | refine blk_drew ?_ | refine blk_alloc ?_ _)); exact BK101.out) hg (Kd.S_ne HO_104001.out BK101.out (by decide)))
                  have n2_ := Aside0.mk (blk_grown (g := gb102) (o := .cells #[.slice none 0 0, .slice none 0 0, .int .i64 0, .bool false] 35 (0, 0)) (by (with_reducible repeat (first | refine blk_drewN ?_ _ | refine blk_drew ?_ | refine blk_alloc ?_ _)); exact BK102.out) hg (Kd.S_ne HO_104001.out BK102.out (by decide)))
                  have n3_ := Aside0.mk (blk_grown (g := gb103) (o := .cells #[.slice Ao13 y104.length co13, u104001, .int .i64 a0_2, .bool a0_3] 35 (0, 0)) (by (with_reducible repeat (first | refine blk_drewN ?_ _ | refine blk_drew ?_ | refine blk_alloc ?_ _)); exact BK103.out) hg (Kd.S_ne HO_104001.out BK103.out (by decide)))
                  have n4_ := Aside0.mk (blk_grown (g := gb108) (o := .cells #[.int .i64 ((rd_T101 l0_1 x20_1).f0), .slice A107_1 ((rd_T101 l0_1 x20_1).f1).length c107_1] 101 (0, 0)) (by (with_reducible repeat (first | refine blk_drewN ?_ _ | refine blk_drew ?_ | refine blk_alloc ?_ _)); exact BK108.out) hg (Kd.S_away HO_104001.out (fun _ hk => hk.1.2)))
                  have n5_ := Aside0.mk (hb)
                  have n6_ := Aside0.mk (ho)
                  clear HO_104000
                  clear BK101
                  clear BK102
                  clear BK103
                  clear BK108
                  clear HB
                  clear HO_104001
                  clear HO111
                  have HO_104000 := n0_
                  have BK101 := n1_
                  have BK102 := n2_
                  have BK103 := n3_
                  have BK108 := n4_
                  have HB := n5_
                  have HO114 := n6_
                  clear n0_ n1_ n2_ n3_ n4_ n5_ n6_
                  clear ho hb hg hat
                  obtain ⟨Ao31, co31, eo31⟩ := Kd.S_slice HO114.out
                  (first | subst eo31 | (injection eo31 with f1_ f2_ f3_; have f4_ := f1_.symm; have f5_ := f3_.symm; clear f1_ f2_ f3_; subst f4_; subst f5_))
                  refine hK.out _ _ ⟨(blk_cell BK103.out 0).trans rfl, (blk_cell BK103.out 1).trans rfl, (blk_cell BK103.out 2).trans rfl, (blk_cell BK103.out 3).trans rfl, (blk_cell BK108.out 0).trans rfl, (blk_cell BK108.out 1).trans rfl⟩ (fun hHeld => ?_)
                  clear hK K
                  refine norm_ (a' := ?_) ?_ ?_
                  rotate_left
                  · show Act.put _ (some 33) _ = _
                    simp only [Act.put, List.setIfInBounds_toArray, List.set_cons_zero, List.set_cons_succ, i64_w, i32_w]
                    rfl
                  refine pure_ (i := 10) (N := some 34) (v := ?_) (a' := ?_) #[true, true, true, true, true, true, true, true, true, true, true, false] rfl rfl (any_of HT_.out (by kernel_rfl)) (fun _ _ _ h => h) (Or.inl ⟨by rfl, ?_⟩) ?_ ?_
                  rotate_left
                  · intro w'
                    go_simp
                    with_reducible rfl
                  rotate_left
                  · simp only [Act.put, List.setIfInBounds_toArray, List.set_cons_zero, List.set_cons_succ, i64_w, i32_w]
                    rfl
                  refine last_ (i := 11) (N := none) #[true, true, true, true, true, true, true, true, true, true, true, true] rfl rfl (one_of HT_.out (by kernel_rfl)) (by decide) (fun K hK => ?_)
                  have hs32 : w30.cell? ⟨gb103, 1, none⟩ = some (u104001) := (blk_cell BK103.out 1).trans rfl
                  have hfs32 := blk_frozen BK103.out 1
                  have hns32_0 := NB101_103.out
                  have hns32_1 := NB102_103.out
                  have hns32_3 := NB108_103.out
                  have hms32_0 := NB103_101.out
                  have hms32_1 := NB103_102.out
                  have hms32_3 := NB103_108.out
                  refine skip_ (w1 := ?_) (by rfl) rfl ?_ ?_
                  rotate_left
                  · go_simp
                    rfl
                  refine hK.out _ _ ?_
                  clear hK K
                  refine done_ (done_of HT_.out (by kernel_rfl)) ?_
                  try go_wp2
                  go_roundg k1
                  case measure => have := HK1.out; omega
                  case rel => exact ⟨(wrap64 (x20_1 + 1)), (y112), (.slice Ao31 y112.length co31), (by first | rfl | (simp; done) | (simp [*]; done)), H', ⟨by have := HK1.out; omega⟩, ⟨by (with_reducible repeat (first | apply Kd.R_alloc | apply Kd.R_drewN | apply Kd.R_drew)); exact Kd.R_mono (Kd.R_far (p := ⟨gb103, 1, none⟩) (Kd.R_types HO_104000.out BK103.out (by decide)) (fun _ hk => hk.2) (.slice Ao31 y112.length co31)) (fun _ hk => trivial)⟩, ⟨by (with_reducible repeat (first | apply Kd.S_alloc | apply Kd.S_drewN | apply Kd.S_drew)); exact Kd.S_mono (Kd.S_far (p := ⟨gb103, 1, none⟩) (Kd.S_types HO114.out BK103.out (by decide)) (fun _ hk => hk.2) (.slice Ao31 y112.length co31)) (fun _ hk => hk.1.1)⟩, ⟨by (with_reducible repeat (first | refine blk_drewN ?_ _ | refine blk_drew ?_ | refine blk_alloc ?_ _)); refine blk_far ?_ NB101_103.out _; (with_reducible repeat (first | refine blk_drewN ?_ _ | refine blk_drew ?_ | refine blk_alloc ?_ _)); exact BK101.out⟩, ⟨by (with_reducible repeat (first | refine blk_drewN ?_ _ | refine blk_drew ?_ | refine blk_alloc ?_ _)); refine blk_far ?_ NB102_103.out _; (with_reducible repeat (first | refine blk_drewN ?_ _ | refine blk_drew ?_ | refine blk_alloc ?_ _)); exact BK102.out⟩, ⟨by (with_reducible repeat (first | refine blk_drewN ?_ _ | refine blk_drew ?_ | refine blk_alloc ?_ _)); refine blk_put (cs := #[.slice Ao13 y104.length co13, u104001, .int .i64 a0_2, .bool a0_3]) ?_ 1 _ rfl; (with_reducible repeat (first | refine blk_drewN ?_ _ | refine blk_drew ?_ | refine blk_alloc ?_ _)); exact BK103.out⟩, ⟨by repeat (first | (with_reducible first | exact HB.out | apply below_alloc | apply pw_below_drewN | apply below_drew1 | refine below_set ?_ GE101.out | refine below_set ?_ GE102.out | refine below_set ?_ GE103.out | refine below_set ?_ GE108.out) | exact HB.out)⟩⟩
                · rw [if_neg c20] at H
                  exact absurd H (by simp)
              · rw [if_neg c19] at H
                exact absurd H (by simp)
            · rw [if_neg c18] at H
              exact absurd H (by simp)
          · rw [if_neg c17] at H
            exact absurd H (by simp)
        · rw [if_neg c16] at H
          have c16b0 : decide (x20_1 < (l0_1.length : Int)) = false := decide_eq_false c16
          clear c16
          simp only [Option.some.injEq, Prod.mk.injEq] at H
          obtain ⟨rfl, rfl, rfl, rfl⟩ := H
          have hnb33 := NB103_101.out
          have hnc33 := NB101_103.out
          have hnb34 := NB103_102.out
          have hnc34 := NB102_103.out
          have hcz35_0 : wr.cell? ⟨gb103, 0, none⟩ = some (.slice Ao13 y104.length co13) := (blk_cell BK103.out 0).trans rfl
          have hcz35_1 : wr.cell? ⟨gb103, 1, none⟩ = some (u104001) := (blk_cell BK103.out 1).trans rfl
          have hcz35_2 : wr.cell? ⟨gb103, 2, none⟩ = some (.int .i64 a0_2) := (blk_cell BK103.out 2).trans rfl
          have hcz35_3 : wr.cell? ⟨gb103, 3, none⟩ = some (.bool a0_3) := (blk_cell BK103.out 3).trans rfl
          have hfz35_0 := blk_frozen BK103.out 0
          have hfz35_1 := blk_frozen BK103.out 1
          have hfz35_2 := blk_frozen BK103.out 2
          have hfz35_3 := blk_frozen BK103.out 3
          have hnb36 := NB102_101.out
          have hnc36 := NB101_102.out
          have hcz37_0 : wr.cell? ⟨gb102, 0, none⟩ = some (.slice none 0 0) := (blk_cell BK102.out 0).trans rfl
          have hcz37_1 : wr.cell? ⟨gb102, 1, none⟩ = some (.slice none 0 0) := (blk_cell BK102.out 1).trans rfl
          have hcz37_2 : wr.cell? ⟨gb102, 2, none⟩ = some (.int .i64 0) := (blk_cell BK102.out 2).trans rfl
          have hcz37_3 : wr.cell? ⟨gb102, 3, none⟩ = some (.bool false) := (blk_cell BK102.out 3).trans rfl
          have hfz37_0 := blk_frozen BK102.out 0
          have hfz37_1 := blk_frozen BK102.out 1
          have hfz37_2 := blk_frozen BK102.out 2
          have hfz37_3 := blk_frozen BK102.out 3
          obtain ⟨Ao38, co38, eo38⟩ := Kd.S_slice HO_104001.out
          subst eo38
          go_wp2
          refine bodyPost_ret (results_cell_row rfl _ _ gb102 35 #[.slice Ao13 y104.length co13, .slice Ao38 x104001_1.length co38, .int .i64 a0_2, .bool a0_3] (0, 0) _ rfl (by (with_reducible repeat (first | refine blk_drewN ?_ _ | refine blk_drew ?_ | refine blk_alloc ?_ _)); refine blk_put (cs := #[.slice Ao13 y104.length co13, .slice Ao38 x104001_1.length co38, .int .i64 a0_2, .bool false]) ?_ 3 _ rfl; (with_reducible repeat (first | refine blk_drewN ?_ _ | refine blk_drew ?_ | refine blk_alloc ?_ _)); refine blk_put (cs := #[.slice Ao13 y104.length co13, .slice Ao38 x104001_1.length co38, .int .i64 0, .bool false]) ?_ 2 _ rfl; (with_reducible repeat (first | refine blk_drewN ?_ _ | refine blk_drew ?_ | refine blk_alloc ?_ _)); refine blk_put (cs := #[.slice Ao13 y104.length co13, .slice none 0 0, .int .i64 0, .bool false]) ?_ 1 _ rfl; (with_reducible repeat (first | refine blk_drewN ?_ _ | refine blk_drew ?_ | refine blk_alloc ?_ _)); refine blk_put (cs := #[.slice none 0 0, .slice none 0 0, .int .i64 0, .bool false]) ?_ 0 _ rfl; (with_reducible repeat (first | refine blk_drewN ?_ _ | refine blk_drew ?_ | refine blk_alloc ?_ _)); exact BK102.out) Try.underlying35 rfl (by kernel_rfl)) rfl ?_
          exact ⟨_, _, by first | rfl | (simp [errW_none, errW_some] <;> rfl) | (simp [*, errW_none, errW_some] <;> rfl), by (with_reducible repeat (first | apply Kd.R_alloc | apply Kd.R_drewN | apply Kd.R_drew)); exact Kd.R_mono (Kd.R_far (p := ⟨gb102, 3, none⟩) (Kd.R_far (p := ⟨gb102, 2, none⟩) (Kd.R_far (p := ⟨gb102, 1, none⟩) (Kd.R_far (p := ⟨gb102, 0, none⟩) (Kd.R_types HO_104000.out BK102.out (by decide)) (fun _ hk => hk.2) (.slice Ao13 y104.length co13)) (fun _ hk => hk.2) (.slice Ao38 x104001_1.length co38)) (fun _ hk => hk.2) (.int .i64 a0_2)) (fun _ hk => hk.2) (.bool a0_3)) (fun _ hk => trivial), by (with_reducible repeat (first | apply Kd.S_alloc | apply Kd.S_drewN | apply Kd.S_drew)); exact Kd.S_mono (Kd.S_far (p := ⟨gb102, 3, none⟩) (Kd.S_far (p := ⟨gb102, 2, none⟩) (Kd.S_far (p := ⟨gb102, 1, none⟩) (Kd.S_far (p := ⟨gb102, 0, none⟩) (Kd.S_types HO_104001.out BK102.out (by decide)) (fun _ hk => hk.2) (.slice Ao13 y104.length co13)) (fun _ hk => hk.2) (.slice Ao38 x104001_1.length co38)) (fun _ hk => hk.2) (.int .i64 a0_2)) (fun _ hk => hk.2) (.bool a0_3)) (fun _ hk => hk.1), by repeat (first | (with_reducible first | exact HB.out | apply below_alloc | apply pw_below_drewN | apply below_drew1 | refine below_set ?_ GE101.out | refine below_set ?_ GE102.out | refine below_set ?_ GE103.out) | exact HB.out)⟩
  · rw [if_neg c2] at H
    exact absurd H (by simp)

end Go.Proofs.Ytbdbeccaopphaaa.Q
namespace Go.Proofs.Ytbdbeccaopphaaa.P
open Go.RowKit Go.Proofs.YtbdbeccaopphaaaW.PrintWords Go.Proofs.Ytbdbeccaopphaaa.Q
set_option linter.unusedVariables false
set_option linter.unusedSimpArgs false
theorem clone_ev (l0 : List Int) (l1 : List S101) (a2 : Int) (a3 : Bool) (h0 : l0.length ≤ 2097152) (h : l1.length ≤ 2097152) (hp : ∀ p ∈ l1, p.f1.length ≤ 2097152) : Ev (fun k => impl_Dev_clone.f k l0 l1 a2 a3) (l0, l1, a2, a3) := by
  have h1 := Ev.loop0 (fun k (s : Int × List S101) => impl_Dev_clone.l0 k l1 (l1.length : Int) s.1 l0 s.2 a2 a3) (fun i => ((i : Int), l1.take i)) l1.length (l0, l1, a2, a3) ?_ ?_
  · simp only [impl_Dev_clone.f, List.length_nil, List.nil_append]
    exact Ev.pos (by omega) h1
  · intro i hi
    obtain ⟨p, hat⟩ := some_at hi
    have hpl := hp p (List.mem_of_getElem? hat)
    have ht : (l1.take i).length = i := by rw [List.length_take]; omega
    refine ⟨0, fun k _ => ?_⟩
    simp only [impl_Dev_clone.l0]
    rw [if_pos (by omega), if_pos (by omega), if_pos (by omega), rdP_at hat, if_pos (by rw [List.length_nil]; omega), if_pos (by omega), w64s hi (by omega), List.take_add_one, hat]
    rfl
  · refine Ev.last ⟨0, fun k _ => ?_⟩
    simp only [impl_Dev_clone.l0]
    rw [if_neg (by omega), List.take_length]
end Go.Proofs.Ytbdbeccaopphaaa.P
namespace Go.Proofs.Ytbdbeccaopphaaa.Q
open Go.RowKit Go.Proofs.YtbdbeccaopphaaaW.PrintWords Go.Proofs.YtbdbeccaopphaaaW.PrintLast Go.Proofs.YtbdbeccaopphaaaW.PrintMore Go.Proofs.Ytbdbeccaopphaaa.LK
set_option linter.unusedVariables false
set_option linter.unusedSimpArgs false
/-- The pends laid over the disk, one behind the other. -/
def syncL (l : List Int) (ps : List S101) : List Int := ps.foldl (fun d p => splice d (p.f0 * 64).toNat p.f1) l
theorem syncL_length : ∀ (ps : List S101) (l : List Int), (∀ p ∈ ps, 0 ≤ p.f0 ∧ p.f0 * 64 + p.f1.length ≤ l.length) → (syncL l ps).length = l.length
  | [], _, _ => rfl
  | p :: ps, l, h => by
    have h1 := h p (List.mem_cons_self ..)
    have e : (splice l (p.f0 * 64).toNat p.f1).length = l.length := length_splice _ _ _ (by omega)
    have h2 := syncL_length ps (splice l (p.f0 * 64).toNat p.f1) (fun q hq => by rw [e]; exact h q (List.mem_cons_of_mem _ hq))
    rw [e] at h2
    exact h2
def canSync (l0 : List Int) (l1 : List S101) (a2 : Int) (a3 : Bool) : Prop := P.validDev l0 l1 a2 = true ∧ a3 = false
instance (l0 : List Int) (l1 : List S101) (a2 : Int) (a3 : Bool) : Decidable (canSync l0 l1 a2 a3) := by unfold canSync; infer_instance
def sizesD (l0 : List Int) (l1 : List S101) : Prop := l0.length ≤ 2097152 ∧ l1.length ≤ 2097152 ∧ (∀ p ∈ l1, p.f1.length ≤ 2097152)
instance (l0 : List Int) (l1 : List S101) : Decidable (sizesD l0 l1) := by unfold sizesD; infer_instance
def devSynced (l0 : List Int) (l1 : List S101) (a2 : Int) (a3 : Bool) : List Int × List S101 × Int × Bool := ((if a2 = 0 then l0 else syncL l0 l1), (if a2 = 0 then l1 else []), fuelOf a2, deadOf a2 a3)
def impl_DevSync.f (l0_0 : List Int) (l0_1 : List S101) (a0_2 : Int) (a0_3 : Bool) : Option (List Int × List S101 × Int × Bool) :=
  if sizesD l0_0 l0_1 then some (if canSync l0_0 l0_1 a0_2 a0_3 then devSynced l0_0 l0_1 a0_2 a0_3 else (l0_0, l0_1, a0_2, a0_3)) else none
set_option maxHeartbeats 8000000 in
set_option maxRecDepth 100000 in
theorem impl_DevSync.calls (A0_0 : Option Addr) (c0_0 : Nat) (l0_0 : List Int) (A0_1 : Option Addr) (c0_1 : Nat) (l0_1 : List S101) (a0_2 : Int) (a0_3 : Bool) (r1 : List Int) (r2 : List S101) (r3 : Int) (r4 : Bool) (w : World)
    (hr0_0 : Kd.C (Kd.int .u8) w A0_0 l0_0.length l0_0) (hc0_0 : l0_0.length ≤ c0_0) (hr0_1 : Kd.C k101 w A0_1 l0_1.length l0_1) (hc0_1 : l0_1.length ≤ c0_1) (h : impl_DevSync.f l0_0 l0_1 a0_2 a0_3 = some (r1, r2, r3, r4)) :
    Calls Try.prog 38 #[.agg #[.slice A0_0 l0_0.length c0_0, .slice A0_1 l0_1.length c0_1, .int .i64 a0_2, .bool a0_3]] w fun e w' => ∃ v0_ v1_ : Value, e = .returned (.agg #[v0_, v1_, .int .i64 r3, .bool r4]) ∧ Kd.R (Kd.int .u8) 5 w' w.heap.size (fun _ => True) v0_ r1 ∧ Kd.S k101 101 w' w.heap.size (fun k_ => some k_ ≠ (v0_ : Value).ownBlock) v1_ r2 ∧ Below w.heap.size w w' := by
  unfold impl_DevSync.f at h
  by_cases hsz : sizesD l0_0 l0_1
  case neg => rw [if_neg hsz] at h; cases h
  rw [if_pos hsz] at h
  have h := Option.some.inj h
  obtain ⟨k, hv⟩ := (P.impl_ValidDev_ev l0_0 l0_1 a0_2 a0_3 (Nat.le_trans hsz.1 (by decide)) (Nat.le_trans hsz.2.1 (by decide)) (fun p hp => Nat.le_trans (hsz.2.2 p hp) (by decide))).ex
  obtain ⟨k2, hcl⟩ := (P.clone_ev l0_0 l0_1 a0_2 a0_3 hsz.1 hsz.2.1 hsz.2.2).ex
  have HV := Aside0.mk hv
  have HCl := Aside0.mk hcl
  have HR0 := Aside0.mk hr0_0
  have HR1 := Aside0.mk hr0_1
  have HC0 := Aside0.mk hc0_0
  have HC1 := Aside0.mk hc0_1
  have H := Aside0.mk h
  have HSz := Aside0.mk hsz
  have H0 := Aside0.mk (Bx.refl w)
  clear hr0_0 hr0_1 hc0_0 hc0_1 hv hcl h hsz
  go_enter Try.func38, Try.ntmps38
  go_wp2_with (first | ((with_reducible refine gate_dst (N := 1) rfl ?_); refine Aside0.out ?_))
  refine Aside0.mk ?_
  refine mk ?hw1 (N := 1) ?hd1 (cs := #[.slice A0_0 l0_0.length c0_0, .slice A0_1 l0_1.length c0_1, .int .i64 a0_2, .bool a0_3]) (t := 35) ?hr1 ?_
  case hd1 => rfl
  case hw1 => rfl
  case hr1 => first | (go_simp; done) | (go_simp; rfl)
  intro g1 hg1_ w101 hb1 hB1
  have H102 := Aside0.mk (H0.out.new hg1_ hb1 hB1)
  clear hg1_ hb1 hB1 H0
  go_wp2_with (first | ((with_reducible refine gate_dst (N := 2) rfl ?_); refine Aside0.out ?_))
  refine Aside0.mk ?_
  refine mk ?hw3 (N := 2) ?hd3 (cs := #[.slice none 0 0, .slice none 0 0, .int .i64 0, .bool false]) (t := 35) ?hr3 ?_
  case hd3 => rfl
  case hw3 => rfl
  case hr3 => first | (go_simp; done) | (go_simp; rfl)
  intro g2 hg2_ w103 hb3 hB3
  have H104 := Aside0.mk (H102.out.new hg2_ hb3 hB3)
  clear hg2_ hb3 hB3 H102
  go_wp2_with (first | ((with_reducible refine gate_dst (N := 6) rfl ?_); refine Aside0.out ?_))
  refine Aside0.mk ?_
  refine ld ?hw5 rfl ?hx5 H104.out.gt1 Try.underlying35 rfl (by kernel_rfl) ?_
  case hw5 => rfl
  case hx5 => rfl
  have HS6 := Aside0.mk H104.out.below.size
  have HG2 := Aside0.mk (show g2 < w103.heap.size from blk_lt H104.out.gt0)
  have HG1 := Aside0.mk (show g1 < w103.heap.size from blk_lt H104.out.gt1)
  go_wp2_with (first | ((with_reducible refine gate_callee (f := 72) rfl ?_); refine Aside0.out ?_))
  refine Aside0.mk ?_
  refine goesW (some 7) rfl ?hw6 Try.func72 (by kernel_rfl) rfl #[.agg #[.slice A0_0 l0_0.length c0_0, .slice A0_1 l0_1.length c0_1, .int .i64 a0_2, .bool a0_3]] rfl (by (try simp only [List.map_toArray, List.map_cons, List.map_nil]); first | done | rfl) ?_
  case hw6 => rfl
  refine (impl_Dev_clone.calls k2 _ _ l0_0 _ _ l0_1 a0_2 a0_3 _ _ _ _ _ (Kd.C_below HR0.out H104.out.below) HC0.out (Kd.C_below HR1.out H104.out.below) HC1.out HCl.out).mono ?_
  rintro e w106 ⟨v0, v1, rfl, hro, hso, hb_⟩
  refine ⟨_, rfl, ?_⟩
  have HB96 := Aside0.mk hb_
  have HO0 := Aside0.mk hro
  have HO1 := Aside0.mk hso
  obtain ⟨B0, d0, eB0⟩ := Kd.R_slice HO0.out
  obtain ⟨B1, d1, eB1⟩ := Kd.S_slice HO1.out
  subst eB0 eB1
  clear hro hso
  have H107 := Aside0.mk (H104.out.step hb_)
  clear hb_ H104
  have HB9 := Aside0.mk (Below.refl w106.heap.size w106)
  go_wp2_with (first | ((with_reducible refine gate_dst (N := 3) rfl ?_); refine Aside0.out ?_))
  refine Aside0.mk ?_
  refine mk ?hw8 (N := 3) ?hd8 (cs := #[.slice none 0 0, .slice none 0 0, .int .i64 0, .bool false]) (t := 35) ?hr8 ?_
  case hd8 => rfl
  case hw8 => rfl
  case hr8 => first | (go_simp; done) | (go_simp; rfl)
  intro g3 hg3_ w108 hb8 hB8
  have H109 := Aside0.mk (H107.out.new hg3_ hb8 hB8)
  have HG3 := Aside0.mk (show w106.heap.size ≤ g3 from Nat.le_of_eq hg3_.symm)
  have n10_ := Aside0.mk (below_step HB9.out hB8)
  clear HB9
  have HB9 := n10_
  clear n10_
  clear hg3_ hb8 hB8 H107
  go_wp2_with (first | ((with_reducible refine gate_store (t := 35) (p := 3) rfl ?_); refine Aside0.out ?_))
  refine Aside0.mk ?_
  refine st_all ?hw11 ?hN11 rfl ?hp11 (cs := #[.slice B0 l0_0.length d0, .slice B1 l0_1.length d1, .int .i64 a0_2, .bool a0_3]) ?hx11 H109.out.gt0 (by kernel_rfl) (rfl) (by simp [Value.oneCell']) ?_
  case hw11 => rfl
  case hN11 => rfl
  case hp11 => rfl
  case hx11 => rfl
  intro w111 hb11 hS11
  have H112 := Aside0.mk (H109.out.wr0 (cs' := #[.slice B0 l0_0.length d0, .slice B1 l0_1.length d1, .int .i64 a0_2, .bool a0_3]) hb11 hS11)
  have n13_ := Aside0.mk (below_stp HB9.out hS11 (fun k_ hk => by have := HG3.out; omega))
  clear HB9
  have HB9 := n13_
  clear n13_
  clear hb11 hS11 H109
  go_wp2_with (first | ((with_reducible refine gate_dst (N := 8) rfl ?_); refine Aside0.out ?_))
  refine Aside0.mk ?_
  refine ld ?hw14 rfl ?hx14 H112.out.gt2 Try.underlying35 rfl (by kernel_rfl) ?_
  case hw14 => rfl
  case hx14 => rfl
  go_wp2_with (first | ((with_reducible refine gate_callee (f := 30) rfl ?_); refine Aside0.out ?_))
  refine Aside0.mk ?_
  refine goesW (some 9) rfl ?hw15 Try.func30 (by kernel_rfl) rfl #[.agg #[.slice A0_0 l0_0.length c0_0, .slice A0_1 l0_1.length c0_1, .int .i64 a0_2, .bool a0_3]] rfl (by (try simp only [List.map_toArray, List.map_cons, List.map_nil]); first | done | rfl) ?_
  case hw15 => rfl
  refine (impl_ValidDev.calls k _ _ l0_0 _ _ l0_1 a0_2 a0_3 _ _ (Kd.C_below HR0.out H112.out.below) HC0.out (Kd.C_below HR1.out H112.out.below) HC1.out HV.out).mono ?_
  rintro e w115 ⟨rfl, hb_⟩
  refine ⟨_, rfl, ?_⟩
  have H116 := Aside0.mk (H112.out.step hb_)
  have n17_ := Aside0.mk (below_step HB9.out hb_)
  clear HB9
  have HB9 := n17_
  clear n17_
  clear hb_ H112
  by_cases hval : P.validDev l0_0 l0_1 a0_2 = true
  case neg =>
    rw [Bool.eq_false_iff.mpr hval]
    go_wp2_with (first | ((with_reducible refine gate_dst (N := 19) rfl ?_); refine Aside0.out ?_))
    refine Aside0.mk ?_
    refine ld ?hw18 rfl ?hx18 H116.out.gt0 Try.underlying35 rfl (by kernel_rfl) ?_
    case hw18 => rfl
    case hx18 => rfl
    go_wp2_with (first | ((with_reducible refine gate_store (t := 35) (p := 2) rfl ?_); refine Aside0.out ?_))
    refine Aside0.mk ?_
    refine st_all ?hwb ?hNb rfl ?hpb (cs := #[.slice B0 l0_0.length d0, .slice B1 l0_1.length d1, .int .i64 a0_2, .bool a0_3]) ?hxb H116.out.gt1 (by kernel_rfl) rfl (by simp [Value.oneCell']) ?_
    case hwb => rfl
    case hNb => rfl
    case hpb => rfl
    case hxb => rfl
    intro wE hbE hSE
    have HE := Aside0.mk (H116.out.wr1 hbE hSE)
    have HER := Aside0.mk (Kd.R_lower (R_away (Kd.R_below HO0.out HB9.out) hSE HG2.out) HS6.out)
    have HES := Aside0.mk (Kd.S_lower (S_away (Kd.S_below HO1.out HB9.out) hSE HG2.out) HS6.out)
    clear hbE hSE H116
    go_wp2
    refine bodyPost_ret (results_cell_row rfl _ _ g2 35 #[.slice B0 l0_0.length d0, .slice B1 l0_1.length d1, .int .i64 a0_2, .bool a0_3] (0, 0) _ rfl HE.out.gt1 Try.underlying35 rfl (by kernel_rfl)) rfl ?_
    have h := H.out
    rw [if_neg (show ¬ canSync l0_0 l0_1 a0_2 a0_3 from fun h => hval h.1)] at h
    cases h
    exact ⟨_, _, rfl, Kd.R_mono HER.out (fun _ _ => trivial), HES.out, HE.out.below⟩
  rw [hval]
  have hd3 : w115.cell? ⟨g3, 3, none⟩ = some (.bool a0_3) := (blk_cell H116.out.gt0 3).trans rfl
  have hd1_ : w115.cell? ⟨g1, 3, none⟩ = some (.bool a0_3) := (blk_cell H116.out.gt2 3).trans rfl
  by_cases hdead : a0_3 = false
  case neg =>
    obtain rfl : a0_3 = true := by simpa using hdead
    clear hdead
    go_wp2_with (first | ((with_reducible refine gate_dst (N := 19) rfl ?_); refine Aside0.out ?_))
    refine Aside0.mk ?_
    refine ld ?hw18 rfl ?hx18 H116.out.gt0 Try.underlying35 rfl (by kernel_rfl) ?_
    case hw18 => rfl
    case hx18 => rfl
    go_wp2_with (first | ((with_reducible refine gate_store (t := 35) (p := 2) rfl ?_); refine Aside0.out ?_))
    refine Aside0.mk ?_
    refine st_all ?hwb ?hNb rfl ?hpb (cs := #[.slice B0 l0_0.length d0, .slice B1 l0_1.length d1, .int .i64 a0_2, .bool true]) ?hxb H116.out.gt1 (by kernel_rfl) rfl (by simp [Value.oneCell']) ?_
    case hwb => rfl
    case hNb => rfl
    case hpb => rfl
    case hxb => rfl
    intro wE hbE hSE
    have HE := Aside0.mk (H116.out.wr1 hbE hSE)
    have HER := Aside0.mk (Kd.R_lower (R_away (Kd.R_below HO0.out HB9.out) hSE HG2.out) HS6.out)
    have HES := Aside0.mk (Kd.S_lower (S_away (Kd.S_below HO1.out HB9.out) hSE HG2.out) HS6.out)
    clear hbE hSE H116
    go_wp2
    refine bodyPost_ret (results_cell_row rfl _ _ g2 35 #[.slice B0 l0_0.length d0, .slice B1 l0_1.length d1, .int .i64 a0_2, .bool true] (0, 0) _ rfl HE.out.gt1 Try.underlying35 rfl (by kernel_rfl)) rfl ?_
    have h := H.out
    rw [if_neg (show ¬ canSync l0_0 l0_1 a0_2 true from fun h => by cases h.2)] at h
    cases h
    exact ⟨_, _, rfl, Kd.R_mono HER.out (fun _ _ => trivial), HES.out, HE.out.below⟩
  subst hdead
  have HVal := Aside0.mk hval
  have h := H.out
  rw [if_pos (show canSync l0_0 l0_1 a0_2 false from ⟨hval, rfl⟩)] at h
  unfold devSynced at h
  have HF := Aside0.mk h
  have hfuel : -1 ≤ a0_2 ∧ a0_2 ≤ 1000000 := by have := (P.validDev_is.1 hval).1; unfold P.headDev at this; omega
  clear h hval
  go_wp2_with (first | ((with_reducible refine gate_callee (f := 73) rfl ?_); refine Aside0.out ?_))
  refine Aside0.mk ?_
  refine goesW (some 16) rfl ?hw18 Try.func73 (by kernel_rfl) rfl #[.pointer (some ⟨g3, 0, none⟩)] rfl (by (try simp only [List.map_toArray, List.map_cons, List.map_nil]); first | done | rfl) ?_
  case hw18 => rfl
  refine (spend_calls H116.out.gt0 hfuel).mono ?_
  rintro e w118 ⟨rfl, hb_, hS_⟩
  refine ⟨_, rfl, ?_⟩
  have H119 := Aside0.mk (H116.out.wr0 (cs' := #[.slice B0 l0_0.length d0, .slice B1 l0_1.length d1, .int .i64 (fuelOf a0_2), .bool (deadOf a0_2 false)]) hb_ hS_)
  have n20_ := Aside0.mk (below_stp HB9.out hS_ (fun k_ hk => by have := HG3.out; omega))
  clear HB9
  have HB9 := n20_
  clear n20_
  clear hb_ hS_ H116
  clear hd3 hd1_ hfuel
  by_cases hz : a0_2 = 0
  case pos =>
    subst hz
    rw [show decide ((0 : Int) ≠ 0) = false from by decide]
    go_wp2_with (first | ((with_reducible refine gate_dst (N := 19) rfl ?_); refine Aside0.out ?_))
    refine Aside0.mk ?_
    refine ld ?hw21 rfl ?hx21 H119.out.gt0 Try.underlying35 rfl (by kernel_rfl) ?_
    case hw21 => rfl
    case hx21 => rfl
    go_wp2_with (first | ((with_reducible refine gate_store (t := 35) (p := 2) rfl ?_); refine Aside0.out ?_))
    refine Aside0.mk ?_
    refine st_all ?hwb ?hNb rfl ?hpb (cs := #[.slice B0 l0_0.length d0, .slice B1 l0_1.length d1, .int .i64 (fuelOf 0), .bool (deadOf 0 false)]) ?hxb H119.out.gt1 (by kernel_rfl) rfl (by simp [Value.oneCell']) ?_
    case hwb => rfl
    case hNb => rfl
    case hpb => rfl
    case hxb => rfl
    intro wE hbE hSE
    have HE := Aside0.mk (H119.out.wr1 hbE hSE)
    have HER := Aside0.mk (Kd.R_lower (R_away (Kd.R_below HO0.out HB9.out) hSE HG2.out) HS6.out)
    have HES := Aside0.mk (Kd.S_lower (S_away (Kd.S_below HO1.out HB9.out) hSE HG2.out) HS6.out)
    clear hbE hSE H119
    go_wp2
    refine bodyPost_ret (results_cell_row rfl _ _ g2 35 #[.slice B0 l0_0.length d0, .slice B1 l0_1.length d1, .int .i64 (fuelOf 0), .bool (deadOf 0 false)] (0, 0) _ rfl HE.out.gt1 Try.underlying35 rfl (by kernel_rfl)) rfl ?_
    have h := H.out
    replace h := HF.out
    rw [if_pos trivial, if_pos trivial] at h
    cases h
    exact ⟨_, _, rfl, Kd.R_mono HER.out (fun _ _ => trivial), HES.out, HE.out.below⟩
  rw [decide_eq_true (show a0_2 ≠ 0 from hz)]
  have h := HF.out
  rw [if_neg hz, if_neg hz] at h
  have HF2 := Aside0.mk h
  clear h HF hz
  have hdv := P.validDev_is.1 HVal.out
  unfold P.headDev at hdv
  have HPs := Aside0.mk hdv.2
  have HHd := Aside0.mk hdv.1
  obtain ⟨B, tl, eA, -, ed, hB1, -, hB2, hB3, hB4⟩ := R_block HO0.out (by have := HHd.out; omega)
  subst eA ed
  clear hdv
  have HBlo := Aside0.mk hB1
  have HBhi := Aside0.mk hB2
  have HBmax := Aside0.mk hB4
  have H121 := Aside0.mk (Bx_add H119.out (B := B) (Nat.le_trans HS6.out hB1) ((HB9.out.block B hB2).trans hB3) (by intro b hb; simp only [List.mem_cons, List.not_mem_nil, or_false] at hb; rcases hb with rfl | rfl | rfl <;> (have := HG3.out; have := HG2.out; have := HG1.out; dsimp only; omega)))
  clear H119 hB1 hB2 hB3 hB4
  have HSS := Aside0.mk (Kd.S_below (Kd.S_mono (ok' := (fun k_ => k_ ≠ B ∧ w103.heap.size ≤ k_ ∧ k_ < w106.heap.size)) (Kd.S_bound HO1.out) (fun k_ hk => ⟨fun he => hk.1 (he ▸ rfl), hk.2.1, hk.2.2.1⟩)) HB9.out)
  have HN9 := Aside0.mk HB9.out.size
  clear HB9
  have hd1 : w118.cell? ⟨g3, 1, none⟩ = some (.slice B1 l0_1.length d1) := (blk_cell H121.out.gt1 1).trans rfl
  go_wp2
  go_loopg [23] (l0_1.length + 1) (fun kq v23 w' => ∃ (i : Nat) (x : Int) (wl : World), v23 = .int .i64 x ∧ Aside0 (wl = w') ∧ Aside0 (x = (i : Int)) ∧ Aside0 (kq + i = l0_1.length + 1) ∧ Aside0 (i ≤ l0_1.length) ∧ Aside0 (Bx w [(B, (bytesV (syncL l0_0 (l0_1.take i)) ++ tl).toArray, 5), (g3, #[.slice (some ⟨B, 0, none⟩) l0_0.length (l0_0.length + tl.length), .slice B1 l0_1.length d1, .int .i64 (fuelOf a0_2), .bool (deadOf a0_2 false)], 35), (g2, #[.slice none 0 0, .slice none 0 0, .int .i64 0, .bool false], 35), (g1, #[.slice A0_0 l0_0.length c0_0, .slice A0_1 l0_1.length c0_1, .int .i64 a0_2, .bool false], 35)] w') ∧ Aside0 (Kd.S k101 101 w' w103.heap.size (fun k_ => k_ ≠ B ∧ w103.heap.size ≤ k_ ∧ k_ < w106.heap.size) (.slice B1 l0_1.length d1) l0_1) ∧ Aside0 (w106.heap.size ≤ w'.heap.size))
  case atStart => exact ⟨0, 0, _, rfl, ⟨rfl⟩, ⟨rfl⟩, ⟨by omega⟩, ⟨Nat.zero_le _⟩, H121, HSS, HN9⟩
  case round =>
    clear H121 HSS HN9 hd1
    obtain ⟨i, x, wl, rfl, hwl, HE, HK, HI, HX, HSS, HN9⟩ := hrel
    obtain ⟨hwl⟩ := hwl
    subst hwl
    have he := HE.out
    cases gk with
    | zero => exact absurd HK.out (by have := HI.out; omega)
    | succ k1 =>
      by_cases c3 : i < l0_1.length
      · have C3 := Aside0.mk c3
        have c3b : decide (x < (l0_1.length : Int)) = true := decide_eq_true (by omega)
        have p5 : (0 ≤ x) = True := eq_true (by omega)
        have q5 : (x < (l0_1.length : Int)) = True := eq_true (by omega)
        have jn : IntKind.i64.wrap (x + 1) = x + 1 := by have := HSz.out.2.1; rw [IntKind.wrap_i64]; omega
        obtain ⟨ad, Ap, cp, eA, hcf0, hcf1, hcp, hCp⟩ := at_T101 (Kd.S_reads' HSS.out).2.2 x (by omega) (by omega)
        subst eA
        have hat : l0_1[i]? = some (rd_T101 l0_1 x) := by rw [he, P.rdP_at (List.getElem?_eq_getElem c3)]; exact List.getElem?_eq_getElem c3
        obtain ⟨p, hp⟩ : ∃ p, p = rd_T101 l0_1 x := ⟨_, rfl⟩
        rw [← hp] at hcf0 hcf1 hcp hCp hat
        have HAt := Aside0.mk hat
        have HCp := Aside0.mk hCp
        have hq := HPs.out p (List.mem_of_getElem? hat)
        have HQ := Aside0.mk hq
        have HHd2 := HHd.out
        have j6 : IntKind.i64.wrap (p.f0 * 64) = p.f0 * 64 := by rw [IntKind.wrap_i64]; omega
        obtain ⟨i5, hi5, _, hsz5, _⟩ := info_parts info5
        have hcut := fun W => cut_block (P := Try.prog) (t := 23) (e := 5) .i64 Try.underlying23 hi5 hsz5 B l0_0.length (l0_0.length + tl.length) (p.f0 * 64) (by omega) (by omega) (by omega) W
        clear c3 hcp hCp hat he hp hq hi5 hsz5 HHd2
        have HLen := Aside0.mk (show (syncL l0_0 (l0_1.take i)).length = l0_0.length from syncL_length _ _ (fun q hq => by have h1 := HPs.out q (List.mem_of_mem_take hq); have h2 := HHd.out; omega))
        have HStep := Aside0.mk (show syncL l0_0 (l0_1.take (i + 1)) = splice (syncL l0_0 (l0_1.take i)) (p.f0 * 64).toNat p.f1 from by unfold syncL; rw [List.take_add_one, HAt.out]; simp only [Option.toList_some, List.foldl_append, List.foldl_cons, List.foldl_nil])
        have HN90 := HN9
        have HBP := Aside0.mk (Below.refl wl.heap.size wl)
        go_wp2_with (first | ((with_reducible refine gate_dst (N := 5) rfl ?_); refine Aside0.out ?_))
        refine Aside0.mk ?_
        refine mk ?hw22 (N := 5) ?hd22 (cs := #[.int .i64 0, .slice none 0 0]) (t := 101) ?hr22 ?_
        case hd22 => rfl
        case hw22 => rfl
        case hr22 => first | (go_simp; done) | (go_simp; rfl)
        intro g5 hg5_ w122 hb22 hB22
        have H123 := Aside0.mk (HX.out.new hg5_ hb22 hB22)
        have HGw := Aside0.mk (show wl.heap.size ≤ g5 from Nat.le_of_eq hg5_.symm)
        have n24_ := Aside0.mk (Kd.S_below HSS.out hB22)
        clear HSS
        have HSS := n24_
        clear n24_
        have n25_ := Aside0.mk (Nat.le_trans HN9.out (Below.size hB22))
        clear HN9
        have HN9 := n25_
        clear n25_
        have n26_ := Aside0.mk (below_step HBP.out hB22)
        clear HBP
        have HBP := n26_
        clear n26_
        clear hg5_ hb22 hB22 HX
        have HG5 := Aside0.mk (Nat.le_trans HN90.out HGw.out)
        clear hcf0 hcf1
        go_wp2_with (first | ((with_reducible refine gate_store (t := 101) (p := 5) rfl ?_); refine Aside0.out ?_))
        refine Aside0.mk ?_
        refine st_all ?hw27 ?hN27 rfl ?hp27 (cs := #[.int .i64 p.f0, .slice Ap p.f1.length cp]) ?hx27 H123.out.gt0 (by kernel_rfl) (rfl) (by simp [Value.oneCell']) ?_
        case hw27 => rfl
        case hN27 => rfl
        case hp27 => rfl
        case hx27 => rfl
        intro w127 hb27 hS27
        have H128 := Aside0.mk (H123.out.wr0 (cs' := #[.int .i64 p.f0, .slice Ap p.f1.length cp]) hb27 hS27)
        have n29_ := Aside0.mk (Kd.S_step HSS.out (fun k_ hk hlt => hS27.block k_ hlt (fun he => by have h1 := hk.1; have h2 := hk.2.1; have h3 := hk.2.2; have := HG1.out; have := HG2.out; have := HG3.out; have := HG5.out; omega)))
        clear HSS
        have HSS := n29_
        clear n29_
        have n30_ := Aside0.mk (Nat.le_trans HN9.out (Stp.size hS27))
        clear HN9
        have HN9 := n30_
        clear n30_
        have n31_ := Aside0.mk (below_stp HBP.out hS27 (fun k_ hk => by have := HGw.out; omega))
        clear HBP
        have HBP := n31_
        clear n31_
        clear hb27 hS27 H123
        try go_wp2
        have H133 := Aside0.mk H128.out.drew
        have n34_ := Aside0.mk (Kd.S_below HSS.out (below_drew1 (Below.refl w127.heap.size w127)))
        clear HSS
        have HSS := n34_
        clear n34_
        have n35_ := Aside0.mk (Nat.le_trans HN9.out (Below.size (below_drew1 (Below.refl w127.heap.size w127))))
        clear HN9
        have HN9 := n35_
        clear n35_
        have n36_ := Aside0.mk (below_step HBP.out (below_drew1 (Below.refl w127.heap.size w127)))
        clear HBP
        have HBP := n36_
        clear n36_
        refine start_ (n := 9) (S := fun w' => w'.cell? ⟨g3, 0, none⟩ = some (.slice (some ⟨B, 0, none⟩) l0_0.length (l0_0.length + tl.length)) ∧ w'.cell? ⟨g5, 0, none⟩ = some (.int .i64 p.f0) ∧ w'.cell? ⟨g5, 1, none⟩ = some (.slice Ap p.f1.length cp)) (ds := [8]) #[false, false, false, false, false, false, false, false, false] (by kernel_rfl) rfl rfl ⟨(blk_cell H133.out.gt2 0).trans rfl, (blk_cell H133.out.gt0 0).trans rfl, (blk_cell H133.out.gt0 1).trans rfl⟩ (fun hHeld => ?_)
        clear H128
        generalize w127.drew = w132 at H133 HSS HN9 HBP hHeld ⊢
        refine pure_ (i := 0) (N := some 27) (v := ?_) (a' := ?_) #[true, false, false, false, false, false, false, false, false] rfl rfl (by kernel_rfl) (fun _ _ _ h => h) (Or.inl ⟨by rfl, ?_⟩) ?_ ?_
        rotate_left
        · intro w'
          go_simp
          with_reducible rfl
        rotate_left
        · simp only [Act.put, List.setIfInBounds_toArray, List.set_cons_zero, List.set_cons_succ, i64_w, i32_w]
          rfl
        refine pure_ (i := 2) (N := some 29) (v := ?_) (a' := ?_) #[true, false, true, false, false, false, false, false, false] rfl rfl (by kernel_rfl) (fun _ _ _ h => h) (Or.inl ⟨by rfl, ?_⟩) ?_ ?_
        rotate_left
        · intro w'
          go_simp
          with_reducible rfl
        rotate_left
        · simp only [Act.put, List.setIfInBounds_toArray, List.set_cons_zero, List.set_cons_succ, i64_w, i32_w]
          rfl
        refine pure_ (i := 6) (N := some 33) (v := ?_) (a' := ?_) #[true, false, true, false, false, false, true, false, false] rfl rfl (by kernel_rfl) (fun _ _ _ h => h) (Or.inl ⟨by rfl, ?_⟩) ?_ ?_
        rotate_left
        · intro w'
          go_simp
          with_reducible rfl
        rotate_left
        · simp only [Act.put, List.setIfInBounds_toArray, List.set_cons_zero, List.set_cons_succ, i64_w, i32_w]
          rfl
        refine take_ (i := 1) (N := some 28) (v := ?_) (a' := ?_) #[true, true, true, false, false, false, true, false, false] rfl rfl (by kernel_rfl) (fun _ _ _ h => h) (Or.inl ⟨by rfl, ?_⟩) hHeld ?_ ?_
        rotate_left
        · rintro w' ⟨s0, s1, s2⟩
          go_simp
          with_reducible rfl
        rotate_left
        · simp only [Act.put, List.setIfInBounds_toArray, List.set_cons_zero, List.set_cons_succ, i64_w, i32_w]
          rfl
        refine take_ (i := 3) (N := some 30) (v := ?_) (a' := ?_) #[true, true, true, true, false, false, true, false, false] rfl rfl (by kernel_rfl) (fun _ _ _ h => h) (Or.inl ⟨by rfl, ?_⟩) hHeld ?_ ?_
        rotate_left
        · rintro w' ⟨s0, s1, s2⟩
          go_simp
          with_reducible rfl
        rotate_left
        · simp only [Act.put, List.setIfInBounds_toArray, List.set_cons_zero, List.set_cons_succ, i64_w, i32_w]
          rfl
        refine take_ (i := 7) (N := some 34) (v := ?_) (a' := ?_) #[true, true, true, true, false, false, true, true, false] rfl rfl (by kernel_rfl) (fun _ _ _ h => h) (Or.inl ⟨by rfl, ?_⟩) hHeld ?_ ?_
        rotate_left
        · rintro w' ⟨s0, s1, s2⟩
          go_simp
          with_reducible rfl
        rotate_left
        · simp only [Act.put, List.setIfInBounds_toArray, List.set_cons_zero, List.set_cons_succ, i64_w, i32_w]
          rfl
        refine pure_ (i := 4) (N := some 31) (v := ?_) (a' := ?_) #[true, true, true, true, true, false, true, true, false] rfl rfl (by kernel_rfl) (fun _ _ _ h => h) (Or.inl ⟨by rfl, ?_⟩) ?_ ?_
        rotate_left
        · intro w'
          go_simp
          with_reducible rfl
        rotate_left
        · simp only [Act.put, List.setIfInBounds_toArray, List.set_cons_zero, List.set_cons_succ, i64_w, i32_w]
          rfl
        refine pure_ (i := 5) (N := some 32) (v := ?_) (a' := ?_) #[true, true, true, true, true, true, true, true, false] rfl rfl (by kernel_rfl) (fun _ _ _ h => h) (Or.inl ⟨by rfl, ?_⟩) ?_ ?_
        rotate_left
        · intro w'
          go_simp
          first | exact hcut w' | with_reducible rfl | rfl
        rotate_left
        · simp only [Act.put, List.setIfInBounds_toArray, List.set_cons_zero, List.set_cons_succ, i64_w, i32_w]
          rfl
        refine last_ (i := 8) (N := some 35) #[true, true, true, true, true, true, true, true, true] rfl rfl (by kernel_rfl) (by decide) (fun K hK => ?_)
        refine copy_step (by rfl) rfl (.tmp 32) (.tmp 34) 23 23 rfl 5 Try.underlying23 (by kernel_rfl) _ _ _ _ p.f1.length cp rfl rfl B (p.f0 * 64).toNat (bytesV (syncL l0_0 (l0_1.take i)) ++ tl) 5 H133.out.gt1 (bytesV p.f1) ?cn ?cp ?cf (bytesV_one _) ?_
        case cn => have h1 := HQ.out; have h2 := HHd.out; rw [bytesV_length]; show _ = min _ _; omega
        case cp =>
          intro hpos
          rw [bytesV_length] at hpos
          obtain ⟨ad2, e2, hc2⟩ := bytes_at (Kd.C_below HCp.out HBP.out) hpos
          exact ⟨rfl, ad2, e2, hc2⟩
        case cf => have h1 := HQ.out; have h2 := HHd.out; have h3 := HLen.out; rw [List.length_append, bytesV_length, bytesV_length, h3]; omega
        intro w137 hb37 hS37
        rw [bytesV_splice _ _ _ _ (by have h1 := HQ.out; have h2 := HHd.out; have h3 := HLen.out; rw [h3]; omega), ← HStep.out] at hb37
        have H138 := Aside0.mk (H133.out.wr1 (cs' := (bytesV (syncL l0_0 (l0_1.take (i + 1))) ++ tl).toArray) hb37 hS37)
        have n39_ := Aside0.mk (Kd.S_step HSS.out (fun k_ hk hlt => hS37.block k_ hlt (fun he => by have h1 := hk.1; have h2 := hk.2.1; have h3 := hk.2.2; have := HG1.out; have := HG2.out; have := HG3.out; omega)))
        clear HSS
        have HSS := n39_
        clear n39_
        have n40_ := Aside0.mk (Nat.le_trans HN9.out (Stp.size hS37))
        clear HN9
        have HN9 := n40_
        clear n40_
        clear hb37 hS37 H133
        refine hK.out _ _ ?_
        clear hK K
        refine done_ (by kernel_rfl) ?_
        have HZ := Aside0.mk H138.out.tail
        clear H138
        go_wp2
        go_roundg k1
        case measure => omega
        case rel => exact ⟨i + 1, x + 1, _, rfl, ⟨rfl⟩, ⟨by rw [HE.out]; rfl⟩, ⟨by have := HK.out; omega⟩, ⟨by have := C3.out; omega⟩, HZ, HSS, HN9⟩
      · have c3b : decide (x < (l0_1.length : Int)) = false := decide_eq_false (by omega)
        have ei : l0_1.take i = l0_1 := List.take_of_length_le (by omega)
        rw [ei] at HX
        go_wp2_with (first | ((with_reducible refine gate_store (t := 33) (p := 37) rfl ?_); refine Aside0.out ?_))
        refine Aside0.mk ?_
        refine st (o' := 1) (u := .slice none 0 0) (seg := [.slice none 0 0]) ?hw22 ?hN22 rfl ?hp22 ?hx22 rfl HX.out.gt1 (by kernel_rfl) ?hf22 (by simp [Value.oneCell']) ?_
        case hw22 => rfl
        case hN22 => rfl
        case hp22 => rfl
        case hx22 => rfl
        case hf22 => show 1 + 1 ≤ 4; omega
        intro w122 hb22 hS22
        have H123 := Aside0.mk (HX.out.wr1 (cs' := #[.slice (some ⟨B, 0, none⟩) l0_0.length (l0_0.length + tl.length), .slice none 0 0, .int .i64 (fuelOf a0_2), .bool (deadOf a0_2 false)]) hb22 hS22)
        clear hb22 hS22 HX
        go_wp2_with (first | ((with_reducible refine gate_dst (N := 38) rfl ?_); refine Aside0.out ?_))
        refine Aside0.mk ?_
        refine ld ?hw24 rfl ?hx24 H123.out.gt1 Try.underlying35 rfl (by kernel_rfl) ?_
        case hw24 => rfl
        case hx24 => rfl
        go_wp2_with (first | ((with_reducible refine gate_store (t := 35) (p := 2) rfl ?_); refine Aside0.out ?_))
        refine Aside0.mk ?_
        refine st_all ?hwb ?hNb rfl ?hpb (cs := #[.slice (some ⟨B, 0, none⟩) l0_0.length (l0_0.length + tl.length), .slice none 0 0, .int .i64 (fuelOf a0_2), .bool (deadOf a0_2 false)]) ?hxb H123.out.gt2 (by kernel_rfl) rfl (by simp [Value.oneCell']) ?_
        case hwb => rfl
        case hNb => rfl
        case hpb => rfl
        case hxb => rfl
        intro wE hbE hSE
        have HEE := Aside0.mk (H123.out.wr2 hbE hSE)
        clear hbE hSE H123
        go_wp2
        refine bodyPost_ret (results_cell_row rfl _ _ g2 35 #[.slice (some ⟨B, 0, none⟩) l0_0.length (l0_0.length + tl.length), .slice none 0 0, .int .i64 (fuelOf a0_2), .bool (deadOf a0_2 false)] (0, 0) _ rfl HEE.out.gt2 Try.underlying35 rfl (by kernel_rfl)) rfl ?_
        have hlen : (syncL l0_0 l0_1).length = l0_0.length := syncL_length _ _ (fun p hp => by have h1 := HPs.out p hp; have h2 := HHd.out; omega)
        have hR := R_of_block HEE.out.gt0 (HEE.out.at_ _ (List.mem_cons_self ..)).1 (by rw [hlen]; exact HBmax.out)
        rw [hlen] at hR
        have h := HF2.out
        cases h
        exact ⟨_, _, rfl, Kd.R_mono hR (fun _ _ => trivial), Kd.S_nil _ _ _ _ _, HEE.out.below⟩
end Go.Proofs.Ytbdbeccaopphaaa.Q
