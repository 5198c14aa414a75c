/- Part 6 of 7 of the proof that the law FnFrame returns true at every input. No further condition. -/
import Derived.Test.YtgfadfahbhcllaaWWords
import Derived.ChangeArms
import Derived.DataReads
import Derived.Test.YtgfadfahbhcllaaMFnFrame5
namespace Go.Proofs.Ytgfadfahbhcllaa.Q
open Go.RowKit Go.Proofs.YtgfadfahbhcllaaW.PrintWords Go.Proofs.YtgfadfahbhcllaaW.PrintLast Go.Proofs.Ytgfadfahbhcllaa.LK Go.Proofs.YtgfadfahbhcllaaW.PrintMore
attribute [local go_sem] max2_int min2_int max_two min_two max_three min_three max_four min_four   -- for this text's walks alone
set_option linter.unusedVariables false
set_option linter.unusedSimpArgs false

attribute [local go_sem high] eqA27 eqA33
/-! ### laws_FnFrame: function 6 -/
mutual
def laws_FnFrame.j0 : Nat → List Int → List Int → Bool → Option (Bool)
  | 0, _, _, _ => none
  | k + 1, x0, x1, x16 => if x16 = true then (some true) else ((spec_DrawEncodeFrame.f k x0).bind fun bt101 => ((impl_EncodeFrame.f bt101.1 bt101.2.1 bt101.2.2.1 bt101.2.2.2).bind fun t106 => ((impl_DecodeFrame.f t106).bind fun bt109 => (if bt101.2.1 ≥ 1 then (if (bt109.1 != (decide (bt101.2.1 ≤ 3))) = true then (laws_FnFrame.j1 k x1 true) else (if bt109.1 = true then (laws_FnFrame.j1 k x1 (!(bt109.2.1 == bt101.1) || (!(bt109.2.2.1 == bt101.2.1) || (!(bt109.2.2.2.1 == bt101.2.2.1) || (!(bt109.2.2.2.2 == bt101.2.2.2)))))) else (laws_FnFrame.j1 k x1 false))) else (if (bt109.1 != false) = true then (laws_FnFrame.j1 k x1 true) else (if bt109.1 = true then (laws_FnFrame.j1 k x1 (!(bt109.2.1 == bt101.1) || (!(bt109.2.2.1 == bt101.2.1) || (!(bt109.2.2.2.1 == bt101.2.2.1) || (!(bt109.2.2.2.2 == bt101.2.2.2)))))) else (laws_FnFrame.j1 k x1 false)))))))
def laws_FnFrame.j1 : Nat → List Int → Bool → Option (Bool)
  | 0, _, _ => none
  | k + 1, x1, x42 => if x42 = true then (some false) else ((spec_DrawDecodeFrame.f k x1).bind fun t115 => ((impl_DecodeFrame.f t115).bind fun bt118 => ((spec_DecodeFrame.f t115).bind fun bt124 => (if (bt118.1 == bt124.1 && ((bt118.2.1 == bt124.2.1 && (bt118.2.2.1 == bt124.2.2.1 && (bt118.2.2.2.1 == bt124.2.2.2.1 && (bt118.2.2.2.2 == bt124.2.2.2.2)))))) = true then (if bt118.1 = true then ((impl_EncodeFrame.f bt118.2.1 bt118.2.2.1 bt118.2.2.2.1 bt118.2.2.2.2).bind fun t129 => ((laws_lwBytes.f t129 t115).bind fun t132 => (some t132))) else (some true)) else (some false)))))
end
def laws_FnFrame.f (k : Nat) (l0 : List Int) (l1 : List Int) : Option (Bool) := if (l0.length : Int) > 1048576 then (laws_FnFrame.j0 k l0 l1 true) else (laws_FnFrame.j0 k l0 l1 (decide ((l1.length : Int) > 1048576)))
theorem laws_FnFrame.mono_l : ∀ k, (∀ y0 y1 y2, LeO (laws_FnFrame.j0 k y0 y1 y2) (laws_FnFrame.j0 (k + 1) y0 y1 y2)) ∧ (∀ y0 y1, LeO (laws_FnFrame.j1 k y0 y1) (laws_FnFrame.j1 (k + 1) y0 y1))
  | 0 => ⟨fun _ _ _ r h => by simp [laws_FnFrame.j0] at h, fun _ _ r h => by simp [laws_FnFrame.j1] at h⟩
  | k + 1 => by
    obtain ⟨ih0, ih1⟩ := laws_FnFrame.mono_l k
    refine ⟨?_, ?_⟩
    · intro y0 y1 y2
      unfold laws_FnFrame.j0
      repeat' first
      | (with_reducible exact ih0 _ _ _)
      | (with_reducible exact ih1 _ _)
      | (with_reducible exact spec_DrawDecodeFrame.mono _ _)
      | (with_reducible exact spec_DrawEncodeFrame.mono _ _)
      | (with_reducible exact LeO.refl _)
      | (with_reducible exact LeO.none _)
      | (with_reducible refine LeO.ite ?_ ?_)
      | (with_reducible refine LeO.bind ?_ (fun _ => ?_))
      | exact ih0 _ _ _
      | exact ih1 _ _
      | exact spec_DrawDecodeFrame.mono _ _
      | exact spec_DrawEncodeFrame.mono _ _
      | exact LeO.none _
      | refine LeO.ite ?_ ?_
      | refine LeO.bind ?_ (fun _ => ?_)
    · intro y0 y1
      unfold laws_FnFrame.j1
      repeat' first
      | (with_reducible exact ih0 _ _ _)
      | (with_reducible exact ih1 _ _)
      | (with_reducible exact spec_DrawDecodeFrame.mono _ _)
      | (with_reducible exact spec_DrawEncodeFrame.mono _ _)
      | (with_reducible exact LeO.refl _)
      | (with_reducible exact LeO.none _)
      | (with_reducible refine LeO.ite ?_ ?_)
      | (with_reducible refine LeO.bind ?_ (fun _ => ?_))
      | exact ih0 _ _ _
      | exact ih1 _ _
      | exact spec_DrawDecodeFrame.mono _ _
      | exact spec_DrawEncodeFrame.mono _ _
      | exact LeO.none _
      | refine LeO.ite ?_ ?_
      | refine LeO.bind ?_ (fun _ => ?_)
theorem laws_FnFrame.mono : ∀ a0 a1 k, LeO (laws_FnFrame.f k a0 a1) (laws_FnFrame.f (k + 1) a0 a1) := by
  intro a0 a1 k
  obtain ⟨ih0, ih1⟩ := laws_FnFrame.mono_l k
  unfold laws_FnFrame.f
  repeat' first
      | (with_reducible exact ih0 _ _ _)
      | (with_reducible exact ih1 _ _)
      | (with_reducible exact spec_DrawDecodeFrame.mono _ _)
      | (with_reducible exact spec_DrawEncodeFrame.mono _ _)
      | (with_reducible exact LeO.refl _)
      | (with_reducible exact LeO.none _)
      | (with_reducible refine LeO.ite ?_ ?_)
      | (with_reducible refine LeO.bind ?_ (fun _ => ?_))
      | exact ih0 _ _ _
      | exact ih1 _ _
      | exact spec_DrawDecodeFrame.mono _ _
      | exact spec_DrawEncodeFrame.mono _ _
      | exact LeO.none _
      | refine LeO.ite ?_ ?_
      | refine LeO.bind ?_ (fun _ => ?_)
def laws_FnFrame.T9 : Bool × List (List Nat × List Nat) := (true, [([], []), ([], []), ([1], [1]), ([0, 2], [0, 2]), ([3, 2], [3]), ([4], [4]), ([5, 4], [4, 5]), ([6, 4], [4, 6]), ([7, 4, 4], [4, 7]), ([8], [8]), ([9, 8], [8, 9]), ([10, 8, 8], [8, 10]), ([8], [8]), ([11, 12, 11, 8], [8, 11, 12]), ([8, 13, 4], [4, 8, 13]), ([4, 14], [4, 14]), ([15, 13, 0, 1, 2, 3, 4, 5, 6, 7, 8, 9, 10, 11, 12, 13, 14, 15], [15])])
def laws_FnFrame.B9 : List Nat := [0, 0, 2, 7, 15, 31, 63, 127, 255, 511, 1023, 2047, 511, 8191, 16383, 32767, 65535]
theorem laws_FnFrame.tab9 : rtab .any (opsOf Try.f6 9) = laws_FnFrame.T9 := by kernel_rfl
theorem laws_FnFrame.bits9 : waitsOk laws_FnFrame.T9.2 laws_FnFrame.B9 = true := by kernel_rfl
set_option maxHeartbeats 8000000 in
set_option maxRecDepth 100000 in
theorem laws_FnFrame.calls (k : Nat) (A0 : Option Addr) (c0 : Nat) (l0 : List Int) (A1 : Option Addr) (c1 : Nat) (l1 : List Int) (w : World) (hr0 : Kd.C (Kd.int .u8) w A0 l0.length l0) (hc0 : l0.length ≤ c0) (hr1 : Kd.C (Kd.int .u8) w A1 l1.length l1) (hc1 : l1.length ≤ c1) (h : laws_FnFrame.f k l0 l1 = some true) :
    Calls Try.prog 6 #[.slice A0 l0.length c0, .slice A1 l1.length c1] w fun e w' => e = .returned (.bool true) ∧ Below w.heap.size w w' := by
  have hu27 := Try.underlying27
  have hu33 := Try.underlying33
  have HR0 := Aside0.mk hr0
  have HC0 := Aside0.mk hc0
  clear hr0 hc0
  have HR1 := Aside0.mk hr1
  have HC1 := Aside0.mk hc1
  clear hr1 hc1
  have HB := Aside0.mk (Below.refl w.heap.size w)
  have H : (if (l0.length : Int) > 1048576 then (laws_FnFrame.j0 k l0 l1 true) else (laws_FnFrame.j0 k l0 l1 (decide ((l1.length : Int) > 1048576)))) = some true := h
  clear h
  have HC3 := Aside0.mk H
  clear H
  go_enter Try.func6, Try.ntmps6
  go_upto_region 1 with (fail)
  go_cut [16] (fun v16 wc => ∃ (kq : Nat) (x16_2 : Bool), v16 = .bool x16_2 ∧ Aside0 (laws_FnFrame.j0 kq l0 l1 x16_2 = some true) ∧ Aside0 (kq ≤ k) ∧ Aside0 (Below w.heap.size w wc))
  case first =>
    have H := HC3.out
    clear HC3
    by_cases c4 : (l0.length : Int) > 1048576
    · rw [if_pos c4] at H
      have c4b0 : decide (1048576 < (l0.length : Int)) = true := decide_eq_true c4
      have c4b1 : decide (1048576 < l0.length) = true := decide_eq_true (by omega)
      clear c4
      (first | rw [c4b0] | (simp only [i64_w, i32_w]; rw [c4b0]) | skip)
      have H' := Aside0.mk H
      clear H
      go_wp2
      go_meet
      case rel => exact ⟨_, (true), (by first | rfl | (simp; done) | (simp [*]; done)), H', ⟨by first | omega | exact Nat.le_refl _⟩, ⟨by repeat (first | (with_reducible first | exact HB.out | apply below_alloc | apply pw_below_drewN | apply below_drew1) | exact HB.out)⟩⟩
    · rw [if_neg c4] at H
      have c4b0 : decide (1048576 < (l0.length : Int)) = false := decide_eq_false c4
      have c4b1 : decide (1048576 < l0.length) = false := decide_eq_false (by omega)
      clear c4
      (first | rw [c4b0] | (simp only [i64_w, i32_w]; rw [c4b0]) | skip)
      have H' := Aside0.mk H
      clear H
      go_wp2
      go_meet
      case rel => exact ⟨_, (decide ((l1.length : Int) > 1048576)), (by first | rfl | (simp; done) | (simp [*]; done)), H', ⟨by first | omega | exact Nat.le_refl _⟩, ⟨by repeat (first | (with_reducible first | exact HB.out | apply below_alloc | apply pw_below_drewN | apply below_drew1) | exact HB.out)⟩⟩
  case rest =>
    clear HC3
    try clear c1
    try clear p2
    try clear c4
    try clear c4b0
    try clear c4b1
    obtain ⟨kq, x16_2, rfl, HA, HJ2, HB⟩ := hcut
    cases kq with
    | zero => exact absurd HA.out (by simp [laws_FnFrame.j0])
    | succ kj2 =>
      have H := HA.out
      clear HA
      simp only [laws_FnFrame.j0] at H
      by_cases c5 : x16_2 = true
      · subst c5
        have H1 : (some true) = some true := rfl
        clear H
        have H := H1
        clear H1
        have hS_ := Option.some.inj H
        clear hS_
        go_wp2
        go_ret
        exact ⟨by first | rfl | (simp [errW_none, errW_some] <;> rfl) | (simp [*, errW_none, errW_some] <;> rfl), by repeat (first | (with_reducible first | exact HB.out | apply below_alloc | apply pw_below_drewN | apply below_drew1) | exact HB.out)⟩
      · replace c5 := Bool.eq_false_iff.mpr c5
        subst c5
        have H1 : ((spec_DrawEncodeFrame.f kj2 l0).bind fun bt101 => ((impl_EncodeFrame.f bt101.1 bt101.2.1 bt101.2.2.1 bt101.2.2.2).bind fun t106 => ((impl_DecodeFrame.f t106).bind fun bt109 => (if bt101.2.1 ≥ 1 then (if (bt109.1 != (decide (bt101.2.1 ≤ 3))) = true then (laws_FnFrame.j1 kj2 l1 true) else (if bt109.1 = true then (laws_FnFrame.j1 kj2 l1 (!(bt109.2.1 == bt101.1) || (!(bt109.2.2.1 == bt101.2.1) || (!(bt109.2.2.2.1 == bt101.2.2.1) || (!(bt109.2.2.2.2 == bt101.2.2.2)))))) else (laws_FnFrame.j1 kj2 l1 false))) else (if (bt109.1 != false) = true then (laws_FnFrame.j1 kj2 l1 true) else (if bt109.1 = true then (laws_FnFrame.j1 kj2 l1 (!(bt109.2.1 == bt101.1) || (!(bt109.2.2.1 == bt101.2.1) || (!(bt109.2.2.2.1 == bt101.2.2.1) || (!(bt109.2.2.2.2 == bt101.2.2.2)))))) else (laws_FnFrame.j1 kj2 l1 false))))))) = some true := by rw [if_neg (show ¬ (false = true) by decide)] at H; exact H
        clear H
        have H := H1
        clear H1
        replace H := Option.bind_eq_some_iff.mp H
        obtain ⟨⟨t101, t102, t103, t104⟩, A60, H⟩ := H
        replace H : ((impl_EncodeFrame.f t101 t102 t103 t104).bind fun t106 => ((impl_DecodeFrame.f t106).bind fun bt109 => (if t102 ≥ 1 then (if (bt109.1 != (decide (t102 ≤ 3))) = true then (laws_FnFrame.j1 kj2 l1 true) else (if bt109.1 = true then (laws_FnFrame.j1 kj2 l1 (!(bt109.2.1 == t101) || (!(bt109.2.2.1 == t102) || (!(bt109.2.2.2.1 == t103) || (!(bt109.2.2.2.2 == t104)))))) else (laws_FnFrame.j1 kj2 l1 false))) else (if (bt109.1 != false) = true then (laws_FnFrame.j1 kj2 l1 true) else (if bt109.1 = true then (laws_FnFrame.j1 kj2 l1 (!(bt109.2.1 == t101) || (!(bt109.2.2.1 == t102) || (!(bt109.2.2.2.1 == t103) || (!(bt109.2.2.2.2 == t104)))))) else (laws_FnFrame.j1 kj2 l1 false)))))) = some true := H
        have A6 := Aside0.mk A60
        clear A60
        replace H := Option.bind_eq_some_iff.mp H
        obtain ⟨t106, A70, H⟩ := H
        replace H : ((impl_DecodeFrame.f t106).bind fun bt109 => (if t102 ≥ 1 then (if (bt109.1 != (decide (t102 ≤ 3))) = true then (laws_FnFrame.j1 kj2 l1 true) else (if bt109.1 = true then (laws_FnFrame.j1 kj2 l1 (!(bt109.2.1 == t101) || (!(bt109.2.2.1 == t102) || (!(bt109.2.2.2.1 == t103) || (!(bt109.2.2.2.2 == t104)))))) else (laws_FnFrame.j1 kj2 l1 false))) else (if (bt109.1 != false) = true then (laws_FnFrame.j1 kj2 l1 true) else (if bt109.1 = true then (laws_FnFrame.j1 kj2 l1 (!(bt109.2.1 == t101) || (!(bt109.2.2.1 == t102) || (!(bt109.2.2.2.1 == t103) || (!(bt109.2.2.2.2 == t104)))))) else (laws_FnFrame.j1 kj2 l1 false))))) = some true := H
        have A7 := Aside0.mk A70
        clear A70
        replace H := Option.bind_eq_some_iff.mp H
        obtain ⟨⟨t109, t110, t111, t112, t113⟩, A80, H⟩ := H
        replace H : (if t102 ≥ 1 then (if (t109 != (decide (t102 ≤ 3))) = true then (laws_FnFrame.j1 kj2 l1 true) else (if t109 = true then (laws_FnFrame.j1 kj2 l1 (!(t110 == t101) || (!(t111 == t102) || (!(t112 == t103) || (!(t113 == t104)))))) else (laws_FnFrame.j1 kj2 l1 false))) else (if (t109 != false) = true then (laws_FnFrame.j1 kj2 l1 true) else (if t109 = true then (laws_FnFrame.j1 kj2 l1 (!(t110 == t101) || (!(t111 == t102) || (!(t112 == t103) || (!(t113 == t104)))))) else (laws_FnFrame.j1 kj2 l1 false)))) = some true := H
        have A8 := Aside0.mk A80
        clear A80
        have HC9 := Aside0.mk H
        clear H
        go_upto_region 5 with (first | ((with_reducible refine gate_callee (f := 21) rfl ?_); refine goesL_ (some 18) rfl rfl Try.func21 (by kernel_rfl) rfl #[.slice A0 l0.length c0] rfl (by (try simp only [List.map_toArray, List.map_cons, List.map_nil]); first | done | rfl | (simp only [List.length_drop, List.length_take]; rfl)) ?_; (with_reducible refine (spec_DrawEncodeFrame.calls kj2 _ _ l0 t101 t102 t103 t104 _ ?side1 ?side2 A6.out).mono ?_); (case side1 => repeat (first | exact (Kd.C_below HR0.out HB.out) | (with_reducible refine Kd.C_alloc ?_ _) | (with_reducible refine Kd.C_drewN ?_ _) | (with_reducible refine Kd.C_drew ?_))); (case side2 => exact HC0.out); rintro e w10 ⟨rfl, hb⟩; refine ⟨_, rfl, ?_⟩; have n0_ := Aside0.mk (below_step (by repeat (first | (with_reducible first | exact HB.out | apply below_alloc | apply pw_below_drewN | apply below_drew1) | exact HB.out)) hb); clear HB; have HB := n0_; clear n0_; (try clear hb); (try clear hb2); (try clear hk); (try clear hi)) | ((with_reducible refine gate_dst (N := 5) rfl ?_); (try (refine gate_guard (by rfl) ?_; dsimp only)); refine box_event ?hg (N := 5) ?hd (cs := #[.int .u32 0, .int .i64 0, .int .u32 0, .int .u32 0]) (t := 27) ?hr ?_; (case hd => rfl); (case hg => rfl); (case hr => first | (go_simp; done) | (go_simp; rfl)); intro gb105 hg w11 hbox hb; have n0_ := Aside0.mk (below_step (by repeat (first | (with_reducible first | exact HB.out | apply below_alloc | apply pw_below_drewN | apply below_drew1) | exact HB.out)) hb); have n1_ := Aside0.mk (hbox); have n2_ := Aside0.mk ((by rw [hg]; exact (below_size (by repeat (first | (with_reducible first | exact HB.out | apply below_alloc | apply pw_below_drewN | apply below_drew1) | exact HB.out))) : w.heap.size ≤ gb105)); have n3_ := Aside0.mk ((by rw [hg]; exact (below_size (by repeat (first | (with_reducible first | exact HB.out | apply below_alloc | apply pw_below_drewN | apply below_drew1) | exact HB.out))) : w.heap.size ≤ gb105)); clear HB; have HB := n0_; have BK105 := n1_; have GW105 := n2_; have GE105 := n3_; clear n0_ n1_ n2_ n3_; clear hb hbox hg; have hcz12_0 : w11.cell? ⟨gb105, 0, none⟩ = some (.int .u32 0) := (blk_cell BK105.out 0).trans rfl; have hcz12_1 : w11.cell? ⟨gb105, 1, none⟩ = some (.int .i64 0) := (blk_cell BK105.out 1).trans rfl; have hcz12_2 : w11.cell? ⟨gb105, 2, none⟩ = some (.int .u32 0) := (blk_cell BK105.out 2).trans rfl; have hcz12_3 : w11.cell? ⟨gb105, 3, none⟩ = some (.int .u32 0) := (blk_cell BK105.out 3).trans rfl; have hfz12_0 := blk_frozen BK105.out 0; have hfz12_1 := blk_frozen BK105.out 1; have hfz12_2 := blk_frozen BK105.out 2; have hfz12_3 := blk_frozen BK105.out 3) | ((with_reducible refine gate_callee (f := 13) rfl ?_); refine goesL_ (some 20) rfl rfl Try.func13 (by kernel_rfl) rfl #[.agg #[.int .u32 t101, .int .i64 t102, .int .u32 t103, .int .u32 t104]] rfl (by (try simp only [List.map_toArray, List.map_cons, List.map_nil]); first | done | rfl | (simp only [List.length_drop, List.length_take]; rfl)) ?_; (with_reducible refine (impl_EncodeFrame.calls t101 t102 t103 t104 t106 _ A7.out).mono ?_); rintro e w13 ⟨v107, rfl, ho0, hb⟩; refine ⟨_, rfl, ?_⟩; have n0_ := Aside0.mk (Kd.R_lower ho0 (below_size (by repeat (first | (with_reducible first | exact HB.out | apply below_alloc | apply pw_below_drewN | apply below_drew1 | refine below_set ?_ GE105.out) | exact HB.out)))); have n1_ := Aside0.mk (blk_below (g := gb105) (o := .cells #[.int .u32 t101, .int .i64 t102, .int .u32 t103, .int .u32 t104] 27 (0, 0)) (by (with_reducible repeat (first | refine blk_drewN ?_ _ | refine blk_drew ?_ | refine blk_alloc ?_ _)); refine blk_put (cs := #[.int .u32 t101, .int .i64 t102, .int .u32 t103, .int .u32 0]) ?_ 3 _ rfl; (with_reducible repeat (first | refine blk_drewN ?_ _ | refine blk_drew ?_ | refine blk_alloc ?_ _)); refine blk_put (cs := #[.int .u32 t101, .int .i64 t102, .int .u32 0, .int .u32 0]) ?_ 2 _ rfl; (with_reducible repeat (first | refine blk_drewN ?_ _ | refine blk_drew ?_ | refine blk_alloc ?_ _)); refine blk_put (cs := #[.int .u32 t101, .int .i64 0, .int .u32 0, .int .u32 0]) ?_ 1 _ rfl; (with_reducible repeat (first | refine blk_drewN ?_ _ | refine blk_drew ?_ | refine blk_alloc ?_ _)); refine blk_put (cs := #[.int .u32 0, .int .i64 0, .int .u32 0, .int .u32 0]) ?_ 0 _ rfl; (with_reducible repeat (first | refine blk_drewN ?_ _ | refine blk_drew ?_ | refine blk_alloc ?_ _)); exact BK105.out) hb); have n2_ := Aside0.mk (below_step (by repeat (first | (with_reducible first | exact HB.out | apply below_alloc | apply pw_below_drewN | apply below_drew1 | refine below_set ?_ GE105.out) | exact HB.out)) hb); clear BK105; clear HB; have HO108 := n0_; have BK105 := n1_; have HB := n2_; clear n0_ n1_ n2_; (try clear hb); (try clear hb2); (try clear hk); (try clear hi); (try clear ho0); obtain ⟨Ao14, co14, eo14⟩ := Kd.R_slice HO108.out; subst eo14) | ((with_reducible refine gate_callee (f := 19) rfl ?_); refine goesL_ (some 21) rfl rfl Try.func19 (by kernel_rfl) rfl #[.slice Ao14 t106.length co14] rfl (by (try simp only [List.map_toArray, List.map_cons, List.map_nil]); first | done | rfl | (simp only [List.length_drop, List.length_take]; rfl)) ?_; (with_reducible refine (impl_DecodeFrame.calls _ _ t106 t109 t110 t111 t112 t113 _ ?side1 ?side2 A8.out).mono ?_); (case side1 => repeat (first | exact (Kd.R_reads' HO108.out).2.2 | (with_reducible refine Kd.C_alloc ?_ _) | (with_reducible refine Kd.C_drewN ?_ _) | (with_reducible refine Kd.C_drew ?_))); (case side2 => exact (Kd.R_reads' HO108.out).2.1); rintro e w15 ⟨rfl, hb⟩; refine ⟨_, rfl, ?_⟩; have n0_ := Aside0.mk (Kd.R_below (by (with_reducible repeat (first | apply Kd.R_alloc | apply Kd.R_drewN | apply Kd.R_drew)); exact HO108.out) hb); have n1_ := Aside0.mk (blk_below (g := gb105) (o := .cells #[.int .u32 t101, .int .i64 t102, .int .u32 t103, .int .u32 t104] 27 (0, 0)) (by (with_reducible repeat (first | refine blk_drewN ?_ _ | refine blk_drew ?_ | refine blk_alloc ?_ _)); exact BK105.out) hb); have n2_ := Aside0.mk (below_step (by repeat (first | (with_reducible first | exact HB.out | apply below_alloc | apply pw_below_drewN | apply below_drew1 | refine below_set ?_ GE105.out) | exact HB.out)) hb); clear HO108; clear BK105; clear HB; have HO108 := n0_; have BK105 := n1_; have HB := n2_; clear n0_ n1_ n2_; (try clear hb); (try clear hb2); (try clear hk); (try clear hi)) | ((with_reducible refine gate_dst (N := 6) rfl ?_); (try (refine gate_guard (by rfl) ?_; dsimp only)); refine box_event ?hg (N := 6) ?hd (cs := #[.bool false, .int .u32 0, .int .i64 0, .int .u32 0, .int .u32 0]) (t := 33) ?hr ?_; (case hd => rfl); (case hg => rfl); (case hr => first | (go_simp; done) | (go_simp; rfl)); intro gb114 hg w16 hbox hb; have n0_ := Aside0.mk (Kd.R_below (by (with_reducible repeat (first | apply Kd.R_alloc | apply Kd.R_drewN | apply Kd.R_drew)); exact HO108.out) hb); have n1_ := Aside0.mk (blk_below (g := gb105) (o := .cells #[.int .u32 t101, .int .i64 t102, .int .u32 t103, .int .u32 t104] 27 (0, 0)) (by (with_reducible repeat (first | refine blk_drewN ?_ _ | refine blk_drew ?_ | refine blk_alloc ?_ _)); exact BK105.out) hb); have n2_ := Aside0.mk (below_step (by repeat (first | (with_reducible first | exact HB.out | apply below_alloc | apply pw_below_drewN | apply below_drew1 | refine below_set ?_ GE105.out) | exact HB.out)) hb); have n3_ := Aside0.mk (hbox); have n4_ := Aside0.mk ((by rw [hg]; exact (below_size (by repeat (first | (with_reducible first | exact HB.out | apply below_alloc | apply pw_below_drewN | apply below_drew1 | refine below_set ?_ GE105.out) | exact HB.out))) : w.heap.size ≤ gb114)); have n5_ := Aside0.mk ((by rw [hg]; exact (below_size (by repeat (first | (with_reducible first | exact HB.out | apply below_alloc | apply pw_below_drewN | apply below_drew1 | refine below_set ?_ GE105.out) | exact HB.out))) : w.heap.size ≤ gb114)); have n6_ := Aside0.mk ((by rw [hg]; exact Nat.ne_of_lt (blk_lt (g := gb105) (o := .cells #[.int .u32 t101, .int .i64 t102, .int .u32 t103, .int .u32 t104] 27 (0, 0)) (by (with_reducible repeat (first | refine blk_drewN ?_ _ | refine blk_drew ?_ | refine blk_alloc ?_ _)); exact BK105.out)) : gb105 ≠ gb114)); have n7_ := Aside0.mk ((by rw [hg]; exact Nat.ne_of_gt (blk_lt (g := gb105) (o := .cells #[.int .u32 t101, .int .i64 t102, .int .u32 t103, .int .u32 t104] 27 (0, 0)) (by (with_reducible repeat (first | refine blk_drewN ?_ _ | refine blk_drew ?_ | refine blk_alloc ?_ _)); exact BK105.out)) : gb114 ≠ gb105)); clear HO108; clear BK105; clear HB; have HO108 := n0_; have BK105 := n1_; have HB := n2_; have BK114 := n3_; have GW114 := n4_; have GE114 := n5_; have NB105_114 := n6_; have NB114_105 := n7_; clear n0_ n1_ n2_ n3_ n4_ n5_ n6_ n7_; clear hb hbox hg; have hnb17 := NB114_105.out; have hnc17 := NB105_114.out; have hcz18_0 : w16.cell? ⟨gb114, 0, none⟩ = some (.bool false) := (blk_cell BK114.out 0).trans rfl; have hcz18_1 : w16.cell? ⟨gb114, 1, none⟩ = some (.int .u32 0) := (blk_cell BK114.out 1).trans rfl; have hcz18_2 : w16.cell? ⟨gb114, 2, none⟩ = some (.int .i64 0) := (blk_cell BK114.out 2).trans rfl; have hcz18_3 : w16.cell? ⟨gb114, 3, none⟩ = some (.int .u32 0) := (blk_cell BK114.out 3).trans rfl; have hcz18_4 : w16.cell? ⟨gb114, 4, none⟩ = some (.int .u32 0) := (blk_cell BK114.out 4).trans rfl; have hfz18_0 := blk_frozen BK114.out 0; have hfz18_1 := blk_frozen BK114.out 1; have hfz18_2 := blk_frozen BK114.out 2; have hfz18_3 := blk_frozen BK114.out 3; have hfz18_4 := blk_frozen BK114.out 4))
        (try simp only [Act.put, List.setIfInBounds_toArray, List.set_cons_zero, List.set_cons_succ])
        go_cut [42] (fun v42 wc => ∃ (kq : Nat) (x42_8 : Bool), v42 = .bool x42_8 ∧ Aside0 (laws_FnFrame.j1 kq l1 x42_8 = some true) ∧ Aside0 (kq ≤ kj2) ∧ Aside0 (wc.heap[gb105]? = some (.cells #[.int .u32 t101, .int .i64 t102, .int .u32 t103, .int .u32 t104] 27 (0, 0))) ∧ Aside0 (wc.heap[gb114]? = some (.cells #[.bool t109, .int .u32 t110, .int .i64 t111, .int .u32 t112, .int .u32 t113] 33 (0, 0))) ∧ Aside0 (Below w.heap.size w wc))
        case first =>
          have H := HC9.out
          clear HC9
          by_cases c19 : t102 ≥ 1
          · rw [if_pos c19] at H
            have c19b0 : decide (1 ≤ t102) = true := decide_eq_true c19
            clear c19
            (first | rw [c19b0] | (simp only [i64_w, i32_w]; rw [c19b0]) | skip)
            by_cases c20 : (t109 != (decide (t102 ≤ 3))) = true
            · rw [if_pos c20] at H
              have c20b0 : (t109 != (decide (t102 ≤ 3))) = true := c20
              (try (have c20b1 : decide (t109 = (decide (t102 ≤ 3))) = false := by simpa using c20))
              (try (have c20b2 : (t109 == (decide (t102 ≤ 3))) = false := by simpa using c20))
              (try (have c20b3 : ¬ (t109 = (decide (t102 ≤ 3))) := by simpa using c20))
              clear c20
              have H' := Aside0.mk H
              clear H
              have hnb21 := NB114_105.out
              have hnc21 := NB105_114.out
              have hcz22_0 : w16.cell? ⟨gb114, 0, none⟩ = some (.bool false) := (blk_cell BK114.out 0).trans rfl
              have hcz22_1 : w16.cell? ⟨gb114, 1, none⟩ = some (.int .u32 0) := (blk_cell BK114.out 1).trans rfl
              have hcz22_2 : w16.cell? ⟨gb114, 2, none⟩ = some (.int .i64 0) := (blk_cell BK114.out 2).trans rfl
              have hcz22_3 : w16.cell? ⟨gb114, 3, none⟩ = some (.int .u32 0) := (blk_cell BK114.out 3).trans rfl
              have hcz22_4 : w16.cell? ⟨gb114, 4, none⟩ = some (.int .u32 0) := (blk_cell BK114.out 4).trans rfl
              have hfz22_0 := blk_frozen BK114.out 0
              have hfz22_1 := blk_frozen BK114.out 1
              have hfz22_2 := blk_frozen BK114.out 2
              have hfz22_3 := blk_frozen BK114.out 3
              have hfz22_4 := blk_frozen BK114.out 4
              have hcz23_0 : w16.cell? ⟨gb105, 0, none⟩ = some (.int .u32 t101) := (blk_cell BK105.out 0).trans rfl
              have hcz23_1 : w16.cell? ⟨gb105, 1, none⟩ = some (.int .i64 t102) := (blk_cell BK105.out 1).trans rfl
              have hcz23_2 : w16.cell? ⟨gb105, 2, none⟩ = some (.int .u32 t103) := (blk_cell BK105.out 2).trans rfl
              have hcz23_3 : w16.cell? ⟨gb105, 3, none⟩ = some (.int .u32 t104) := (blk_cell BK105.out 3).trans rfl
              have hfz23_0 := blk_frozen BK105.out 0
              have hfz23_1 := blk_frozen BK105.out 1
              have hfz23_2 := blk_frozen BK105.out 2
              have hfz23_3 := blk_frozen BK105.out 3
              go_wp2
              go_meet
              case rel => exact ⟨_, (true), (by first | rfl | (simp; done) | (simp [*]; done)), H', ⟨by have := HJ2.out; first | omega | exact Nat.le_refl _⟩, ⟨by (with_reducible repeat (first | refine blk_drewN ?_ _ | refine blk_drew ?_ | refine blk_alloc ?_ _)); refine blk_far ?_ NB105_114.out _; (with_reducible repeat (first | refine blk_drewN ?_ _ | refine blk_drew ?_ | refine blk_alloc ?_ _)); refine blk_far ?_ NB105_114.out _; (with_reducible repeat (first | refine blk_drewN ?_ _ | refine blk_drew ?_ | refine blk_alloc ?_ _)); refine blk_far ?_ NB105_114.out _; (with_reducible repeat (first | refine blk_drewN ?_ _ | refine blk_drew ?_ | refine blk_alloc ?_ _)); refine blk_far ?_ NB105_114.out _; (with_reducible repeat (first | refine blk_drewN ?_ _ | refine blk_drew ?_ | refine blk_alloc ?_ _)); refine blk_far ?_ NB105_114.out _; (with_reducible repeat (first | refine blk_drewN ?_ _ | refine blk_drew ?_ | refine blk_alloc ?_ _)); exact BK105.out⟩, ⟨by (with_reducible repeat (first | refine blk_drewN ?_ _ | refine blk_drew ?_ | refine blk_alloc ?_ _)); refine blk_put (cs := #[.bool t109, .int .u32 t110, .int .i64 t111, .int .u32 t112, .int .u32 0]) ?_ 4 _ rfl; (with_reducible repeat (first | refine blk_drewN ?_ _ | refine blk_drew ?_ | refine blk_alloc ?_ _)); refine blk_put (cs := #[.bool t109, .int .u32 t110, .int .i64 t111, .int .u32 0, .int .u32 0]) ?_ 3 _ rfl; (with_reducible repeat (first | refine blk_drewN ?_ _ | refine blk_drew ?_ | refine blk_alloc ?_ _)); refine blk_put (cs := #[.bool t109, .int .u32 t110, .int .i64 0, .int .u32 0, .int .u32 0]) ?_ 2 _ rfl; (with_reducible repeat (first | refine blk_drewN ?_ _ | refine blk_drew ?_ | refine blk_alloc ?_ _)); refine blk_put (cs := #[.bool t109, .int .u32 0, .int .i64 0, .int .u32 0, .int .u32 0]) ?_ 1 _ rfl; (with_reducible repeat (first | refine blk_drewN ?_ _ | refine blk_drew ?_ | refine blk_alloc ?_ _)); refine blk_put (cs := #[.bool false, .int .u32 0, .int .i64 0, .int .u32 0, .int .u32 0]) ?_ 0 _ (by first | rfl | simp [*]); (with_reducible repeat (first | refine blk_drewN ?_ _ | refine blk_drew ?_ | refine blk_alloc ?_ _)); exact BK114.out⟩, ⟨by repeat (first | (with_reducible first | exact HB.out | apply below_alloc | apply pw_below_drewN | apply below_drew1 | refine below_set ?_ GE105.out | refine below_set ?_ GE114.out) | exact HB.out)⟩⟩
            · rw [if_neg c20] at H
              have c20b0 : (t109 != (decide (t102 ≤ 3))) = false := by simpa using c20
              (try (have c20b1 : decide (t109 = (decide (t102 ≤ 3))) = true := by simpa using c20))
              (try (have c20b2 : (t109 == (decide (t102 ≤ 3))) = true := by simpa using c20))
              clear c20
              by_cases c24 : t109 = true
              · subst c24
                have H1 : (laws_FnFrame.j1 kj2 l1 (!(t110 == t101) || (!(t111 == t102) || (!(t112 == t103) || (!(t113 == t104)))))) = some true := by rw [if_pos rfl] at H; exact H
                clear H
                have H := H1
                clear H1
                have H' := Aside0.mk H
                clear H
                have hnb25 := NB114_105.out
                have hnc25 := NB105_114.out
                have hcz26_0 : w16.cell? ⟨gb114, 0, none⟩ = some (.bool false) := (blk_cell BK114.out 0).trans rfl
                have hcz26_1 : w16.cell? ⟨gb114, 1, none⟩ = some (.int .u32 0) := (blk_cell BK114.out 1).trans rfl
                have hcz26_2 : w16.cell? ⟨gb114, 2, none⟩ = some (.int .i64 0) := (blk_cell BK114.out 2).trans rfl
                have hcz26_3 : w16.cell? ⟨gb114, 3, none⟩ = some (.int .u32 0) := (blk_cell BK114.out 3).trans rfl
                have hcz26_4 : w16.cell? ⟨gb114, 4, none⟩ = some (.int .u32 0) := (blk_cell BK114.out 4).trans rfl
                have hfz26_0 := blk_frozen BK114.out 0
                have hfz26_1 := blk_frozen BK114.out 1
                have hfz26_2 := blk_frozen BK114.out 2
                have hfz26_3 := blk_frozen BK114.out 3
                have hfz26_4 := blk_frozen BK114.out 4
                have hcz27_0 : w16.cell? ⟨gb105, 0, none⟩ = some (.int .u32 t101) := (blk_cell BK105.out 0).trans rfl
                have hcz27_1 : w16.cell? ⟨gb105, 1, none⟩ = some (.int .i64 t102) := (blk_cell BK105.out 1).trans rfl
                have hcz27_2 : w16.cell? ⟨gb105, 2, none⟩ = some (.int .u32 t103) := (blk_cell BK105.out 2).trans rfl
                have hcz27_3 : w16.cell? ⟨gb105, 3, none⟩ = some (.int .u32 t104) := (blk_cell BK105.out 3).trans rfl
                have hfz27_0 := blk_frozen BK105.out 0
                have hfz27_1 := blk_frozen BK105.out 1
                have hfz27_2 := blk_frozen BK105.out 2
                have hfz27_3 := blk_frozen BK105.out 3
                go_wp2
                go_meet
                case rel => exact ⟨_, ((!(t110 == t101) || (!(t111 == t102) || (!(t112 == t103) || (!(t113 == t104)))))), (by first | rfl | (simp; done) | (simp [*]; done)), H', ⟨by have := HJ2.out; first | omega | exact Nat.le_refl _⟩, ⟨by (with_reducible repeat (first | refine blk_drewN ?_ _ | refine blk_drew ?_ | refine blk_alloc ?_ _)); refine blk_far ?_ NB105_114.out _; (with_reducible repeat (first | refine blk_drewN ?_ _ | refine blk_drew ?_ | refine blk_alloc ?_ _)); refine blk_far ?_ NB105_114.out _; (with_reducible repeat (first | refine blk_drewN ?_ _ | refine blk_drew ?_ | refine blk_alloc ?_ _)); refine blk_far ?_ NB105_114.out _; (with_reducible repeat (first | refine blk_drewN ?_ _ | refine blk_drew ?_ | refine blk_alloc ?_ _)); refine blk_far ?_ NB105_114.out _; (with_reducible repeat (first | refine blk_drewN ?_ _ | refine blk_drew ?_ | refine blk_alloc ?_ _)); refine blk_far ?_ NB105_114.out _; (with_reducible repeat (first | refine blk_drewN ?_ _ | refine blk_drew ?_ | refine blk_alloc ?_ _)); exact BK105.out⟩, ⟨by (with_reducible repeat (first | refine blk_drewN ?_ _ | refine blk_drew ?_ | refine blk_alloc ?_ _)); refine blk_put (cs := #[.bool true, .int .u32 t110, .int .i64 t111, .int .u32 t112, .int .u32 0]) ?_ 4 _ rfl; (with_reducible repeat (first | refine blk_drewN ?_ _ | refine blk_drew ?_ | refine blk_alloc ?_ _)); refine blk_put (cs := #[.bool true, .int .u32 t110, .int .i64 t111, .int .u32 0, .int .u32 0]) ?_ 3 _ rfl; (with_reducible repeat (first | refine blk_drewN ?_ _ | refine blk_drew ?_ | refine blk_alloc ?_ _)); refine blk_put (cs := #[.bool true, .int .u32 t110, .int .i64 0, .int .u32 0, .int .u32 0]) ?_ 2 _ rfl; (with_reducible repeat (first | refine blk_drewN ?_ _ | refine blk_drew ?_ | refine blk_alloc ?_ _)); refine blk_put (cs := #[.bool true, .int .u32 0, .int .i64 0, .int .u32 0, .int .u32 0]) ?_ 1 _ rfl; (with_reducible repeat (first | refine blk_drewN ?_ _ | refine blk_drew ?_ | refine blk_alloc ?_ _)); refine blk_put (cs := #[.bool false, .int .u32 0, .int .i64 0, .int .u32 0, .int .u32 0]) ?_ 0 _ (by first | rfl | simp [*]); (with_reducible repeat (first | refine blk_drewN ?_ _ | refine blk_drew ?_ | refine blk_alloc ?_ _)); exact BK114.out⟩, ⟨by repeat (first | (with_reducible first | exact HB.out | apply below_alloc | apply pw_below_drewN | apply below_drew1 | refine below_set ?_ GE105.out | refine below_set ?_ GE114.out) | exact HB.out)⟩⟩
              · replace c24 := Bool.eq_false_iff.mpr c24
                subst c24
                have H1 : (laws_FnFrame.j1 kj2 l1 false) = some true := by rw [if_neg (show ¬ (false = true) by decide)] at H; exact H
                clear H
                have H := H1
                clear H1
                have H' := Aside0.mk H
                clear H
                have hnb28 := NB114_105.out
                have hnc28 := NB105_114.out
                have hcz29_0 : w16.cell? ⟨gb114, 0, none⟩ = some (.bool false) := (blk_cell BK114.out 0).trans rfl
                have hcz29_1 : w16.cell? ⟨gb114, 1, none⟩ = some (.int .u32 0) := (blk_cell BK114.out 1).trans rfl
                have hcz29_2 : w16.cell? ⟨gb114, 2, none⟩ = some (.int .i64 0) := (blk_cell BK114.out 2).trans rfl
                have hcz29_3 : w16.cell? ⟨gb114, 3, none⟩ = some (.int .u32 0) := (blk_cell BK114.out 3).trans rfl
                have hcz29_4 : w16.cell? ⟨gb114, 4, none⟩ = some (.int .u32 0) := (blk_cell BK114.out 4).trans rfl
                have hfz29_0 := blk_frozen BK114.out 0
                have hfz29_1 := blk_frozen BK114.out 1
                have hfz29_2 := blk_frozen BK114.out 2
                have hfz29_3 := blk_frozen BK114.out 3
                have hfz29_4 := blk_frozen BK114.out 4
                have hcz30_0 : w16.cell? ⟨gb105, 0, none⟩ = some (.int .u32 t101) := (blk_cell BK105.out 0).trans rfl
                have hcz30_1 : w16.cell? ⟨gb105, 1, none⟩ = some (.int .i64 t102) := (blk_cell BK105.out 1).trans rfl
                have hcz30_2 : w16.cell? ⟨gb105, 2, none⟩ = some (.int .u32 t103) := (blk_cell BK105.out 2).trans rfl
                have hcz30_3 : w16.cell? ⟨gb105, 3, none⟩ = some (.int .u32 t104) := (blk_cell BK105.out 3).trans rfl
                have hfz30_0 := blk_frozen BK105.out 0
                have hfz30_1 := blk_frozen BK105.out 1
                have hfz30_2 := blk_frozen BK105.out 2
                have hfz30_3 := blk_frozen BK105.out 3
                go_wp2
                go_meet
                case rel => exact ⟨_, (false), (by first | rfl | (simp; done) | (simp [*]; done)), H', ⟨by have := HJ2.out; first | omega | exact Nat.le_refl _⟩, ⟨by (with_reducible repeat (first | refine blk_drewN ?_ _ | refine blk_drew ?_ | refine blk_alloc ?_ _)); refine blk_far ?_ NB105_114.out _; (with_reducible repeat (first | refine blk_drewN ?_ _ | refine blk_drew ?_ | refine blk_alloc ?_ _)); refine blk_far ?_ NB105_114.out _; (with_reducible repeat (first | refine blk_drewN ?_ _ | refine blk_drew ?_ | refine blk_alloc ?_ _)); refine blk_far ?_ NB105_114.out _; (with_reducible repeat (first | refine blk_drewN ?_ _ | refine blk_drew ?_ | refine blk_alloc ?_ _)); refine blk_far ?_ NB105_114.out _; (with_reducible repeat (first | refine blk_drewN ?_ _ | refine blk_drew ?_ | refine blk_alloc ?_ _)); refine blk_far ?_ NB105_114.out _; (with_reducible repeat (first | refine blk_drewN ?_ _ | refine blk_drew ?_ | refine blk_alloc ?_ _)); exact BK105.out⟩, ⟨by (with_reducible repeat (first | refine blk_drewN ?_ _ | refine blk_drew ?_ | refine blk_alloc ?_ _)); refine blk_put (cs := #[.bool false, .int .u32 t110, .int .i64 t111, .int .u32 t112, .int .u32 0]) ?_ 4 _ rfl; (with_reducible repeat (first | refine blk_drewN ?_ _ | refine blk_drew ?_ | refine blk_alloc ?_ _)); refine blk_put (cs := #[.bool false, .int .u32 t110, .int .i64 t111, .int .u32 0, .int .u32 0]) ?_ 3 _ rfl; (with_reducible repeat (first | refine blk_drewN ?_ _ | refine blk_drew ?_ | refine blk_alloc ?_ _)); refine blk_put (cs := #[.bool false, .int .u32 t110, .int .i64 0, .int .u32 0, .int .u32 0]) ?_ 2 _ rfl; (with_reducible repeat (first | refine blk_drewN ?_ _ | refine blk_drew ?_ | refine blk_alloc ?_ _)); refine blk_put (cs := #[.bool false, .int .u32 0, .int .i64 0, .int .u32 0, .int .u32 0]) ?_ 1 _ rfl; (with_reducible repeat (first | refine blk_drewN ?_ _ | refine blk_drew ?_ | refine blk_alloc ?_ _)); refine blk_put (cs := #[.bool false, .int .u32 0, .int .i64 0, .int .u32 0, .int .u32 0]) ?_ 0 _ (by first | rfl | simp [*]); (with_reducible repeat (first | refine blk_drewN ?_ _ | refine blk_drew ?_ | refine blk_alloc ?_ _)); exact BK114.out⟩, ⟨by repeat (first | (with_reducible first | exact HB.out | apply below_alloc | apply pw_below_drewN | apply below_drew1 | refine below_set ?_ GE105.out | refine below_set ?_ GE114.out) | exact HB.out)⟩⟩
          · rw [if_neg c19] at H
            have c19b0 : decide (1 ≤ t102) = false := decide_eq_false c19
            clear c19
            (first | rw [c19b0] | (simp only [i64_w, i32_w]; rw [c19b0]) | skip)
            by_cases c31 : (t109 != false) = true
            · rw [if_pos c31] at H
              have c31b0 : (t109 != false) = true := c31
              (try (have c31b1 : decide (t109 = false) = false := by simpa using c31))
              (try (have c31b2 : (t109 == false) = false := by simpa using c31))
              (try (have c31b3 : ¬ (t109 = false) := by simpa using c31))
              clear c31
              have H' := Aside0.mk H
              clear H
              have hnb32 := NB114_105.out
              have hnc32 := NB105_114.out
              have hcz33_0 : w16.cell? ⟨gb114, 0, none⟩ = some (.bool false) := (blk_cell BK114.out 0).trans rfl
              have hcz33_1 : w16.cell? ⟨gb114, 1, none⟩ = some (.int .u32 0) := (blk_cell BK114.out 1).trans rfl
              have hcz33_2 : w16.cell? ⟨gb114, 2, none⟩ = some (.int .i64 0) := (blk_cell BK114.out 2).trans rfl
              have hcz33_3 : w16.cell? ⟨gb114, 3, none⟩ = some (.int .u32 0) := (blk_cell BK114.out 3).trans rfl
              have hcz33_4 : w16.cell? ⟨gb114, 4, none⟩ = some (.int .u32 0) := (blk_cell BK114.out 4).trans rfl
              have hfz33_0 := blk_frozen BK114.out 0
              have hfz33_1 := blk_frozen BK114.out 1
              have hfz33_2 := blk_frozen BK114.out 2
              have hfz33_3 := blk_frozen BK114.out 3
              have hfz33_4 := blk_frozen BK114.out 4
              have hcz34_0 : w16.cell? ⟨gb105, 0, none⟩ = some (.int .u32 t101) := (blk_cell BK105.out 0).trans rfl
              have hcz34_1 : w16.cell? ⟨gb105, 1, none⟩ = some (.int .i64 t102) := (blk_cell BK105.out 1).trans rfl
              have hcz34_2 : w16.cell? ⟨gb105, 2, none⟩ = some (.int .u32 t103) := (blk_cell BK105.out 2).trans rfl
              have hcz34_3 : w16.cell? ⟨gb105, 3, none⟩ = some (.int .u32 t104) := (blk_cell BK105.out 3).trans rfl
              have hfz34_0 := blk_frozen BK105.out 0
              have hfz34_1 := blk_frozen BK105.out 1
              have hfz34_2 := blk_frozen BK105.out 2
              have hfz34_3 := blk_frozen BK105.out 3
              go_wp2
              go_meet
              case rel => exact ⟨_, (true), (by first | rfl | (simp; done) | (simp [*]; done)), H', ⟨by have := HJ2.out; first | omega | exact Nat.le_refl _⟩, ⟨by (with_reducible repeat (first | refine blk_drewN ?_ _ | refine blk_drew ?_ | refine blk_alloc ?_ _)); refine blk_far ?_ NB105_114.out _; (with_reducible repeat (first | refine blk_drewN ?_ _ | refine blk_drew ?_ | refine blk_alloc ?_ _)); refine blk_far ?_ NB105_114.out _; (with_reducible repeat (first | refine blk_drewN ?_ _ | refine blk_drew ?_ | refine blk_alloc ?_ _)); refine blk_far ?_ NB105_114.out _; (with_reducible repeat (first | refine blk_drewN ?_ _ | refine blk_drew ?_ | refine blk_alloc ?_ _)); refine blk_far ?_ NB105_114.out _; (with_reducible repeat (first | refine blk_drewN ?_ _ | refine blk_drew ?_ | refine blk_alloc ?_ _)); refine blk_far ?_ NB105_114.out _; (with_reducible repeat (first | refine blk_drewN ?_ _ | refine blk_drew ?_ | refine blk_alloc ?_ _)); exact BK105.out⟩, ⟨by (with_reducible repeat (first | refine blk_drewN ?_ _ | refine blk_drew ?_ | refine blk_alloc ?_ _)); refine blk_put (cs := #[.bool t109, .int .u32 t110, .int .i64 t111, .int .u32 t112, .int .u32 0]) ?_ 4 _ rfl; (with_reducible repeat (first | refine blk_drewN ?_ _ | refine blk_drew ?_ | refine blk_alloc ?_ _)); refine blk_put (cs := #[.bool t109, .int .u32 t110, .int .i64 t111, .int .u32 0, .int .u32 0]) ?_ 3 _ rfl; (with_reducible repeat (first | refine blk_drewN ?_ _ | refine blk_drew ?_ | refine blk_alloc ?_ _)); refine blk_put (cs := #[.bool t109, .int .u32 t110, .int .i64 0, .int .u32 0, .int .u32 0]) ?_ 2 _ rfl; (with_reducible repeat (first | refine blk_drewN ?_ _ | refine blk_drew ?_ | refine blk_alloc ?_ _)); refine blk_put (cs := #[.bool t109, .int .u32 0, .int .i64 0, .int .u32 0, .int .u32 0]) ?_ 1 _ rfl; (with_reducible repeat (first | refine blk_drewN ?_ _ | refine blk_drew ?_ | refine blk_alloc ?_ _)); refine blk_put (cs := #[.bool false, .int .u32 0, .int .i64 0, .int .u32 0, .int .u32 0]) ?_ 0 _ (by first | rfl | simp [*]); (with_reducible repeat (first | refine blk_drewN ?_ _ | refine blk_drew ?_ | refine blk_alloc ?_ _)); exact BK114.out⟩, ⟨by repeat (first | (with_reducible first | exact HB.out | apply below_alloc | apply pw_below_drewN | apply below_drew1 | refine below_set ?_ GE105.out | refine below_set ?_ GE114.out) | exact HB.out)⟩⟩
            · rw [if_neg c31] at H
              have c31b0 : (t109 != false) = false := by simpa using c31
              (try (have c31b1 : decide (t109 = false) = true := by simpa using c31))
              (try (have c31b2 : (t109 == false) = true := by simpa using c31))
              clear c31
              by_cases c35 : t109 = true
              · subst c35
                have H1 : (laws_FnFrame.j1 kj2 l1 (!(t110 == t101) || (!(t111 == t102) || (!(t112 == t103) || (!(t113 == t104)))))) = some true := by rw [if_pos rfl] at H; exact H
                clear H
                have H := H1
                clear H1
                have H' := Aside0.mk H
                clear H
                have hnb36 := NB114_105.out
                have hnc36 := NB105_114.out
                have hcz37_0 : w16.cell? ⟨gb114, 0, none⟩ = some (.bool false) := (blk_cell BK114.out 0).trans rfl
                have hcz37_1 : w16.cell? ⟨gb114, 1, none⟩ = some (.int .u32 0) := (blk_cell BK114.out 1).trans rfl
                have hcz37_2 : w16.cell? ⟨gb114, 2, none⟩ = some (.int .i64 0) := (blk_cell BK114.out 2).trans rfl
                have hcz37_3 : w16.cell? ⟨gb114, 3, none⟩ = some (.int .u32 0) := (blk_cell BK114.out 3).trans rfl
                have hcz37_4 : w16.cell? ⟨gb114, 4, none⟩ = some (.int .u32 0) := (blk_cell BK114.out 4).trans rfl
                have hfz37_0 := blk_frozen BK114.out 0
                have hfz37_1 := blk_frozen BK114.out 1
                have hfz37_2 := blk_frozen BK114.out 2
                have hfz37_3 := blk_frozen BK114.out 3
                have hfz37_4 := blk_frozen BK114.out 4
                have hcz38_0 : w16.cell? ⟨gb105, 0, none⟩ = some (.int .u32 t101) := (blk_cell BK105.out 0).trans rfl
                have hcz38_1 : w16.cell? ⟨gb105, 1, none⟩ = some (.int .i64 t102) := (blk_cell BK105.out 1).trans rfl
                have hcz38_2 : w16.cell? ⟨gb105, 2, none⟩ = some (.int .u32 t103) := (blk_cell BK105.out 2).trans rfl
                have hcz38_3 : w16.cell? ⟨gb105, 3, none⟩ = some (.int .u32 t104) := (blk_cell BK105.out 3).trans rfl
                have hfz38_0 := blk_frozen BK105.out 0
                have hfz38_1 := blk_frozen BK105.out 1
                have hfz38_2 := blk_frozen BK105.out 2
                have hfz38_3 := blk_frozen BK105.out 3
                go_wp2
                go_meet
                case rel => exact ⟨_, ((!(t110 == t101) || (!(t111 == t102) || (!(t112 == t103) || (!(t113 == t104)))))), (by first | rfl | (simp; done) | (simp [*]; done)), H', ⟨by have := HJ2.out; first | omega | exact Nat.le_refl _⟩, ⟨by (with_reducible repeat (first | refine blk_drewN ?_ _ | refine blk_drew ?_ | refine blk_alloc ?_ _)); refine blk_far ?_ NB105_114.out _; (with_reducible repeat (first | refine blk_drewN ?_ _ | refine blk_drew ?_ | refine blk_alloc ?_ _)); refine blk_far ?_ NB105_114.out _; (with_reducible repeat (first | refine blk_drewN ?_ _ | refine blk_drew ?_ | refine blk_alloc ?_ _)); refine blk_far ?_ NB105_114.out _; (with_reducible repeat (first | refine blk_drewN ?_ _ | refine blk_drew ?_ | refine blk_alloc ?_ _)); refine blk_far ?_ NB105_114.out _; (with_reducible repeat (first | refine blk_drewN ?_ _ | refine blk_drew ?_ | refine blk_alloc ?_ _)); refine blk_far ?_ NB105_114.out _; (with_reducible repeat (first | refine blk_drewN ?_ _ | refine blk_drew ?_ | refine blk_alloc ?_ _)); exact BK105.out⟩, ⟨by (with_reducible repeat (first | refine blk_drewN ?_ _ | refine blk_drew ?_ | refine blk_alloc ?_ _)); refine blk_put (cs := #[.bool true, .int .u32 t110, .int .i64 t111, .int .u32 t112, .int .u32 0]) ?_ 4 _ rfl; (with_reducible repeat (first | refine blk_drewN ?_ _ | refine blk_drew ?_ | refine blk_alloc ?_ _)); refine blk_put (cs := #[.bool true, .int .u32 t110, .int .i64 t111, .int .u32 0, .int .u32 0]) ?_ 3 _ rfl; (with_reducible repeat (first | refine blk_drewN ?_ _ | refine blk_drew ?_ | refine blk_alloc ?_ _)); refine blk_put (cs := #[.bool true, .int .u32 t110, .int .i64 0, .int .u32 0, .int .u32 0]) ?_ 2 _ rfl; (with_reducible repeat (first | refine blk_drewN ?_ _ | refine blk_drew ?_ | refine blk_alloc ?_ _)); refine blk_put (cs := #[.bool true, .int .u32 0, .int .i64 0, .int .u32 0, .int .u32 0]) ?_ 1 _ rfl; (with_reducible repeat (first | refine blk_drewN ?_ _ | refine blk_drew ?_ | refine blk_alloc ?_ _)); refine blk_put (cs := #[.bool false, .int .u32 0, .int .i64 0, .int .u32 0, .int .u32 0]) ?_ 0 _ (by first | rfl | simp [*]); (with_reducible repeat (first | refine blk_drewN ?_ _ | refine blk_drew ?_ | refine blk_alloc ?_ _)); exact BK114.out⟩, ⟨by repeat (first | (with_reducible first | exact HB.out | apply below_alloc | apply pw_below_drewN | apply below_drew1 | refine below_set ?_ GE105.out | refine below_set ?_ GE114.out) | exact HB.out)⟩⟩
              · replace c35 := Bool.eq_false_iff.mpr c35
                subst c35
                have H1 : (laws_FnFrame.j1 kj2 l1 false) = some true := by rw [if_neg (show ¬ (false = true) by decide)] at H; exact H
                clear H
                have H := H1
                clear H1
                have H' := Aside0.mk H
                clear H
                have hnb39 := NB114_105.out
                have hnc39 := NB105_114.out
                have hcz40_0 : w16.cell? ⟨gb114, 0, none⟩ = some (.bool false) := (blk_cell BK114.out 0).trans rfl
                have hcz40_1 : w16.cell? ⟨gb114, 1, none⟩ = some (.int .u32 0) := (blk_cell BK114.out 1).trans rfl
                have hcz40_2 : w16.cell? ⟨gb114, 2, none⟩ = some (.int .i64 0) := (blk_cell BK114.out 2).trans rfl
                have hcz40_3 : w16.cell? ⟨gb114, 3, none⟩ = some (.int .u32 0) := (blk_cell BK114.out 3).trans rfl
                have hcz40_4 : w16.cell? ⟨gb114, 4, none⟩ = some (.int .u32 0) := (blk_cell BK114.out 4).trans rfl
                have hfz40_0 := blk_frozen BK114.out 0
                have hfz40_1 := blk_frozen BK114.out 1
                have hfz40_2 := blk_frozen BK114.out 2
                have hfz40_3 := blk_frozen BK114.out 3
                have hfz40_4 := blk_frozen BK114.out 4
                have hcz41_0 : w16.cell? ⟨gb105, 0, none⟩ = some (.int .u32 t101) := (blk_cell BK105.out 0).trans rfl
                have hcz41_1 : w16.cell? ⟨gb105, 1, none⟩ = some (.int .i64 t102) := (blk_cell BK105.out 1).trans rfl
                have hcz41_2 : w16.cell? ⟨gb105, 2, none⟩ = some (.int .u32 t103) := (blk_cell BK105.out 2).trans rfl
                have hcz41_3 : w16.cell? ⟨gb105, 3, none⟩ = some (.int .u32 t104) := (blk_cell BK105.out 3).trans rfl
                have hfz41_0 := blk_frozen BK105.out 0
                have hfz41_1 := blk_frozen BK105.out 1
                have hfz41_2 := blk_frozen BK105.out 2
                have hfz41_3 := blk_frozen BK105.out 3
                go_wp2
                go_meet
                case rel => exact ⟨_, (false), (by first | rfl | (simp; done) | (simp [*]; done)), H', ⟨by have := HJ2.out; first | omega | exact Nat.le_refl _⟩, ⟨by (with_reducible repeat (first | refine blk_drewN ?_ _ | refine blk_drew ?_ | refine blk_alloc ?_ _)); refine blk_far ?_ NB105_114.out _; (with_reducible repeat (first | refine blk_drewN ?_ _ | refine blk_drew ?_ | refine blk_alloc ?_ _)); refine blk_far ?_ NB105_114.out _; (with_reducible repeat (first | refine blk_drewN ?_ _ | refine blk_drew ?_ | refine blk_alloc ?_ _)); refine blk_far ?_ NB105_114.out _; (with_reducible repeat (first | refine blk_drewN ?_ _ | refine blk_drew ?_ | refine blk_alloc ?_ _)); refine blk_far ?_ NB105_114.out _; (with_reducible repeat (first | refine blk_drewN ?_ _ | refine blk_drew ?_ | refine blk_alloc ?_ _)); refine blk_far ?_ NB105_114.out _; (with_reducible repeat (first | refine blk_drewN ?_ _ | refine blk_drew ?_ | refine blk_alloc ?_ _)); exact BK105.out⟩, ⟨by (with_reducible repeat (first | refine blk_drewN ?_ _ | refine blk_drew ?_ | refine blk_alloc ?_ _)); refine blk_put (cs := #[.bool false, .int .u32 t110, .int .i64 t111, .int .u32 t112, .int .u32 0]) ?_ 4 _ rfl; (with_reducible repeat (first | refine blk_drewN ?_ _ | refine blk_drew ?_ | refine blk_alloc ?_ _)); refine blk_put (cs := #[.bool false, .int .u32 t110, .int .i64 t111, .int .u32 0, .int .u32 0]) ?_ 3 _ rfl; (with_reducible repeat (first | refine blk_drewN ?_ _ | refine blk_drew ?_ | refine blk_alloc ?_ _)); refine blk_put (cs := #[.bool false, .int .u32 t110, .int .i64 0, .int .u32 0, .int .u32 0]) ?_ 2 _ rfl; (with_reducible repeat (first | refine blk_drewN ?_ _ | refine blk_drew ?_ | refine blk_alloc ?_ _)); refine blk_put (cs := #[.bool false, .int .u32 0, .int .i64 0, .int .u32 0, .int .u32 0]) ?_ 1 _ rfl; (with_reducible repeat (first | refine blk_drewN ?_ _ | refine blk_drew ?_ | refine blk_alloc ?_ _)); refine blk_put (cs := #[.bool false, .int .u32 0, .int .i64 0, .int .u32 0, .int .u32 0]) ?_ 0 _ (by first | rfl | simp [*]); (with_reducible repeat (first | refine blk_drewN ?_ _ | refine blk_drew ?_ | refine blk_alloc ?_ _)); exact BK114.out⟩, ⟨by repeat (first | (with_reducible first | exact HB.out | apply below_alloc | apply pw_below_drewN | apply below_drew1 | refine below_set ?_ GE105.out | refine below_set ?_ GE114.out) | exact HB.out)⟩⟩
        case rest =>
          clear HC9
          try clear c1
          try clear c2
          try clear p2
          try clear c3
          try clear c4
          try clear c4b0
          try clear c4b1
          try clear c5
          try clear c6
          try clear c13
          try clear c17
          try clear c19
          try clear c19b0
          try clear c20
          try clear c20b0
          try clear c20b1
          try clear c20b2
          try clear c21
          try clear c24
          try clear c25
          try clear c28
          try clear c31
          try clear c31b0
          try clear c31b1
          try clear c31b2
          try clear c32
          try clear c35
          try clear c36
          try clear c39
          try clear hcz12_0
          try clear hcz12_1
          try clear hcz12_2
          try clear hcz12_3
          try clear hcz18_0
          try clear hcz18_1
          try clear hcz18_2
          try clear hcz18_3
          try clear hcz18_4
          try clear hcz22_0
          try clear hcz22_1
          try clear hcz22_2
          try clear hcz22_3
          try clear hcz22_4
          try clear hcz23_0
          try clear hcz23_1
          try clear hcz23_2
          try clear hcz23_3
          try clear hcz26_0
          try clear hcz26_1
          try clear hcz26_2
          try clear hcz26_3
          try clear hcz26_4
          try clear hcz27_0
          try clear hcz27_1
          try clear hcz27_2
          try clear hcz27_3
          try clear hcz29_0
          try clear hcz29_1
          try clear hcz29_2
          try clear hcz29_3
          try clear hcz29_4
          try clear hcz30_0
          try clear hcz30_1
          try clear hcz30_2
          try clear hcz30_3
          try clear hcz33_0
          try clear hcz33_1
          try clear hcz33_2
          try clear hcz33_3
          try clear hcz33_4
          try clear hcz34_0
          try clear hcz34_1
          try clear hcz34_2
          try clear hcz34_3
          try clear hcz37_0
          try clear hcz37_1
          try clear hcz37_2
          try clear hcz37_3
          try clear hcz37_4
          try clear hcz38_0
          try clear hcz38_1
          try clear hcz38_2
          try clear hcz38_3
          try clear hcz40_0
          try clear hcz40_1
          try clear hcz40_2
          try clear hcz40_3
          try clear hcz40_4
          try clear hcz41_0
          try clear hcz41_1
          try clear hcz41_2
          try clear hcz41_3
          try clear hfz12_0
          try clear hfz12_1
          try clear hfz12_2
          try clear hfz12_3
          try clear hfz18_0
          try clear hfz18_1
          try clear hfz18_2
          try clear hfz18_3
          try clear hfz18_4
          try clear hfz22_0
          try clear hfz22_1
          try clear hfz22_2
          try clear hfz22_3
          try clear hfz22_4
          try clear hfz23_0
          try clear hfz23_1
          try clear hfz23_2
          try clear hfz23_3
          try clear hfz26_0
          try clear hfz26_1
          try clear hfz26_2
          try clear hfz26_3
          try clear hfz26_4
          try clear hfz27_0
          try clear hfz27_1
          try clear hfz27_2
          try clear hfz27_3
          try clear hfz29_0
          try clear hfz29_1
          try clear hfz29_2
          try clear hfz29_3
          try clear hfz29_4
          try clear hfz30_0
          try clear hfz30_1
          try clear hfz30_2
          try clear hfz30_3
          try clear hfz33_0
          try clear hfz33_1
          try clear hfz33_2
          try clear hfz33_3
          try clear hfz33_4
          try clear hfz34_0
          try clear hfz34_1
          try clear hfz34_2
          try clear hfz34_3
          try clear hfz37_0
          try clear hfz37_1
          try clear hfz37_2
          try clear hfz37_3
          try clear hfz37_4
          try clear hfz38_0
          try clear hfz38_1
          try clear hfz38_2
          try clear hfz38_3
          try clear hfz40_0
          try clear hfz40_1
          try clear hfz40_2
          try clear hfz40_3
          try clear hfz40_4
          try clear hfz41_0
          try clear hfz41_1
          try clear hfz41_2
          try clear hfz41_3
          try clear p2
          obtain ⟨kq, x42_8, rfl, HA, HJ8, BK105, BK114, HB⟩ := hcut
          cases kq with
          | zero => exact absurd HA.out (by simp [laws_FnFrame.j1])
          | succ kj8 =>
            have H := HA.out
            clear HA
            simp only [laws_FnFrame.j1] at H
            by_cases c42 : x42_8 = true
            · subst c42
              have H1 : (some false) = some true := by rw [if_pos rfl] at H; exact H
              clear H
              have H := H1
              clear H1
              exact absurd H (by simp)
            · replace c42 := Bool.eq_false_iff.mpr c42
              subst c42
              have H1 : ((spec_DrawDecodeFrame.f kj8 l1).bind fun t115 => ((impl_DecodeFrame.f t115).bind fun bt118 => ((spec_DecodeFrame.f t115).bind fun bt124 => (if (bt118.1 == bt124.1 && ((bt118.2.1 == bt124.2.1 && (bt118.2.2.1 == bt124.2.2.1 && (bt118.2.2.2.1 == bt124.2.2.2.1 && (bt118.2.2.2.2 == bt124.2.2.2.2)))))) = true then (if bt118.1 = true then ((impl_EncodeFrame.f bt118.2.1 bt118.2.2.1 bt118.2.2.2.1 bt118.2.2.2.2).bind fun t129 => ((laws_lwBytes.f t129 t115).bind fun t132 => (some t132))) else (some true)) else (some false))))) = some true := by rw [if_neg (show ¬ (false = true) by decide)] at H; exact H
              clear H
              have H := H1
              clear H1
              replace H := Option.bind_eq_some_iff.mp H
              obtain ⟨t115, A430, H⟩ := H
              replace H : ((impl_DecodeFrame.f t115).bind fun bt118 => ((spec_DecodeFrame.f t115).bind fun bt124 => (if (bt118.1 == bt124.1 && ((bt118.2.1 == bt124.2.1 && (bt118.2.2.1 == bt124.2.2.1 && (bt118.2.2.2.1 == bt124.2.2.2.1 && (bt118.2.2.2.2 == bt124.2.2.2.2)))))) = true then (if bt118.1 = true then ((impl_EncodeFrame.f bt118.2.1 bt118.2.2.1 bt118.2.2.2.1 bt118.2.2.2.2).bind fun t129 => ((laws_lwBytes.f t129 t115).bind fun t132 => (some t132))) else (some true)) else (some false)))) = some true := H
              have A43 := Aside0.mk A430
              clear A430
              replace H := Option.bind_eq_some_iff.mp H
              obtain ⟨⟨t118, t119, t120, t121, t122⟩, A440, H⟩ := H
              replace H : ((spec_DecodeFrame.f t115).bind fun bt124 => (if (t118 == bt124.1 && ((t119 == bt124.2.1 && (t120 == bt124.2.2.1 && (t121 == bt124.2.2.2.1 && (t122 == bt124.2.2.2.2)))))) = true then (if t118 = true then ((impl_EncodeFrame.f t119 t120 t121 t122).bind fun t129 => ((laws_lwBytes.f t129 t115).bind fun t132 => (some t132))) else (some true)) else (some false))) = some true := H
              have A44 := Aside0.mk A440
              clear A440
              replace H := Option.bind_eq_some_iff.mp H
              obtain ⟨⟨t124, t125, t126, t127, t128⟩, A450, H⟩ := H
              replace H : (if (t118 == t124 && ((t119 == t125 && (t120 == t126 && (t121 == t127 && (t122 == t128)))))) = true then (if t118 = true then ((impl_EncodeFrame.f t119 t120 t121 t122).bind fun t129 => ((laws_lwBytes.f t129 t115).bind fun t132 => (some t132))) else (some true)) else (some false)) = some true := H
              have A45 := Aside0.mk A450
              clear A450
              by_cases c46 : (t118 == t124 && ((t119 == t125 && (t120 == t126 && (t121 == t127 && (t122 == t128)))))) = true
              · rw [if_pos c46] at H
                have c46b0 : (t118 == t124 && ((t119 == t125 && (t120 == t126 && (t121 == t127 && (t122 == t128)))))) = true := c46
                (try (have c46b1 : decide (t118 = t124 && ((t119 == t125 && (t120 == t126 && (t121 == t127 && (t122 == t128)))))) = true := by simpa using c46))
                (try (have c46b2 : (t118 == t124 && ((t119 == t125 && (t120 == t126 && (t121 == t127 && (t122 == t128)))))) = true := by simpa using c46))
                clear c46
                by_cases c47 : t118 = true
                · subst c47
                  have H1 : ((impl_EncodeFrame.f t119 t120 t121 t122).bind fun t129 => ((laws_lwBytes.f t129 t115).bind fun t132 => (some t132))) = some true := by rw [if_pos rfl] at H; exact H
                  clear H
                  have H := H1
                  clear H1
                  replace H := Option.bind_eq_some_iff.mp H
                  obtain ⟨t129, A480, H⟩ := H
                  replace H : ((laws_lwBytes.f t129 t115).bind fun t132 => (some t132)) = some true := H
                  have A48 := Aside0.mk A480
                  clear A480
                  replace H := Option.bind_eq_some_iff.mp H
                  obtain ⟨t132, A490, H⟩ := H
                  replace H : (some t132) = some true := H
                  have A49 := Aside0.mk A490
                  clear A490
                  have hS_ := Option.some.inj H
                  subst hS_
                  try go_wp2_with (first | ((with_reducible refine gate_callee (f := 23) rfl ?_); refine goesL_ (some 44) rfl rfl Try.func23 (by kernel_rfl) rfl #[.slice A1 l1.length c1] rfl (by (try simp only [List.map_toArray, List.map_cons, List.map_nil]); first | done | rfl | (simp only [List.length_drop, List.length_take]; rfl)) ?_; (with_reducible refine (spec_DrawDecodeFrame.calls kj8 _ _ l1 t115 _ ?side1 ?side2 A43.out).mono ?_); (case side1 => repeat (first | exact (Kd.C_below HR1.out HB.out) | (with_reducible refine Kd.C_alloc ?_ _) | (with_reducible refine Kd.C_drewN ?_ _) | (with_reducible refine Kd.C_drew ?_))); (case side2 => exact HC1.out); rintro e w50 ⟨v116, rfl, ho0, hb⟩; refine ⟨_, rfl, ?_⟩; have n0_ := Aside0.mk (Kd.R_lower ho0 (below_size (by repeat (first | (with_reducible first | exact HB.out | apply below_alloc | apply pw_below_drewN | apply below_drew1 | refine below_set ?_ GE105.out | refine below_set ?_ GE114.out) | exact HB.out)))); have n1_ := Aside0.mk (blk_below (g := gb105) (o := .cells #[.int .u32 t101, .int .i64 t102, .int .u32 t103, .int .u32 t104] 27 (0, 0)) (by (with_reducible repeat (first | refine blk_drewN ?_ _ | refine blk_drew ?_ | refine blk_alloc ?_ _)); exact BK105.out) hb); have n2_ := Aside0.mk (blk_below (g := gb114) (o := .cells #[.bool t109, .int .u32 t110, .int .i64 t111, .int .u32 t112, .int .u32 t113] 33 (0, 0)) (by (with_reducible repeat (first | refine blk_drewN ?_ _ | refine blk_drew ?_ | refine blk_alloc ?_ _)); exact BK114.out) hb); have n3_ := Aside0.mk (below_step (by repeat (first | (with_reducible first | exact HB.out | apply below_alloc | apply pw_below_drewN | apply below_drew1 | refine below_set ?_ GE105.out | refine below_set ?_ GE114.out) | exact HB.out)) hb); clear BK105; clear BK114; clear HB; have HO117 := n0_; have BK105 := n1_; have BK114 := n2_; have HB := n3_; clear n0_ n1_ n2_ n3_; (try clear hb); (try clear hb2); (try clear hk); (try clear hi); (try clear ho0); obtain ⟨Ao51, co51, eo51⟩ := Kd.R_slice HO117.out; subst eo51) | ((with_reducible refine gate_callee (f := 19) rfl ?_); refine goesL_ (some 46) rfl rfl Try.func19 (by kernel_rfl) rfl #[.slice Ao51 t115.length co51] rfl (by (try simp only [List.map_toArray, List.map_cons, List.map_nil]); first | done | rfl | (simp only [List.length_drop, List.length_take]; rfl)) ?_; (with_reducible refine (impl_DecodeFrame.calls _ _ t115 true t119 t120 t121 t122 _ ?side1 ?side2 A44.out).mono ?_); (case side1 => repeat (first | exact (Kd.R_reads' HO117.out).2.2 | (with_reducible refine Kd.C_alloc ?_ _) | (with_reducible refine Kd.C_drewN ?_ _) | (with_reducible refine Kd.C_drew ?_))); (case side2 => exact (Kd.R_reads' HO117.out).2.1); rintro e w52 ⟨rfl, hb⟩; refine ⟨_, rfl, ?_⟩; have n0_ := Aside0.mk (Kd.R_below (by (with_reducible repeat (first | apply Kd.R_alloc | apply Kd.R_drewN | apply Kd.R_drew)); exact HO117.out) hb); have n1_ := Aside0.mk (blk_below (g := gb105) (o := .cells #[.int .u32 t101, .int .i64 t102, .int .u32 t103, .int .u32 t104] 27 (0, 0)) (by (with_reducible repeat (first | refine blk_drewN ?_ _ | refine blk_drew ?_ | refine blk_alloc ?_ _)); exact BK105.out) hb); have n2_ := Aside0.mk (blk_below (g := gb114) (o := .cells #[.bool t109, .int .u32 t110, .int .i64 t111, .int .u32 t112, .int .u32 t113] 33 (0, 0)) (by (with_reducible repeat (first | refine blk_drewN ?_ _ | refine blk_drew ?_ | refine blk_alloc ?_ _)); exact BK114.out) hb); have n3_ := Aside0.mk (below_step (by repeat (first | (with_reducible first | exact HB.out | apply below_alloc | apply pw_below_drewN | apply below_drew1 | refine below_set ?_ GE105.out | refine below_set ?_ GE114.out) | exact HB.out)) hb); clear HO117; clear BK105; clear BK114; clear HB; have HO117 := n0_; have BK105 := n1_; have BK114 := n2_; have HB := n3_; clear n0_ n1_ n2_ n3_; (try clear hb); (try clear hb2); (try clear hk); (try clear hi)) | ((with_reducible refine gate_dst (N := 8) rfl ?_); (try (refine gate_guard (by rfl) ?_; dsimp only)); refine box_event ?hg (N := 8) ?hd (cs := #[.bool false, .int .u32 0, .int .i64 0, .int .u32 0, .int .u32 0]) (t := 33) ?hr ?_; (case hd => rfl); (case hg => rfl); (case hr => first | (go_simp; done) | (go_simp; rfl)); intro gb123 hg w53 hbox hb; have n0_ := Aside0.mk (Kd.R_below (by (with_reducible repeat (first | apply Kd.R_alloc | apply Kd.R_drewN | apply Kd.R_drew)); exact HO117.out) hb); have n1_ := Aside0.mk (blk_below (g := gb105) (o := .cells #[.int .u32 t101, .int .i64 t102, .int .u32 t103, .int .u32 t104] 27 (0, 0)) (by (with_reducible repeat (first | refine blk_drewN ?_ _ | refine blk_drew ?_ | refine blk_alloc ?_ _)); exact BK105.out) hb); have n2_ := Aside0.mk (blk_below (g := gb114) (o := .cells #[.bool t109, .int .u32 t110, .int .i64 t111, .int .u32 t112, .int .u32 t113] 33 (0, 0)) (by (with_reducible repeat (first | refine blk_drewN ?_ _ | refine blk_drew ?_ | refine blk_alloc ?_ _)); exact BK114.out) hb); have n3_ := Aside0.mk (below_step (by repeat (first | (with_reducible first | exact HB.out | apply below_alloc | apply pw_below_drewN | apply below_drew1 | refine below_set ?_ GE105.out | refine below_set ?_ GE114.out) | exact HB.out)) hb); have n4_ := Aside0.mk (hbox); have n5_ := Aside0.mk ((by rw [hg]; exact (below_size (by repeat (first | (with_reducible first | exact HB.out | apply below_alloc | apply pw_below_drewN | apply below_drew1 | refine below_set ?_ GE105.out | refine below_set ?_ GE114.out) | exact HB.out))) : w.heap.size ≤ gb123)); have n6_ := Aside0.mk ((by rw [hg]; exact (below_size (by repeat (first | (with_reducible first | exact HB.out | apply below_alloc | apply pw_below_drewN | apply below_drew1 | refine below_set ?_ GE105.out | refine below_set ?_ GE114.out) | exact HB.out))) : w.heap.size ≤ gb123)); have n7_ := Aside0.mk ((by rw [hg]; exact Nat.ne_of_lt (blk_lt (g := gb105) (o := .cells #[.int .u32 t101, .int .i64 t102, .int .u32 t103, .int .u32 t104] 27 (0, 0)) (by (with_reducible repeat (first | refine blk_drewN ?_ _ | refine blk_drew ?_ | refine blk_alloc ?_ _)); exact BK105.out)) : gb105 ≠ gb123)); have n8_ := Aside0.mk ((by rw [hg]; exact Nat.ne_of_gt (blk_lt (g := gb105) (o := .cells #[.int .u32 t101, .int .i64 t102, .int .u32 t103, .int .u32 t104] 27 (0, 0)) (by (with_reducible repeat (first | refine blk_drewN ?_ _ | refine blk_drew ?_ | refine blk_alloc ?_ _)); exact BK105.out)) : gb123 ≠ gb105)); have n9_ := Aside0.mk ((by rw [hg]; exact Nat.ne_of_lt (blk_lt (g := gb114) (o := .cells #[.bool t109, .int .u32 t110, .int .i64 t111, .int .u32 t112, .int .u32 t113] 33 (0, 0)) (by (with_reducible repeat (first | refine blk_drewN ?_ _ | refine blk_drew ?_ | refine blk_alloc ?_ _)); exact BK114.out)) : gb114 ≠ gb123)); have n10_ := Aside0.mk ((by rw [hg]; exact Nat.ne_of_gt (blk_lt (g := gb114) (o := .cells #[.bool t109, .int .u32 t110, .int .i64 t111, .int .u32 t112, .int .u32 t113] 33 (0, 0)) (by (with_reducible repeat (first | refine blk_drewN ?_ _ | refine blk_drew ?_ | refine blk_alloc ?_ _)); exact BK114.out)) : gb123 ≠ gb114)); clear HO117; clear BK105; clear BK114; clear HB; have HO117 := n0_; have BK105 := n1_; have BK114 := n2_; have HB := n3_; have BK123 := n4_; have GW123 := n5_; have GE123 := n6_; have NB105_123 := n7_; have NB123_105 := n8_; have NB114_123 := n9_; have NB123_114 := n10_; clear n0_ n1_ n2_ n3_ n4_ n5_ n6_ n7_ n8_ n9_ n10_; clear hb hbox hg; have hnb54 := NB123_105.out; have hnc54 := NB105_123.out; have hnb55 := NB123_114.out; have hnc55 := NB114_123.out; have hcz56_0 : w53.cell? ⟨gb123, 0, none⟩ = some (.bool false) := (blk_cell BK123.out 0).trans rfl; have hcz56_1 : w53.cell? ⟨gb123, 1, none⟩ = some (.int .u32 0) := (blk_cell BK123.out 1).trans rfl; have hcz56_2 : w53.cell? ⟨gb123, 2, none⟩ = some (.int .i64 0) := (blk_cell BK123.out 2).trans rfl; have hcz56_3 : w53.cell? ⟨gb123, 3, none⟩ = some (.int .u32 0) := (blk_cell BK123.out 3).trans rfl; have hcz56_4 : w53.cell? ⟨gb123, 4, none⟩ = some (.int .u32 0) := (blk_cell BK123.out 4).trans rfl; have hfz56_0 := blk_frozen BK123.out 0; have hfz56_1 := blk_frozen BK123.out 1; have hfz56_2 := blk_frozen BK123.out 2; have hfz56_3 := blk_frozen BK123.out 3; have hfz56_4 := blk_frozen BK123.out 4))
                  have n0_ : Aside0 (Kd.R (Kd.int .u8) 5 (((((w53.setCell ⟨gb123, 0, none⟩ (.bool true)).setCell ⟨gb123, 1, none⟩ (.int .u32 t119)).setCell ⟨gb123, 2, none⟩ (.int .i64 t120)).setCell ⟨gb123, 3, none⟩ (.int .u32 t121)).setCell ⟨gb123, 4, none⟩ (.int .u32 t122)) w.heap.size (fun _ => True) (.slice Ao51 t115.length co51) t115) := ⟨by (with_reducible repeat (first | apply Kd.R_alloc | apply Kd.R_drewN | apply Kd.R_drew)); exact Kd.R_mono (Kd.R_far (p := ⟨gb123, 4, none⟩) (Kd.R_far (p := ⟨gb123, 3, none⟩) (Kd.R_far (p := ⟨gb123, 2, none⟩) (Kd.R_far (p := ⟨gb123, 1, none⟩) (Kd.R_far (p := ⟨gb123, 0, none⟩) (Kd.R_types HO117.out BK123.out (by decide)) (fun _ hk => hk.2) (.bool true)) (fun _ hk => hk.2) (.int .u32 t119)) (fun _ hk => hk.2) (.int .i64 t120)) (fun _ hk => hk.2) (.int .u32 t121)) (fun _ hk => hk.2) (.int .u32 t122)) (fun _ hk => trivial)⟩
                  have n1_ : Aside0 ((((((w53.setCell ⟨gb123, 0, none⟩ (.bool true)).setCell ⟨gb123, 1, none⟩ (.int .u32 t119)).setCell ⟨gb123, 2, none⟩ (.int .i64 t120)).setCell ⟨gb123, 3, none⟩ (.int .u32 t121)).setCell ⟨gb123, 4, none⟩ (.int .u32 t122)).heap[gb105]? = some (.cells #[.int .u32 t101, .int .i64 t102, .int .u32 t103, .int .u32 t104] 27 (0, 0))) := ⟨by (with_reducible repeat (first | refine blk_drewN ?_ _ | refine blk_drew ?_ | refine blk_alloc ?_ _)); refine blk_far ?_ NB105_123.out _; (with_reducible repeat (first | refine blk_drewN ?_ _ | refine blk_drew ?_ | refine blk_alloc ?_ _)); refine blk_far ?_ NB105_123.out _; (with_reducible repeat (first | refine blk_drewN ?_ _ | refine blk_drew ?_ | refine blk_alloc ?_ _)); refine blk_far ?_ NB105_123.out _; (with_reducible repeat (first | refine blk_drewN ?_ _ | refine blk_drew ?_ | refine blk_alloc ?_ _)); refine blk_far ?_ NB105_123.out _; (with_reducible repeat (first | refine blk_drewN ?_ _ | refine blk_drew ?_ | refine blk_alloc ?_ _)); refine blk_far ?_ NB105_123.out _; (with_reducible repeat (first | refine blk_drewN ?_ _ | refine blk_drew ?_ | refine blk_alloc ?_ _)); exact BK105.out⟩
                  have n2_ : Aside0 ((((((w53.setCell ⟨gb123, 0, none⟩ (.bool true)).setCell ⟨gb123, 1, none⟩ (.int .u32 t119)).setCell ⟨gb123, 2, none⟩ (.int .i64 t120)).setCell ⟨gb123, 3, none⟩ (.int .u32 t121)).setCell ⟨gb123, 4, none⟩ (.int .u32 t122)).heap[gb114]? = some (.cells #[.bool t109, .int .u32 t110, .int .i64 t111, .int .u32 t112, .int .u32 t113] 33 (0, 0))) := ⟨by (with_reducible repeat (first | refine blk_drewN ?_ _ | refine blk_drew ?_ | refine blk_alloc ?_ _)); refine blk_far ?_ NB114_123.out _; (with_reducible repeat (first | refine blk_drewN ?_ _ | refine blk_drew ?_ | refine blk_alloc ?_ _)); refine blk_far ?_ NB114_123.out _; (with_reducible repeat (first | refine blk_drewN ?_ _ | refine blk_drew ?_ | refine blk_alloc ?_ _)); refine blk_far ?_ NB114_123.out _; (with_reducible repeat (first | refine blk_drewN ?_ _ | refine blk_drew ?_ | refine blk_alloc ?_ _)); refine blk_far ?_ NB114_123.out _; (with_reducible repeat (first | refine blk_drewN ?_ _ | refine blk_drew ?_ | refine blk_alloc ?_ _)); refine blk_far ?_ NB114_123.out _; (with_reducible repeat (first | refine blk_drewN ?_ _ | refine blk_drew ?_ | refine blk_alloc ?_ _)); exact BK114.out⟩
                  have n3_ : Aside0 ((((((w53.setCell ⟨gb123, 0, none⟩ (.bool true)).setCell ⟨gb123, 1, none⟩ (.int .u32 t119)).setCell ⟨gb123, 2, none⟩ (.int .i64 t120)).setCell ⟨gb123, 3, none⟩ (.int .u32 t121)).setCell ⟨gb123, 4, none⟩ (.int .u32 t122)).heap[gb123]? = some (.cells #[.bool true, .int .u32 t119, .int .i64 t120, .int .u32 t121, .int .u32 t122] 33 (0, 0))) := ⟨by (with_reducible repeat (first | refine blk_drewN ?_ _ | refine blk_drew ?_ | refine blk_alloc ?_ _)); refine blk_put (cs := #[.bool true, .int .u32 t119, .int .i64 t120, .int .u32 t121, .int .u32 0]) ?_ 4 _ rfl; (with_reducible repeat (first | refine blk_drewN ?_ _ | refine blk_drew ?_ | refine blk_alloc ?_ _)); refine blk_put (cs := #[.bool true, .int .u32 t119, .int .i64 t120, .int .u32 0, .int .u32 0]) ?_ 3 _ rfl; (with_reducible repeat (first | refine blk_drewN ?_ _ | refine blk_drew ?_ | refine blk_alloc ?_ _)); refine blk_put (cs := #[.bool true, .int .u32 t119, .int .i64 0, .int .u32 0, .int .u32 0]) ?_ 2 _ rfl; (with_reducible repeat (first | refine blk_drewN ?_ _ | refine blk_drew ?_ | refine blk_alloc ?_ _)); refine blk_put (cs := #[.bool true, .int .u32 0, .int .i64 0, .int .u32 0, .int .u32 0]) ?_ 1 _ rfl; (with_reducible repeat (first | refine blk_drewN ?_ _ | refine blk_drew ?_ | refine blk_alloc ?_ _)); refine blk_put (cs := #[.bool false, .int .u32 0, .int .i64 0, .int .u32 0, .int .u32 0]) ?_ 0 _ rfl; (with_reducible repeat (first | refine blk_drewN ?_ _ | refine blk_drew ?_ | refine blk_alloc ?_ _)); exact BK123.out⟩
                  have n4_ : Aside0 (Below w.heap.size w (((((w53.setCell ⟨gb123, 0, none⟩ (.bool true)).setCell ⟨gb123, 1, none⟩ (.int .u32 t119)).setCell ⟨gb123, 2, none⟩ (.int .i64 t120)).setCell ⟨gb123, 3, none⟩ (.int .u32 t121)).setCell ⟨gb123, 4, none⟩ (.int .u32 t122))) := ⟨by repeat (first | (with_reducible first | exact HB.out | apply below_alloc | apply pw_below_drewN | apply below_drew1 | refine below_set ?_ GE105.out | refine below_set ?_ GE114.out | refine below_set ?_ GE123.out) | exact HB.out)⟩
                  (try clear HO117)
                  (try clear BK105)
                  (try clear BK114)
                  (try clear BK123)
                  (try clear HB)
                  generalize (((((w53.setCell ⟨gb123, 0, none⟩ (.bool true)).setCell ⟨gb123, 1, none⟩ (.int .u32 t119)).setCell ⟨gb123, 2, none⟩ (.int .i64 t120)).setCell ⟨gb123, 3, none⟩ (.int .u32 t121)).setCell ⟨gb123, 4, none⟩ (.int .u32 t122)) = w57 at n0_ n1_ n2_ n3_ n4_ ⊢
                  have HO117 := n0_
                  have BK105 := n1_
                  have BK114 := n2_
                  have BK123 := n3_
                  have HB := n4_
                  clear n0_ n1_ n2_ n3_ n4_
                  have n0_ := Aside0.mk (Kd.R_drew HO117.out)
                  have n1_ := Aside0.mk (blk_drew BK105.out)
                  have n2_ := Aside0.mk (blk_drew BK114.out)
                  have n3_ := Aside0.mk (blk_drew BK123.out)
                  have n4_ := Aside0.mk (below_drew1 HB.out)
                  clear HO117
                  clear BK105
                  clear BK114
                  clear BK123
                  clear HB
                  have HO117 := n0_
                  have BK105 := n1_
                  have BK114 := n2_
                  have BK123 := n3_
                  have HB := n4_
                  clear n0_ n1_ n2_ n3_ n4_
                  refine start_ (n := 17) (S := fun w' => w'.cell? ⟨gb123, 0, none⟩ = some (.bool true) ∧ w'.cell? ⟨gb123, 1, none⟩ = some (.int .u32 t119) ∧ w'.cell? ⟨gb123, 2, none⟩ = some (.int .i64 t120) ∧ w'.cell? ⟨gb123, 3, none⟩ = some (.int .u32 t121) ∧ w'.cell? ⟨gb123, 4, none⟩ = some (.int .u32 t122)) (ds := []) #[false, false, false, false, false, false, false, false, false, false, false, false, false, false, false, false, false] (by kernel_rfl) rfl rfl ⟨(blk_cell BK123.out 0).trans rfl, (blk_cell BK123.out 1).trans rfl, (blk_cell BK123.out 2).trans rfl, (blk_cell BK123.out 3).trans rfl, (blk_cell BK123.out 4).trans rfl⟩ (fun hHeld => ?_); refine with_tabW laws_FnFrame.tab9 laws_FnFrame.bits9 (fun HT_ HW_ => ?_)
                  generalize w57.drew = w58 at HO117 BK105 BK114 BK123 HB hHeld ⊢
                  refine pure_ (i := 1) (N := some 48) (v := ?_) (a' := ?_) #[false, true, false, false, false, false, false, false, false, false, false, false, false, false, false, false, false] rfl rfl (any_of HT_.out (by kernel_rfl)) (fun _ _ _ h => h) (Or.inl ⟨by rfl, ?_⟩) ?_ ?_
                  rotate_left
                  · intro w'
                    go_simp
                    with_reducible rfl
                  rotate_left
                  · simp only [Act.put, List.setIfInBounds_toArray, List.set_cons_zero, List.set_cons_succ, i64_w, i32_w]
                    rfl
                  refine take_ (i := 0) (N := some 47) (v := ?_) (a' := ?_) #[true, true, false, false, false, false, false, false, false, false, false, false, false, false, false, false, false] rfl rfl (take_ofW HT_.out HW_.out (by kernel_rfl)) (fun _ _ _ h => h) (Or.inl ⟨by rfl, ?_⟩) hHeld ?_ ?_
                  rotate_left
                  · rintro w' ⟨s0, s1, s2, s3, s4⟩
                    go_simp
                    with_reducible rfl
                  rotate_left
                  · simp only [Act.put, List.setIfInBounds_toArray, List.set_cons_zero, List.set_cons_succ, i64_w, i32_w]
                    rfl
                  refine one_ (i := 2) (N := some 49) #[true, true, true, false, false, false, false, false, false, false, false, false, false, false, false, false, false] rfl rfl (one_of HT_.out (by kernel_rfl)) (by decide) (fun K hK => ?_)
                  refine goes_ Try.func17 (by kernel_rfl) rfl #[.slice Ao51 t115.length co51] (by rfl) rfl rfl (by (try simp only [List.map_toArray, List.map_cons, List.map_nil]); first | done | rfl | (simp only [List.length_drop, List.length_take]; rfl)) ?_
                  with_reducible refine (spec_DecodeFrame.calls _ _ t115 t124 t125 t126 t127 t128 _ ?side1 ?side2 A45.out).mono ?_
                  (case side1 => repeat (first | exact (Kd.R_reads' HO117.out).2.2 | (with_reducible refine Kd.C_alloc ?_ _) | (with_reducible refine Kd.C_drewN ?_ _) | (with_reducible refine Kd.C_drew ?_)))
                  (case side2 => exact (Kd.R_reads' HO117.out).2.1)
                  rintro e w59 ⟨rfl, hb⟩
                  refine ⟨_, rfl, ?_⟩
                  have n0_ := Aside0.mk (Kd.R_below (by (with_reducible repeat (first | apply Kd.R_alloc | apply Kd.R_drewN | apply Kd.R_drew)); exact HO117.out) hb)
                  have n1_ := Aside0.mk (blk_below (g := gb105) (o := .cells #[.int .u32 t101, .int .i64 t102, .int .u32 t103, .int .u32 t104] 27 (0, 0)) (by (with_reducible repeat (first | refine blk_drewN ?_ _ | refine blk_drew ?_ | refine blk_alloc ?_ _)); exact BK105.out) hb)
                  have n2_ := Aside0.mk (blk_below (g := gb114) (o := .cells #[.bool t109, .int .u32 t110, .int .i64 t111, .int .u32 t112, .int .u32 t113] 33 (0, 0)) (by (with_reducible repeat (first | refine blk_drewN ?_ _ | refine blk_drew ?_ | refine blk_alloc ?_ _)); exact BK114.out) hb)
                  have n3_ := Aside0.mk (blk_below (g := gb123) (o := .cells #[.bool true, .int .u32 t119, .int .i64 t120, .int .u32 t121, .int .u32 t122] 33 (0, 0)) (by (with_reducible repeat (first | refine blk_drewN ?_ _ | refine blk_drew ?_ | refine blk_alloc ?_ _)); exact BK123.out) hb)
                  have n4_ := Aside0.mk (below_step (by repeat (first | (with_reducible first | exact HB.out | apply below_alloc | apply pw_below_drewN | apply below_drew1 | refine below_set ?_ GE105.out | refine below_set ?_ GE114.out | refine below_set ?_ GE123.out) | exact HB.out)) hb)
                  clear HO117
                  clear BK105
                  clear BK114
                  clear BK123
                  clear HB
                  have HO117 := n0_
                  have BK105 := n1_
                  have BK114 := n2_
                  have BK123 := n3_
                  have HB := n4_
                  clear n0_ n1_ n2_ n3_ n4_
                  (try clear hb)
                  (try clear hb2)
                  (try clear hk)
                  (try clear hi)
                  refine hK.out _ _ ⟨(blk_cell BK123.out 0).trans rfl, (blk_cell BK123.out 1).trans rfl, (blk_cell BK123.out 2).trans rfl, (blk_cell BK123.out 3).trans rfl, (blk_cell BK123.out 4).trans rfl⟩ (fun hHeld => ?_)
                  clear hK K
                  refine norm_ (a' := ?_) ?_ ?_
                  rotate_left
                  · show Act.put _ (some 49) _ = _
                    simp only [Act.put, List.setIfInBounds_toArray, List.set_cons_zero, List.set_cons_succ, i64_w, i32_w]
                    rfl
                  refine pure_ (i := 3) (N := some 50) (v := .bool true) (a' := ?_) #[true, true, true, true, false, false, false, false, false, false, false, false, false, false, false, false, false] rfl rfl (any_of HT_.out (by kernel_rfl)) (fun _ _ _ h => h) (Or.inl ⟨by rfl, ?yl3⟩) ?ha3 ?hh3
                  case yl3 =>
                    intro w'
                    go_simp
                    first | done | with_reducible rfl | (rw [c46b0]; done) | (simp only [c46b0]; done) | (simp [c46b0]; done) | (have q_ := c46b0; simp at q_; simp [q_]; done) | (trace_state; done)
                  case ha3 =>
                    simp only [Act.put, List.setIfInBounds_toArray, List.set_cons_zero, List.set_cons_succ, i64_w, i32_w]
                    rfl
                  refine pure_ (i := 4) (N := some 51) (v := ?_) (a' := ?_) #[true, true, true, true, true, false, false, false, false, false, false, false, false, false, false, false, false] rfl rfl (any_of HT_.out (by kernel_rfl)) (fun _ _ _ h => h) (Or.inl ⟨by rfl, ?_⟩) ?_ ?_
                  rotate_left
                  · intro w'
                    go_simp
                    with_reducible rfl
                  rotate_left
                  · simp only [Act.put, List.setIfInBounds_toArray, List.set_cons_zero, List.set_cons_succ, i64_w, i32_w]
                    rfl
                  refine pure_ (i := 5) (N := some 52) (v := ?_) (a' := ?_) #[true, true, true, true, true, true, false, false, false, false, false, false, false, false, false, false, false] rfl rfl (any_of HT_.out (by kernel_rfl)) (fun _ _ _ h => h) (Or.inl ⟨by rfl, ?_⟩) ?_ ?_
                  rotate_left
                  · intro w'
                    go_simp
                    with_reducible rfl
                  rotate_left
                  · simp only [Act.put, List.setIfInBounds_toArray, List.set_cons_zero, List.set_cons_succ, i64_w, i32_w]
                    rfl
                  refine take_ (i := 6) (N := some 53) (v := ?_) (a' := ?_) #[true, true, true, true, true, true, true, false, false, false, false, false, false, false, false, false, false] rfl rfl (take_ofW HT_.out HW_.out (by kernel_rfl)) (fun _ _ _ h => h) (Or.inl ⟨by rfl, ?_⟩) hHeld ?_ ?_
                  rotate_left
                  · rintro w' ⟨s0, s1, s2, s3, s4⟩
                    go_simp
                    with_reducible rfl
                  rotate_left
                  · simp only [Act.put, List.setIfInBounds_toArray, List.set_cons_zero, List.set_cons_succ, i64_w, i32_w]
                    rfl
                  refine pure_ (i := 7) (N := some 54) (v := ?_) (a' := ?_) #[true, true, true, true, true, true, true, true, false, false, false, false, false, false, false, false, false] rfl rfl (any_of HT_.out (by kernel_rfl)) (fun _ _ _ h => h) (Or.inl ⟨by rfl, ?_⟩) ?_ ?_
                  rotate_left
                  · intro w'
                    go_simp
                    with_reducible rfl
                  rotate_left
                  · simp only [Act.put, List.setIfInBounds_toArray, List.set_cons_zero, List.set_cons_succ, i64_w, i32_w]
                    rfl
                  refine pure_ (i := 8) (N := some 55) (v := ?_) (a' := ?_) #[true, true, true, true, true, true, true, true, true, false, false, false, false, false, false, false, false] rfl rfl (any_of HT_.out (by kernel_rfl)) (fun _ _ _ h => h) (Or.inl ⟨by rfl, ?_⟩) ?_ ?_
                  rotate_left
                  · intro w'
                    go_simp
                    with_reducible rfl
                  rotate_left
                  · simp only [Act.put, List.setIfInBounds_toArray, List.set_cons_zero, List.set_cons_succ, i64_w, i32_w]
                    rfl
                  refine pure_ (i := 9) (N := some 56) (v := ?_) (a' := ?_) #[true, true, true, true, true, true, true, true, true, true, false, false, false, false, false, false, false] rfl rfl (any_of HT_.out (by kernel_rfl)) (fun _ _ _ h => h) (Or.inl ⟨by rfl, ?_⟩) ?_ ?_
                  rotate_left
                  · intro w'
                    go_simp
                    with_reducible rfl
                  rotate_left
                  · simp only [Act.put, List.setIfInBounds_toArray, List.set_cons_zero, List.set_cons_succ, i64_w, i32_w]
                    rfl
                  refine pure_ (i := 12) (N := some 59) (v := ?_) (a' := ?_) #[true, true, true, true, true, true, true, true, true, true, false, false, true, false, false, false, false] rfl rfl (any_of HT_.out (by kernel_rfl)) (fun _ _ _ h => h) (Or.inl ⟨by rfl, ?_⟩) ?_ ?_
                  rotate_left
                  · intro w'
                    go_simp
                    with_reducible rfl
                  rotate_left
                  · simp only [Act.put, List.setIfInBounds_toArray, List.set_cons_zero, List.set_cons_succ, i64_w, i32_w]
                    rfl
                  refine take_ (i := 10) (N := some 57) (v := ?_) (a' := ?_) #[true, true, true, true, true, true, true, true, true, true, true, false, true, false, false, false, false] rfl rfl (take_ofW HT_.out HW_.out (by kernel_rfl)) (fun _ _ _ h => h) (Or.inl ⟨by rfl, ?_⟩) hHeld ?_ ?_
                  rotate_left
                  · rintro w' ⟨s0, s1, s2, s3, s4⟩
                    go_simp
                    with_reducible rfl
                  rotate_left
                  · simp only [Act.put, List.setIfInBounds_toArray, List.set_cons_zero, List.set_cons_succ, i64_w, i32_w]
                    rfl
                  refine one_ (i := 11) (N := some 58) #[true, true, true, true, true, true, true, true, true, true, true, true, true, false, false, false, false] rfl rfl (one_of HT_.out (by kernel_rfl)) (by decide) (fun K hK => ?_)
                  refine goes_ Try.func13 (by kernel_rfl) rfl #[.agg #[.int .u32 t119, .int .i64 t120, .int .u32 t121, .int .u32 t122]] (by rfl) rfl rfl (by (try simp only [List.map_toArray, List.map_cons, List.map_nil]); first | done | rfl | (simp only [List.length_drop, List.length_take]; rfl)) ?_
                  with_reducible refine (impl_EncodeFrame.calls t119 t120 t121 t122 t129 _ A48.out).mono ?_
                  rintro e w60 ⟨v130, rfl, ho0, hb⟩
                  refine ⟨_, rfl, ?_⟩
                  have n0_ := Aside0.mk (Kd.R_elder' (by (with_reducible repeat (first | apply Kd.R_alloc | apply Kd.R_drewN | apply Kd.R_drew)); exact HO117.out) (Kd.R_base ho0) hb)
                  have n1_ := Aside0.mk (Kd.R_lower (Kd.R_new' ho0 (Kd.R_lt (by (with_reducible repeat (first | apply Kd.R_alloc | apply Kd.R_drewN | apply Kd.R_drew)); exact HO117.out))) (below_size (by repeat (first | (with_reducible first | exact HB.out | apply below_alloc | apply pw_below_drewN | apply below_drew1 | refine below_set ?_ GE105.out | refine below_set ?_ GE114.out | refine below_set ?_ GE123.out) | exact HB.out))))
                  have n2_ := Aside0.mk (blk_below (g := gb105) (o := .cells #[.int .u32 t101, .int .i64 t102, .int .u32 t103, .int .u32 t104] 27 (0, 0)) (by (with_reducible repeat (first | refine blk_drewN ?_ _ | refine blk_drew ?_ | refine blk_alloc ?_ _)); exact BK105.out) hb)
                  have n3_ := Aside0.mk (blk_below (g := gb114) (o := .cells #[.bool t109, .int .u32 t110, .int .i64 t111, .int .u32 t112, .int .u32 t113] 33 (0, 0)) (by (with_reducible repeat (first | refine blk_drewN ?_ _ | refine blk_drew ?_ | refine blk_alloc ?_ _)); exact BK114.out) hb)
                  have n4_ := Aside0.mk (blk_below (g := gb123) (o := .cells #[.bool true, .int .u32 t119, .int .i64 t120, .int .u32 t121, .int .u32 t122] 33 (0, 0)) (by (with_reducible repeat (first | refine blk_drewN ?_ _ | refine blk_drew ?_ | refine blk_alloc ?_ _)); exact BK123.out) hb)
                  have n5_ := Aside0.mk (below_step (by repeat (first | (with_reducible first | exact HB.out | apply below_alloc | apply pw_below_drewN | apply below_drew1 | refine below_set ?_ GE105.out | refine below_set ?_ GE114.out | refine below_set ?_ GE123.out) | exact HB.out)) hb)
                  clear HO117
                  clear BK105
                  clear BK114
                  clear BK123
                  clear HB
                  have HO117 := n0_
                  have HO131 := n1_
                  have BK105 := n2_
                  have BK114 := n3_
                  have BK123 := n4_
                  have HB := n5_
                  clear n0_ n1_ n2_ n3_ n4_ n5_
                  (try clear hb)
                  (try clear hb2)
                  (try clear hk)
                  (try clear hi)
                  (try clear ho0)
                  obtain ⟨Ao61, co61, eo61⟩ := Kd.R_slice HO131.out
                  (first | subst eo61 | (injection eo61 with f1_ f2_ f3_; have f4_ := f1_.symm; have f5_ := f3_.symm; clear f1_ f2_ f3_; subst f4_; subst f5_))
                  refine hK.out _ _ ⟨(blk_cell BK123.out 0).trans rfl, (blk_cell BK123.out 1).trans rfl, (blk_cell BK123.out 2).trans rfl, (blk_cell BK123.out 3).trans rfl, (blk_cell BK123.out 4).trans rfl⟩ (fun hHeld => ?_)
                  clear hK K
                  refine norm_ (a' := ?_) ?_ ?_
                  rotate_left
                  · show Act.put _ (some 58) _ = _
                    simp only [Act.put, List.setIfInBounds_toArray, List.set_cons_zero, List.set_cons_succ, i64_w, i32_w]
                    rfl
                  refine one_ (i := 13) (N := some 60) #[true, true, true, true, true, true, true, true, true, true, true, true, true, true, false, false, false] rfl rfl (one_of HT_.out (by kernel_rfl)) (by decide) (fun K hK => ?_)
                  refine goes_ Try.func22 (by kernel_rfl) rfl #[.slice Ao61 t129.length co61, .slice Ao51 t115.length co51] (by rfl) rfl rfl (by (try simp only [List.map_toArray, List.map_cons, List.map_nil]); first | done | rfl | (simp only [List.length_drop, List.length_take]; rfl)) ?_
                  with_reducible refine (laws_lwBytes.calls _ _ t129 _ _ t115 true _ ?side1 ?side2 ?side3 ?side4 A49.out).mono ?_
                  (case side1 => repeat (first | exact (Kd.R_reads' HO131.out).2.2 | (with_reducible refine Kd.C_alloc ?_ _) | (with_reducible refine Kd.C_drewN ?_ _) | (with_reducible refine Kd.C_drew ?_)))
                  (case side2 => exact (Kd.R_reads' HO131.out).2.1)
                  (case side3 => repeat (first | exact (Kd.R_reads' HO117.out).2.2 | (with_reducible refine Kd.C_alloc ?_ _) | (with_reducible refine Kd.C_drewN ?_ _) | (with_reducible refine Kd.C_drew ?_)))
                  (case side4 => exact (Kd.R_reads' HO117.out).2.1)
                  rintro e w' ⟨rfl, ⟨nd, rfl⟩⟩
                  refine ⟨_, rfl, ?_⟩
                  refine hK.out _ _ ⟨(blk_cell BK123.out 0).trans rfl, (blk_cell BK123.out 1).trans rfl, (blk_cell BK123.out 2).trans rfl, (blk_cell BK123.out 3).trans rfl, (blk_cell BK123.out 4).trans rfl⟩ (fun hHeld => ?_)
                  clear hK K
                  refine norm_ (a' := ?_) ?_ ?_
                  rotate_left
                  · show Act.put _ (some 60) _ = _
                    simp only [Act.put, List.setIfInBounds_toArray, List.set_cons_zero, List.set_cons_succ, i64_w, i32_w]
                    rfl
                  refine pure_ (i := 14) (N := some 61) (v := ?_) (a' := ?_) #[true, true, true, true, true, true, true, true, true, true, true, true, true, true, true, false, false] rfl rfl (any_of HT_.out (by kernel_rfl)) (fun _ _ _ h => h) (Or.inl ⟨by rfl, ?_⟩) ?_ ?_
                  rotate_left
                  · intro w'
                    go_simp
                    with_reducible rfl
                  rotate_left
                  · simp only [Act.put, List.setIfInBounds_toArray, List.set_cons_zero, List.set_cons_succ, i64_w, i32_w]
                    rfl
                  refine pure_ (i := 15) (N := some 62) (v := ?_) (a' := ?_) #[true, true, true, true, true, true, true, true, true, true, true, true, true, true, true, true, false] rfl rfl (any_of HT_.out (by kernel_rfl)) (fun _ _ _ h => h) (Or.inl ⟨by rfl, ?_⟩) ?_ ?_
                  rotate_left
                  · intro w'
                    go_simp
                    with_reducible rfl
                  rotate_left
                  · simp only [Act.put, List.setIfInBounds_toArray, List.set_cons_zero, List.set_cons_succ, i64_w, i32_w]
                    rfl
                  refine pure_ (i := 16) (N := some 4) (v := ?_) (a' := ?_) #[true, true, true, true, true, true, true, true, true, true, true, true, true, true, true, true, true] rfl rfl (any_of HT_.out (by kernel_rfl)) (fun _ _ _ h => h) (Or.inl ⟨by rfl, ?_⟩) ?_ ?_
                  rotate_left
                  · intro w'
                    go_simp
                    with_reducible rfl
                  rotate_left
                  · simp only [Act.put, List.setIfInBounds_toArray, List.set_cons_zero, List.set_cons_succ, i64_w, i32_w]
                    rfl
                  refine done_ (done_of HT_.out (by kernel_rfl)) ?_
                  try go_wp2
                  go_ret
                  exact ⟨by first | rfl | (simp [errW_none, errW_some] <;> rfl) | (simp [*, errW_none, errW_some] <;> rfl), by repeat (first | (with_reducible first | exact HB.out | apply below_alloc | apply pw_below_drewN | apply below_drew1 | refine below_set ?_ GE105.out | refine below_set ?_ GE114.out | refine below_set ?_ GE123.out) | exact HB.out)⟩
                · replace c47 := Bool.eq_false_iff.mpr c47
                  subst c47
                  have H1 : (some true) = some true := rfl
                  clear H
                  have H := H1
                  clear H1
                  have hS_ := Option.some.inj H
                  clear hS_
                  try go_wp2_with (first | ((with_reducible refine gate_callee (f := 23) rfl ?_); refine goesL_ (some 44) rfl rfl Try.func23 (by kernel_rfl) rfl #[.slice A1 l1.length c1] rfl (by (try simp only [List.map_toArray, List.map_cons, List.map_nil]); first | done | rfl | (simp only [List.length_drop, List.length_take]; rfl)) ?_; (with_reducible refine (spec_DrawDecodeFrame.calls kj8 _ _ l1 t115 _ ?side1 ?side2 A43.out).mono ?_); (case side1 => repeat (first | exact (Kd.C_below HR1.out HB.out) | (with_reducible refine Kd.C_alloc ?_ _) | (with_reducible refine Kd.C_drewN ?_ _) | (with_reducible refine Kd.C_drew ?_))); (case side2 => exact HC1.out); rintro e w62 ⟨v116, rfl, ho0, hb⟩; refine ⟨_, rfl, ?_⟩; have n0_ := Aside0.mk (Kd.R_lower ho0 (below_size (by repeat (first | (with_reducible first | exact HB.out | apply below_alloc | apply pw_below_drewN | apply below_drew1 | refine below_set ?_ GE105.out | refine below_set ?_ GE114.out) | exact HB.out)))); have n1_ := Aside0.mk (blk_below (g := gb105) (o := .cells #[.int .u32 t101, .int .i64 t102, .int .u32 t103, .int .u32 t104] 27 (0, 0)) (by (with_reducible repeat (first | refine blk_drewN ?_ _ | refine blk_drew ?_ | refine blk_alloc ?_ _)); exact BK105.out) hb); have n2_ := Aside0.mk (blk_below (g := gb114) (o := .cells #[.bool t109, .int .u32 t110, .int .i64 t111, .int .u32 t112, .int .u32 t113] 33 (0, 0)) (by (with_reducible repeat (first | refine blk_drewN ?_ _ | refine blk_drew ?_ | refine blk_alloc ?_ _)); exact BK114.out) hb); have n3_ := Aside0.mk (below_step (by repeat (first | (with_reducible first | exact HB.out | apply below_alloc | apply pw_below_drewN | apply below_drew1 | refine below_set ?_ GE105.out | refine below_set ?_ GE114.out) | exact HB.out)) hb); clear BK105; clear BK114; clear HB; have HO117 := n0_; have BK105 := n1_; have BK114 := n2_; have HB := n3_; clear n0_ n1_ n2_ n3_; (try clear hb); (try clear hb2); (try clear hk); (try clear hi); (try clear ho0); obtain ⟨Ao63, co63, eo63⟩ := Kd.R_slice HO117.out; subst eo63) | ((with_reducible refine gate_callee (f := 19) rfl ?_); refine goesL_ (some 46) rfl rfl Try.func19 (by kernel_rfl) rfl #[.slice Ao63 t115.length co63] rfl (by (try simp only [List.map_toArray, List.map_cons, List.map_nil]); first | done | rfl | (simp only [List.length_drop, List.length_take]; rfl)) ?_; (with_reducible refine (impl_DecodeFrame.calls _ _ t115 false t119 t120 t121 t122 _ ?side1 ?side2 A44.out).mono ?_); (case side1 => repeat (first | exact (Kd.R_reads' HO117.out).2.2 | (with_reducible refine Kd.C_alloc ?_ _) | (with_reducible refine Kd.C_drewN ?_ _) | (with_reducible refine Kd.C_drew ?_))); (case side2 => exact (Kd.R_reads' HO117.out).2.1); rintro e w64 ⟨rfl, hb⟩; refine ⟨_, rfl, ?_⟩; have n0_ := Aside0.mk (Kd.R_below (by (with_reducible repeat (first | apply Kd.R_alloc | apply Kd.R_drewN | apply Kd.R_drew)); exact HO117.out) hb); have n1_ := Aside0.mk (blk_below (g := gb105) (o := .cells #[.int .u32 t101, .int .i64 t102, .int .u32 t103, .int .u32 t104] 27 (0, 0)) (by (with_reducible repeat (first | refine blk_drewN ?_ _ | refine blk_drew ?_ | refine blk_alloc ?_ _)); exact BK105.out) hb); have n2_ := Aside0.mk (blk_below (g := gb114) (o := .cells #[.bool t109, .int .u32 t110, .int .i64 t111, .int .u32 t112, .int .u32 t113] 33 (0, 0)) (by (with_reducible repeat (first | refine blk_drewN ?_ _ | refine blk_drew ?_ | refine blk_alloc ?_ _)); exact BK114.out) hb); have n3_ := Aside0.mk (below_step (by repeat (first | (with_reducible first | exact HB.out | apply below_alloc | apply pw_below_drewN | apply below_drew1 | refine below_set ?_ GE105.out | refine below_set ?_ GE114.out) | exact HB.out)) hb); clear HO117; clear BK105; clear BK114; clear HB; have HO117 := n0_; have BK105 := n1_; have BK114 := n2_; have HB := n3_; clear n0_ n1_ n2_ n3_; (try clear hb); (try clear hb2); (try clear hk); (try clear hi)) | ((with_reducible refine gate_dst (N := 8) rfl ?_); (try (refine gate_guard (by rfl) ?_; dsimp only)); refine box_event ?hg (N := 8) ?hd (cs := #[.bool false, .int .u32 0, .int .i64 0, .int .u32 0, .int .u32 0]) (t := 33) ?hr ?_; (case hd => rfl); (case hg => rfl); (case hr => first | (go_simp; done) | (go_simp; rfl)); intro gb123 hg w65 hbox hb; have n0_ := Aside0.mk (Kd.R_below (by (with_reducible repeat (first | apply Kd.R_alloc | apply Kd.R_drewN | apply Kd.R_drew)); exact HO117.out) hb); have n1_ := Aside0.mk (blk_below (g := gb105) (o := .cells #[.int .u32 t101, .int .i64 t102, .int .u32 t103, .int .u32 t104] 27 (0, 0)) (by (with_reducible repeat (first | refine blk_drewN ?_ _ | refine blk_drew ?_ | refine blk_alloc ?_ _)); exact BK105.out) hb); have n2_ := Aside0.mk (blk_below (g := gb114) (o := .cells #[.bool t109, .int .u32 t110, .int .i64 t111, .int .u32 t112, .int .u32 t113] 33 (0, 0)) (by (with_reducible repeat (first | refine blk_drewN ?_ _ | refine blk_drew ?_ | refine blk_alloc ?_ _)); exact BK114.out) hb); have n3_ := Aside0.mk (below_step (by repeat (first | (with_reducible first | exact HB.out | apply below_alloc | apply pw_below_drewN | apply below_drew1 | refine below_set ?_ GE105.out | refine below_set ?_ GE114.out) | exact HB.out)) hb); have n4_ := Aside0.mk (hbox); have n5_ := Aside0.mk ((by rw [hg]; exact (below_size (by repeat (first | (with_reducible first | exact HB.out | apply below_alloc | apply pw_below_drewN | apply below_drew1 | refine below_set ?_ GE105.out | refine below_set ?_ GE114.out) | exact HB.out))) : w.heap.size ≤ gb123)); have n6_ := Aside0.mk ((by rw [hg]; exact (below_size (by repeat (first | (with_reducible first | exact HB.out | apply below_alloc | apply pw_below_drewN | apply below_drew1 | refine below_set ?_ GE105.out | refine below_set ?_ GE114.out) | exact HB.out))) : w.heap.size ≤ gb123)); have n7_ := Aside0.mk ((by rw [hg]; exact Nat.ne_of_lt (blk_lt (g := gb105) (o := .cells #[.int .u32 t101, .int .i64 t102, .int .u32 t103, .int .u32 t104] 27 (0, 0)) (by (with_reducible repeat (first | refine blk_drewN ?_ _ | refine blk_drew ?_ | refine blk_alloc ?_ _)); exact BK105.out)) : gb105 ≠ gb123)); have n8_ := Aside0.mk ((by rw [hg]; exact Nat.ne_of_gt (blk_lt (g := gb105) (o := .cells #[.int .u32 t101, .int .i64 t102, .int .u32 t103, .int .u32 t104] 27 (0, 0)) (by (with_reducible repeat (first | refine blk_drewN ?_ _ | refine blk_drew ?_ | refine blk_alloc ?_ _)); exact BK105.out)) : gb123 ≠ gb105)); have n9_ := Aside0.mk ((by rw [hg]; exact Nat.ne_of_lt (blk_lt (g := gb114) (o := .cells #[.bool t109, .int .u32 t110, .int .i64 t111, .int .u32 t112, .int .u32 t113] 33 (0, 0)) (by (with_reducible repeat (first | refine blk_drewN ?_ _ | refine blk_drew ?_ | refine blk_alloc ?_ _)); exact BK114.out)) : gb114 ≠ gb123)); have n10_ := Aside0.mk ((by rw [hg]; exact Nat.ne_of_gt (blk_lt (g := gb114) (o := .cells #[.bool t109, .int .u32 t110, .int .i64 t111, .int .u32 t112, .int .u32 t113] 33 (0, 0)) (by (with_reducible repeat (first | refine blk_drewN ?_ _ | refine blk_drew ?_ | refine blk_alloc ?_ _)); exact BK114.out)) : gb123 ≠ gb114)); clear HO117; clear BK105; clear BK114; clear HB; have HO117 := n0_; have BK105 := n1_; have BK114 := n2_; have HB := n3_; have BK123 := n4_; have GW123 := n5_; have GE123 := n6_; have NB105_123 := n7_; have NB123_105 := n8_; have NB114_123 := n9_; have NB123_114 := n10_; clear n0_ n1_ n2_ n3_ n4_ n5_ n6_ n7_ n8_ n9_ n10_; clear hb hbox hg; have hnb66 := NB123_105.out; have hnc66 := NB105_123.out; have hnb67 := NB123_114.out; have hnc67 := NB114_123.out; have hcz68_0 : w65.cell? ⟨gb123, 0, none⟩ = some (.bool false) := (blk_cell BK123.out 0).trans rfl; have hcz68_1 : w65.cell? ⟨gb123, 1, none⟩ = some (.int .u32 0) := (blk_cell BK123.out 1).trans rfl; have hcz68_2 : w65.cell? ⟨gb123, 2, none⟩ = some (.int .i64 0) := (blk_cell BK123.out 2).trans rfl; have hcz68_3 : w65.cell? ⟨gb123, 3, none⟩ = some (.int .u32 0) := (blk_cell BK123.out 3).trans rfl; have hcz68_4 : w65.cell? ⟨gb123, 4, none⟩ = some (.int .u32 0) := (blk_cell BK123.out 4).trans rfl; have hfz68_0 := blk_frozen BK123.out 0; have hfz68_1 := blk_frozen BK123.out 1; have hfz68_2 := blk_frozen BK123.out 2; have hfz68_3 := blk_frozen BK123.out 3; have hfz68_4 := blk_frozen BK123.out 4))
                  have n0_ : Aside0 (Kd.R (Kd.int .u8) 5 (((((w65.setCell ⟨gb123, 0, none⟩ (.bool false)).setCell ⟨gb123, 1, none⟩ (.int .u32 t119)).setCell ⟨gb123, 2, none⟩ (.int .i64 t120)).setCell ⟨gb123, 3, none⟩ (.int .u32 t121)).setCell ⟨gb123, 4, none⟩ (.int .u32 t122)) w.heap.size (fun _ => True) (.slice Ao63 t115.length co63) t115) := ⟨by (with_reducible repeat (first | apply Kd.R_alloc | apply Kd.R_drewN | apply Kd.R_drew)); exact Kd.R_mono (Kd.R_far (p := ⟨gb123, 4, none⟩) (Kd.R_far (p := ⟨gb123, 3, none⟩) (Kd.R_far (p := ⟨gb123, 2, none⟩) (Kd.R_far (p := ⟨gb123, 1, none⟩) (Kd.R_far (p := ⟨gb123, 0, none⟩) (Kd.R_types HO117.out BK123.out (by decide)) (fun _ hk => hk.2) (.bool false)) (fun _ hk => hk.2) (.int .u32 t119)) (fun _ hk => hk.2) (.int .i64 t120)) (fun _ hk => hk.2) (.int .u32 t121)) (fun _ hk => hk.2) (.int .u32 t122)) (fun _ hk => trivial)⟩
                  have n1_ : Aside0 ((((((w65.setCell ⟨gb123, 0, none⟩ (.bool false)).setCell ⟨gb123, 1, none⟩ (.int .u32 t119)).setCell ⟨gb123, 2, none⟩ (.int .i64 t120)).setCell ⟨gb123, 3, none⟩ (.int .u32 t121)).setCell ⟨gb123, 4, none⟩ (.int .u32 t122)).heap[gb105]? = some (.cells #[.int .u32 t101, .int .i64 t102, .int .u32 t103, .int .u32 t104] 27 (0, 0))) := ⟨by (with_reducible repeat (first | refine blk_drewN ?_ _ | refine blk_drew ?_ | refine blk_alloc ?_ _)); refine blk_far ?_ NB105_123.out _; (with_reducible repeat (first | refine blk_drewN ?_ _ | refine blk_drew ?_ | refine blk_alloc ?_ _)); refine blk_far ?_ NB105_123.out _; (with_reducible repeat (first | refine blk_drewN ?_ _ | refine blk_drew ?_ | refine blk_alloc ?_ _)); refine blk_far ?_ NB105_123.out _; (with_reducible repeat (first | refine blk_drewN ?_ _ | refine blk_drew ?_ | refine blk_alloc ?_ _)); refine blk_far ?_ NB105_123.out _; (with_reducible repeat (first | refine blk_drewN ?_ _ | refine blk_drew ?_ | refine blk_alloc ?_ _)); refine blk_far ?_ NB105_123.out _; (with_reducible repeat (first | refine blk_drewN ?_ _ | refine blk_drew ?_ | refine blk_alloc ?_ _)); exact BK105.out⟩
                  have n2_ : Aside0 ((((((w65.setCell ⟨gb123, 0, none⟩ (.bool false)).setCell ⟨gb123, 1, none⟩ (.int .u32 t119)).setCell ⟨gb123, 2, none⟩ (.int .i64 t120)).setCell ⟨gb123, 3, none⟩ (.int .u32 t121)).setCell ⟨gb123, 4, none⟩ (.int .u32 t122)).heap[gb114]? = some (.cells #[.bool t109, .int .u32 t110, .int .i64 t111, .int .u32 t112, .int .u32 t113] 33 (0, 0))) := ⟨by (with_reducible repeat (first | refine blk_drewN ?_ _ | refine blk_drew ?_ | refine blk_alloc ?_ _)); refine blk_far ?_ NB114_123.out _; (with_reducible repeat (first | refine blk_drewN ?_ _ | refine blk_drew ?_ | refine blk_alloc ?_ _)); refine blk_far ?_ NB114_123.out _; (with_reducible repeat (first | refine blk_drewN ?_ _ | refine blk_drew ?_ | refine blk_alloc ?_ _)); refine blk_far ?_ NB114_123.out _; (with_reducible repeat (first | refine blk_drewN ?_ _ | refine blk_drew ?_ | refine blk_alloc ?_ _)); refine blk_far ?_ NB114_123.out _; (with_reducible repeat (first | refine blk_drewN ?_ _ | refine blk_drew ?_ | refine blk_alloc ?_ _)); refine blk_far ?_ NB114_123.out _; (with_reducible repeat (first | refine blk_drewN ?_ _ | refine blk_drew ?_ | refine blk_alloc ?_ _)); exact BK114.out⟩
                  have n3_ : Aside0 ((((((w65.setCell ⟨gb123, 0, none⟩ (.bool false)).setCell ⟨gb123, 1, none⟩ (.int .u32 t119)).setCell ⟨gb123, 2, none⟩ (.int .i64 t120)).setCell ⟨gb123, 3, none⟩ (.int .u32 t121)).setCell ⟨gb123, 4, none⟩ (.int .u32 t122)).heap[gb123]? = some (.cells #[.bool false, .int .u32 t119, .int .i64 t120, .int .u32 t121, .int .u32 t122] 33 (0, 0))) := ⟨by (with_reducible repeat (first | refine blk_drewN ?_ _ | refine blk_drew ?_ | refine blk_alloc ?_ _)); refine blk_put (cs := #[.bool false, .int .u32 t119, .int .i64 t120, .int .u32 t121, .int .u32 0]) ?_ 4 _ rfl; (with_reducible repeat (first | refine blk_drewN ?_ _ | refine blk_drew ?_ | refine blk_alloc ?_ _)); refine blk_put (cs := #[.bool false, .int .u32 t119, .int .i64 t120, .int .u32 0, .int .u32 0]) ?_ 3 _ rfl; (with_reducible repeat (first | refine blk_drewN ?_ _ | refine blk_drew ?_ | refine blk_alloc ?_ _)); refine blk_put (cs := #[.bool false, .int .u32 t119, .int .i64 0, .int .u32 0, .int .u32 0]) ?_ 2 _ rfl; (with_reducible repeat (first | refine blk_drewN ?_ _ | refine blk_drew ?_ | refine blk_alloc ?_ _)); refine blk_put (cs := #[.bool false, .int .u32 0, .int .i64 0, .int .u32 0, .int .u32 0]) ?_ 1 _ rfl; (with_reducible repeat (first | refine blk_drewN ?_ _ | refine blk_drew ?_ | refine blk_alloc ?_ _)); refine blk_put (cs := #[.bool false, .int .u32 0, .int .i64 0, .int .u32 0, .int .u32 0]) ?_ 0 _ rfl; (with_reducible repeat (first | refine blk_drewN ?_ _ | refine blk_drew ?_ | refine blk_alloc ?_ _)); exact BK123.out⟩
                  have n4_ : Aside0 (Below w.heap.size w (((((w65.setCell ⟨gb123, 0, none⟩ (.bool false)).setCell ⟨gb123, 1, none⟩ (.int .u32 t119)).setCell ⟨gb123, 2, none⟩ (.int .i64 t120)).setCell ⟨gb123, 3, none⟩ (.int .u32 t121)).setCell ⟨gb123, 4, none⟩ (.int .u32 t122))) := ⟨by repeat (first | (with_reducible first | exact HB.out | apply below_alloc | apply pw_below_drewN | apply below_drew1 | refine below_set ?_ GE105.out | refine below_set ?_ GE114.out | refine below_set ?_ GE123.out) | exact HB.out)⟩
                  (try clear HO117)
                  (try clear BK105)
                  (try clear BK114)
                  (try clear BK123)
                  (try clear HB)
                  generalize (((((w65.setCell ⟨gb123, 0, none⟩ (.bool false)).setCell ⟨gb123, 1, none⟩ (.int .u32 t119)).setCell ⟨gb123, 2, none⟩ (.int .i64 t120)).setCell ⟨gb123, 3, none⟩ (.int .u32 t121)).setCell ⟨gb123, 4, none⟩ (.int .u32 t122)) = w69 at n0_ n1_ n2_ n3_ n4_ ⊢
                  have HO117 := n0_
                  have BK105 := n1_
                  have BK114 := n2_
                  have BK123 := n3_
                  have HB := n4_
                  clear n0_ n1_ n2_ n3_ n4_
                  have n0_ := Aside0.mk (Kd.R_drew HO117.out)
                  have n1_ := Aside0.mk (blk_drew BK105.out)
                  have n2_ := Aside0.mk (blk_drew BK114.out)
                  have n3_ := Aside0.mk (blk_drew BK123.out)
                  have n4_ := Aside0.mk (below_drew1 HB.out)
                  clear HO117
                  clear BK105
                  clear BK114
                  clear BK123
                  clear HB
                  have HO117 := n0_
                  have BK105 := n1_
                  have BK114 := n2_
                  have BK123 := n3_
                  have HB := n4_
                  clear n0_ n1_ n2_ n3_ n4_
                  refine start_ (n := 17) (S := fun w' => w'.cell? ⟨gb123, 0, none⟩ = some (.bool false) ∧ w'.cell? ⟨gb123, 1, none⟩ = some (.int .u32 t119) ∧ w'.cell? ⟨gb123, 2, none⟩ = some (.int .i64 t120) ∧ w'.cell? ⟨gb123, 3, none⟩ = some (.int .u32 t121) ∧ w'.cell? ⟨gb123, 4, none⟩ = some (.int .u32 t122)) (ds := []) #[false, false, false, false, false, false, false, false, false, false, false, false, false, false, false, false, false] (by kernel_rfl) rfl rfl ⟨(blk_cell BK123.out 0).trans rfl, (blk_cell BK123.out 1).trans rfl, (blk_cell BK123.out 2).trans rfl, (blk_cell BK123.out 3).trans rfl, (blk_cell BK123.out 4).trans rfl⟩ (fun hHeld => ?_); refine with_tabW laws_FnFrame.tab9 laws_FnFrame.bits9 (fun HT_ HW_ => ?_)
                  generalize w69.drew = w70 at HO117 BK105 BK114 BK123 HB hHeld ⊢
                  refine pure_ (i := 1) (N := some 48) (v := ?_) (a' := ?_) #[false, true, false, false, false, false, false, false, false, false, false, false, false, false, false, false, false] rfl rfl (any_of HT_.out (by kernel_rfl)) (fun _ _ _ h => h) (Or.inl ⟨by rfl, ?_⟩) ?_ ?_
                  rotate_left
                  · intro w'
                    go_simp
                    with_reducible rfl
                  rotate_left
                  · simp only [Act.put, List.setIfInBounds_toArray, List.set_cons_zero, List.set_cons_succ, i64_w, i32_w]
                    rfl
                  refine take_ (i := 0) (N := some 47) (v := ?_) (a' := ?_) #[true, true, false, false, false, false, false, false, false, false, false, false, false, false, false, false, false] rfl rfl (take_ofW HT_.out HW_.out (by kernel_rfl)) (fun _ _ _ h => h) (Or.inl ⟨by rfl, ?_⟩) hHeld ?_ ?_
                  rotate_left
                  · rintro w' ⟨s0, s1, s2, s3, s4⟩
                    go_simp
                    with_reducible rfl
                  rotate_left
                  · simp only [Act.put, List.setIfInBounds_toArray, List.set_cons_zero, List.set_cons_succ, i64_w, i32_w]
                    rfl
                  refine one_ (i := 2) (N := some 49) #[true, true, true, false, false, false, false, false, false, false, false, false, false, false, false, false, false] rfl rfl (one_of HT_.out (by kernel_rfl)) (by decide) (fun K hK => ?_)
                  refine goes_ Try.func17 (by kernel_rfl) rfl #[.slice Ao63 t115.length co63] (by rfl) rfl rfl (by (try simp only [List.map_toArray, List.map_cons, List.map_nil]); first | done | rfl | (simp only [List.length_drop, List.length_take]; rfl)) ?_
                  with_reducible refine (spec_DecodeFrame.calls _ _ t115 t124 t125 t126 t127 t128 _ ?side1 ?side2 A45.out).mono ?_
                  (case side1 => repeat (first | exact (Kd.R_reads' HO117.out).2.2 | (with_reducible refine Kd.C_alloc ?_ _) | (with_reducible refine Kd.C_drewN ?_ _) | (with_reducible refine Kd.C_drew ?_)))
                  (case side2 => exact (Kd.R_reads' HO117.out).2.1)
                  rintro e w71 ⟨rfl, hb⟩
                  refine ⟨_, rfl, ?_⟩
                  have n0_ := Aside0.mk (Kd.R_below (by (with_reducible repeat (first | apply Kd.R_alloc | apply Kd.R_drewN | apply Kd.R_drew)); exact HO117.out) hb)
                  have n1_ := Aside0.mk (blk_below (g := gb105) (o := .cells #[.int .u32 t101, .int .i64 t102, .int .u32 t103, .int .u32 t104] 27 (0, 0)) (by (with_reducible repeat (first | refine blk_drewN ?_ _ | refine blk_drew ?_ | refine blk_alloc ?_ _)); exact BK105.out) hb)
                  have n2_ := Aside0.mk (blk_below (g := gb114) (o := .cells #[.bool t109, .int .u32 t110, .int .i64 t111, .int .u32 t112, .int .u32 t113] 33 (0, 0)) (by (with_reducible repeat (first | refine blk_drewN ?_ _ | refine blk_drew ?_ | refine blk_alloc ?_ _)); exact BK114.out) hb)
                  have n3_ := Aside0.mk (blk_below (g := gb123) (o := .cells #[.bool false, .int .u32 t119, .int .i64 t120, .int .u32 t121, .int .u32 t122] 33 (0, 0)) (by (with_reducible repeat (first | refine blk_drewN ?_ _ | refine blk_drew ?_ | refine blk_alloc ?_ _)); exact BK123.out) hb)
                  have n4_ := Aside0.mk (below_step (by repeat (first | (with_reducible first | exact HB.out | apply below_alloc | apply pw_below_drewN | apply below_drew1 | refine below_set ?_ GE105.out | refine below_set ?_ GE114.out | refine below_set ?_ GE123.out) | exact HB.out)) hb)
                  clear HO117
                  clear BK105
                  clear BK114
                  clear BK123
                  clear HB
                  have HO117 := n0_
                  have BK105 := n1_
                  have BK114 := n2_
                  have BK123 := n3_
                  have HB := n4_
                  clear n0_ n1_ n2_ n3_ n4_
                  (try clear hb)
                  (try clear hb2)
                  (try clear hk)
                  (try clear hi)
                  refine hK.out _ _ ⟨(blk_cell BK123.out 0).trans rfl, (blk_cell BK123.out 1).trans rfl, (blk_cell BK123.out 2).trans rfl, (blk_cell BK123.out 3).trans rfl, (blk_cell BK123.out 4).trans rfl⟩ (fun hHeld => ?_)
                  clear hK K
                  refine norm_ (a' := ?_) ?_ ?_
                  rotate_left
                  · show Act.put _ (some 49) _ = _
                    simp only [Act.put, List.setIfInBounds_toArray, List.set_cons_zero, List.set_cons_succ, i64_w, i32_w]
                    rfl
                  refine pure_ (i := 3) (N := some 50) (v := .bool true) (a' := ?_) #[true, true, true, true, false, false, false, false, false, false, false, false, false, false, false, false, false] rfl rfl (any_of HT_.out (by kernel_rfl)) (fun _ _ _ h => h) (Or.inl ⟨by rfl, ?yl4⟩) ?ha4 ?hh4
                  case yl4 =>
                    intro w'
                    go_simp
                    first | done | with_reducible rfl | (rw [c46b0]; done) | (simp only [c46b0]; done) | (simp [c46b0]; done) | (have q_ := c46b0; simp at q_; simp [q_]; done) | (trace_state; done)
                  case ha4 =>
                    simp only [Act.put, List.setIfInBounds_toArray, List.set_cons_zero, List.set_cons_succ, i64_w, i32_w]
                    rfl
                  refine pure_ (i := 4) (N := some 51) (v := ?_) (a' := ?_) #[true, true, true, true, true, false, false, false, false, false, false, false, false, false, false, false, false] rfl rfl (any_of HT_.out (by kernel_rfl)) (fun _ _ _ h => h) (Or.inl ⟨by rfl, ?_⟩) ?_ ?_
                  rotate_left
                  · intro w'
                    go_simp
                    with_reducible rfl
                  rotate_left
                  · simp only [Act.put, List.setIfInBounds_toArray, List.set_cons_zero, List.set_cons_succ, i64_w, i32_w]
                    rfl
                  refine pure_ (i := 5) (N := some 52) (v := ?_) (a' := ?_) #[true, true, true, true, true, true, false, false, false, false, false, false, false, false, false, false, false] rfl rfl (any_of HT_.out (by kernel_rfl)) (fun _ _ _ h => h) (Or.inl ⟨by rfl, ?_⟩) ?_ ?_
                  rotate_left
                  · intro w'
                    go_simp
                    with_reducible rfl
                  rotate_left
                  · simp only [Act.put, List.setIfInBounds_toArray, List.set_cons_zero, List.set_cons_succ, i64_w, i32_w]
                    rfl
                  refine take_ (i := 6) (N := some 53) (v := ?_) (a' := ?_) #[true, true, true, true, true, true, true, false, false, false, false, false, false, false, false, false, false] rfl rfl (take_ofW HT_.out HW_.out (by kernel_rfl)) (fun _ _ _ h => h) (Or.inl ⟨by rfl, ?_⟩) hHeld ?_ ?_
                  rotate_left
                  · rintro w' ⟨s0, s1, s2, s3, s4⟩
                    go_simp
                    with_reducible rfl
                  rotate_left
                  · simp only [Act.put, List.setIfInBounds_toArray, List.set_cons_zero, List.set_cons_succ, i64_w, i32_w]
                    rfl
                  refine pure_ (i := 7) (N := some 54) (v := ?_) (a' := ?_) #[true, true, true, true, true, true, true, true, false, false, false, false, false, false, false, false, false] rfl rfl (any_of HT_.out (by kernel_rfl)) (fun _ _ _ h => h) (Or.inl ⟨by rfl, ?_⟩) ?_ ?_
                  rotate_left
                  · intro w'
                    go_simp
                    with_reducible rfl
                  rotate_left
                  · simp only [Act.put, List.setIfInBounds_toArray, List.set_cons_zero, List.set_cons_succ, i64_w, i32_w]
                    rfl
                  refine pure_ (i := 8) (N := some 55) (v := ?_) (a' := ?_) #[true, true, true, true, true, true, true, true, true, false, false, false, false, false, false, false, false] rfl rfl (any_of HT_.out (by kernel_rfl)) (fun _ _ _ h => h) (Or.inl ⟨by rfl, ?_⟩) ?_ ?_
                  rotate_left
                  · intro w'
                    go_simp
                    with_reducible rfl
                  rotate_left
                  · simp only [Act.put, List.setIfInBounds_toArray, List.set_cons_zero, List.set_cons_succ, i64_w, i32_w]
                    rfl
                  refine pure_ (i := 9) (N := some 56) (v := undef) (a' := ?_) #[true, true, true, true, true, true, true, true, true, true, false, false, false, false, false, false, false] rfl rfl (any_of HT_.out (by kernel_rfl)) (fun _ _ _ h => h) (Or.inr ⟨by rfl, rfl⟩) ?_ ?_
                  rotate_left
                  · simp only [Act.put, List.setIfInBounds_toArray, List.set_cons_zero, List.set_cons_succ, i64_w, i32_w]
                    rfl
                  refine pure_ (i := 10) (N := some 57) (v := undef) (a' := ?_) #[true, true, true, true, true, true, true, true, true, true, true, false, false, false, false, false, false] rfl rfl (any_of HT_.out (by kernel_rfl)) (fun _ _ _ h => h) (Or.inr ⟨by rfl, rfl⟩) ?_ ?_
                  rotate_left
                  · simp only [Act.put, List.setIfInBounds_toArray, List.set_cons_zero, List.set_cons_succ, i64_w, i32_w]
                    rfl
                  refine pure_ (i := 11) (N := some 58) (v := undef) (a' := ?_) #[true, true, true, true, true, true, true, true, true, true, true, true, false, false, false, false, false] rfl rfl (any_of HT_.out (by kernel_rfl)) (fun _ _ _ h => h) (Or.inr ⟨by rfl, rfl⟩) ?_ ?_
                  rotate_left
                  · simp only [Act.put, List.setIfInBounds_toArray, List.set_cons_zero, List.set_cons_succ, i64_w, i32_w]
                    rfl
                  refine pure_ (i := 12) (N := some 59) (v := undef) (a' := ?_) #[true, true, true, true, true, true, true, true, true, true, true, true, true, false, false, false, false] rfl rfl (any_of HT_.out (by kernel_rfl)) (fun _ _ _ h => h) (Or.inr ⟨by rfl, rfl⟩) ?_ ?_
                  rotate_left
                  · simp only [Act.put, List.setIfInBounds_toArray, List.set_cons_zero, List.set_cons_succ, i64_w, i32_w]
                    rfl
                  refine pure_ (i := 13) (N := some 60) (v := undef) (a' := ?_) #[true, true, true, true, true, true, true, true, true, true, true, true, true, true, false, false, false] rfl rfl (any_of HT_.out (by kernel_rfl)) (fun _ _ _ h => h) (Or.inr ⟨by rfl, rfl⟩) ?_ ?_
                  rotate_left
                  · simp only [Act.put, List.setIfInBounds_toArray, List.set_cons_zero, List.set_cons_succ, i64_w, i32_w]
                    rfl
                  refine pure_ (i := 14) (N := some 61) (v := ?_) (a' := ?_) #[true, true, true, true, true, true, true, true, true, true, true, true, true, true, true, false, false] rfl rfl (any_of HT_.out (by kernel_rfl)) (fun _ _ _ h => h) (Or.inl ⟨by rfl, ?_⟩) ?_ ?_
                  rotate_left
                  · intro w'
                    go_simp
                    with_reducible rfl
                  rotate_left
                  · simp only [Act.put, List.setIfInBounds_toArray, List.set_cons_zero, List.set_cons_succ, i64_w, i32_w]
                    rfl
                  refine pure_ (i := 15) (N := some 62) (v := ?_) (a' := ?_) #[true, true, true, true, true, true, true, true, true, true, true, true, true, true, true, true, false] rfl rfl (any_of HT_.out (by kernel_rfl)) (fun _ _ _ h => h) (Or.inl ⟨by rfl, ?_⟩) ?_ ?_
                  rotate_left
                  · intro w'
                    go_simp
                    with_reducible rfl
                  rotate_left
                  · simp only [Act.put, List.setIfInBounds_toArray, List.set_cons_zero, List.set_cons_succ, i64_w, i32_w]
                    rfl
                  refine pure_ (i := 16) (N := some 4) (v := ?_) (a' := ?_) #[true, true, true, true, true, true, true, true, true, true, true, true, true, true, true, true, true] rfl rfl (any_of HT_.out (by kernel_rfl)) (fun _ _ _ h => h) (Or.inl ⟨by rfl, ?_⟩) ?_ ?_
                  rotate_left
                  · intro w'
                    go_simp
                    with_reducible rfl
                  rotate_left
                  · simp only [Act.put, List.setIfInBounds_toArray, List.set_cons_zero, List.set_cons_succ, i64_w, i32_w]
                    rfl
                  refine done_ (done_of HT_.out (by kernel_rfl)) ?_
                  try go_wp2
                  go_ret
                  exact ⟨by first | rfl | (simp [errW_none, errW_some] <;> rfl) | (simp [*, errW_none, errW_some] <;> rfl), by repeat (first | (with_reducible first | exact HB.out | apply below_alloc | apply pw_below_drewN | apply below_drew1 | refine below_set ?_ GE105.out | refine below_set ?_ GE114.out | refine below_set ?_ GE123.out) | exact HB.out)⟩
              · rw [if_neg c46] at H
                have c46b0 : (t118 == t124 && ((t119 == t125 && (t120 == t126 && (t121 == t127 && (t122 == t128)))))) = false := by simpa using c46
                (try (have c46b1 : decide (t118 = t124 && ((t119 == t125 && (t120 == t126 && (t121 == t127 && (t122 == t128)))))) = false := by simpa using c46))
                (try (have c46b2 : (t118 == t124 && ((t119 == t125 && (t120 == t126 && (t121 == t127 && (t122 == t128)))))) = false := by simpa using c46))
                (try (have c46b3 : ¬ (t118 = t124 && ((t119 == t125 && (t120 == t126 && (t121 == t127 && (t122 == t128)))))) := by simpa using c46))
                clear c46
                exact absurd H (by simp)

end Go.Proofs.Ytgfadfahbhcllaa.Q
namespace Go.Proofs.Ytgfadfahbhcllaa.O
open Go.RowKit Go.Proofs.YtgfadfahbhcllaaW.PrintWords

/-- Cells that read as data of type t are cells of the kind d, of a value that meets ok. -/
def Opens {α : Type} (P : Program) (t : TypeId) (d : Kd α) (ok : α → Prop) : Prop :=
  ∀ (H : Type) (enc : TypeId × Value → H) (w : World) (fuel : Nat) (cs : List Value) (y : DataW H × List MemPlace),
    DataW.trod enc P w 0 (fun _ => true) true fuel t cs = some y → ∃ x, d.K w x cs ∧ ok x

section
variable {α β : Type} {P : Program} {t e : TypeId} {d : Kd α} {ok : α → Prop}

theorem opens_int {k : IntKind} (ht : P.underlying t = some (.int k)) : Opens P t (Kd.int k) (fun n => (Lit.int k n).wf = true) := by
  intro H enc w fuel cs y h
  obtain ⟨n, rfl, _, hw⟩ := DataW.trod_int ht h
  exact ⟨n, rfl, hw⟩
theorem opens_bool (ht : P.underlying t = some .bool) : Opens P t Kd.bool (fun _ => True) := by
  intro H enc w fuel cs y h
  obtain ⟨n, rfl, _⟩ := DataW.trod_bool ht h
  exact ⟨n, rfl, trivial⟩
theorem list_of {p : Nat → α → Prop} : ∀ n, (∀ i, i < n → ∃ x, p i x) → ∃ xs : List α, xs.length = n ∧ ∀ i x, xs[i]? = some x → p i x
  | 0, _ => ⟨[], rfl, by simp⟩
  | n + 1, h => by
    obtain ⟨xs, hl, hp⟩ := list_of n (fun i hi => h i (by omega))
    obtain ⟨x, hx⟩ := h n (by omega)
    refine ⟨xs ++ [x], by simp [hl], fun i z hz => ?_⟩
    by_cases hi : i < n
    · rw [List.getElem?_append_left (by omega)] at hz
      exact hp i z hz
    · have : i < n + 1 := by
        have := (List.getElem?_eq_some_iff.1 hz).1
        simp [hl] at this
        exact this
      obtain rfl : i = n := by omega
      rw [List.getElem?_append_right (by omega)] at hz
      simp [hl] at hz
      exact hz ▸ hx
theorem opens_slice (ht : P.underlying t = some (.slice e)) (hc : P.cellsOf e = d.sz) (he : Opens P e d ok) :
    Opens P t (Kd.slice e d) (fun xs => xs.length ≤ 9223372036854775807 ∧ ∀ x ∈ xs, ok x) := by
  intro H enc w fuel cs y h
  rcases DataW.trod_slice ht h with ⟨rfl, _⟩ | ⟨a, len, cap, elems, rest, n, _, rfl, _, _, hl, hm, hlen, hel, _, _⟩
  · exact ⟨[], ⟨none, 0, rfl, Nat.le_refl _, Kd.C_nil d w⟩, by simp, by simp⟩
  · have each : ∀ i, i < len → ∃ x, ∃ c, w.cells? 0 (a.add (i * d.sz)) d.sz = some c ∧ d.K w x c ∧ ok x := by
      intro i hi
      have h1 := hel i hi
      rw [hc, List.getElem?_eq_getElem (by omega)] at h1
      obtain ⟨c, h2, h3⟩ := Option.bind_eq_some_iff.1 h1
      obtain ⟨x, hx, hok⟩ := he H enc w n c _ h3
      exact ⟨x, c, h2, hx, hok⟩
    obtain ⟨xs, hxl, hxs⟩ := list_of len each
    refine ⟨xs, ⟨some a, cap, by rw [hxl], by omega, ?_⟩, by unfold maxLen at hm; omega, fun x hx => ?_⟩
    · refine ⟨rfl, by unfold maxLen at hm; omega, fun _ => ⟨a, rfl, fun j p hp => ?_⟩⟩
      obtain ⟨c, h2, h3, _⟩ := hxs j p hp
      refine ⟨c, d.K_len h3, h3, fun i u hu => ?_⟩
      have hi : i < c.length := (List.getElem?_eq_some_iff.1 hu).1
      have h4 := World.cells?_some h2
      rw [d.K_len h3] at hi
      rw [← Addr.add_add, (h4.2.2 i hi), hu]
    · obtain ⟨i, hi⟩ := List.getElem?_of_mem hx
      obtain ⟨_, _, _, hok⟩ := hxs i x hi
      exact hok
/-- A struct's fields from some field on. -/
def OpensFs {α : Type} (P : Program) (fs : List Field) (off : Nat) (d : Kd α) (ok : α → Prop) : Prop :=
  ∀ (H : Type) (enc : TypeId × Value → H) (w : World) (n : Nat) (cs : List Value) (xs : List (DataW H × List MemPlace)),
    cs.length = off + d.sz → (∀ (i : Nat) (f : Field), fs[i]? = some f → DataW.trod enc P w 0 (fun _ => true) true n f.type ((cs.drop f.offset).take (P.cellsOf f.type)) = xs[i]?) →
    fs.length ≤ xs.length → ∃ x, d.K w x (cs.drop off) ∧ ok x
theorem opensFs_one {f : Field} {off : Nat} (ho : f.offset = off) (hc : P.cellsOf f.type = d.sz) (h : Opens P f.type d ok) : OpensFs P [f] off d ok := by
  intro H enc w n cs xs hl hf hx
  have h1 := hf 0 f rfl
  simp only [List.length_cons, List.length_nil] at hx
  rw [List.getElem?_eq_getElem (by omega)] at h1
  rw [ho, hc, List.take_of_length_le (by simp; omega)] at h1
  exact h H enc w n _ _ h1
theorem opensFs_cons {f : Field} {fs : List Field} {off : Nat} {d2 : Kd β} {ok2 : β → Prop} (ho : f.offset = off) (hc : P.cellsOf f.type = d.sz) (h : Opens P f.type d ok)
    (h2 : OpensFs P fs (off + d.sz) d2 ok2) : OpensFs P (f :: fs) off (Kd.pair d d2) (fun x => ok x.1 ∧ ok2 x.2) := by
  intro H enc w n cs xs hl hf hx
  have hl' : cs.length = off + (d.sz + d2.sz) := hl
  simp only [List.length_cons] at hx
  have h1 := hf 0 f rfl
  rw [List.getElem?_eq_getElem (by omega)] at h1
  rw [ho, hc] at h1
  obtain ⟨x, hxk, hxo⟩ := h H enc w n _ _ h1
  obtain ⟨y, hyk, hyo⟩ := h2 H enc w n cs (xs.drop 1) (by omega) (fun i g hg => by
    have := hf (i + 1) g (by simpa using hg)
    rw [this, List.getElem?_drop]
    congr 1
    omega) (by simp; omega)
  refine ⟨(x, y), ⟨_, _, ?_, hxk, hyk⟩, hxo, hyo⟩
  rw [← List.drop_drop]
  exact (List.take_append_drop _ _).symm
theorem opens_struct {fs : List Field} (ht : P.underlying t = some (.struct fs.toArray)) (hc : P.cellsOf t = d.sz) (h : OpensFs P fs 0 d ok) (f : β → α) (g : α → β) (hfg : ∀ a, f (g a) = a) :
    Opens P t (Kd.iso d f) (fun x => ok (f x)) := by
  intro H enc w fuel cs y h0
  obtain ⟨xs, n, _, _, hlen, hxl, hf⟩ := DataW.trod_struct ht h0
  obtain ⟨a, hk, ho⟩ := h H enc w n cs xs (by omega) (fun i f hi => hf i f (by simpa using hi)) (by simp at hxl; omega)
  refine ⟨g a, ?_, ?_⟩
  · show d.K w (f (g a)) cs
    rw [hfg]
    simpa using hk
  · show ok (f (g a))
    rw [hfg]
    exact ho
end
end Go.Proofs.Ytgfadfahbhcllaa.O
namespace Go.Proofs.Ytgfadfahbhcllaa.Q
open Go.RowKit Go.Proofs.YtgfadfahbhcllaaW.PrintWords Go.Proofs.Ytgfadfahbhcllaa.O
def W24 (x : S24) : Prop := (Lit.int .u32 x.f0).wf = true ∧ (Lit.int .i64 x.f1).wf = true ∧ (Lit.int .u32 x.f2).wf = true ∧ (Lit.int .u32 x.f3).wf = true
theorem opens_T24 : Opens Try.prog 24 k24 W24 := opens_struct Try.underlying24 (by kernel_rfl) (opensFs_cons rfl (by kernel_rfl) (opens_int Try.underlying22) (opensFs_cons rfl (by kernel_rfl) (opens_int Try.underlying2) (opensFs_cons rfl (by kernel_rfl) (opens_int Try.underlying22) (opensFs_one rfl (by kernel_rfl) (opens_int Try.underlying22))))) (fun x : S24 => (x.f0, x.f1, x.f2, x.f3)) (fun a => (⟨a.1, a.2.1, a.2.2.1, a.2.2.2⟩ : S24)) (fun _ => rfl)
def W41 (x : S41) : Prop := (Lit.int .u32 x.f0).wf = true ∧ (Lit.int .u32 x.f1).wf = true ∧ (x.f2.length ≤ 9223372036854775807 ∧ ∀ z_ ∈ x.f2, (Lit.int .i64 z_).wf = true) ∧ (x.f3.length ≤ 9223372036854775807 ∧ ∀ z_ ∈ x.f3, (Lit.int .i64 z_).wf = true)
theorem opens_T41 : Opens Try.prog 41 k41 W41 := opens_struct Try.underlying41 (by kernel_rfl) (opensFs_cons rfl (by kernel_rfl) (opens_int Try.underlying22) (opensFs_cons rfl (by kernel_rfl) (opens_int Try.underlying22) (opensFs_cons rfl (by kernel_rfl) (opens_slice Try.underlying39 (by kernel_rfl) (opens_int Try.underlying2)) (opensFs_one rfl (by kernel_rfl) (opens_slice Try.underlying39 (by kernel_rfl) (opens_int Try.underlying2)))))) (fun x : S41 => (x.f0, x.f1, x.f2, x.f3)) (fun a => (⟨a.1, a.2.1, a.2.2.1, a.2.2.2⟩ : S41)) (fun _ => rfl)
end Go.Proofs.Ytgfadfahbhcllaa.Q
namespace Go.Proofs.Ytgfadfahbhcllaa.Q
open Go.RowKit Go.Proofs.YtgfadfahbhcllaaW.PrintWords Go.Proofs.YtgfadfahbhcllaaW.PrintLast Go.Proofs.Ytgfadfahbhcllaa.O
def laws_FnFrame.Pure : Prop := ∀ (l0 : List Int) (l1 : List Int) , (l0.length ≤ 9223372036854775807 ∧ ∀ z_ ∈ l0, (Lit.int .u8 z_).wf = true) → (l1.length ≤ 9223372036854775807 ∧ ∀ z_ ∈ l1, (Lit.int .u8 z_).wf = true) → ∃ k, laws_FnFrame.f k l0 l1 = some true
end Go.Proofs.Ytgfadfahbhcllaa.Q
namespace Go.Proofs.Ytgfadfahbhcllaa.P
open Go.RowKit Go.Proofs.YtgfadfahbhcllaaW.PrintWords Go.Proofs.YtgfadfahbhcllaaW.PrintMore Go.Proofs.Ytgfadfahbhcllaa.Q
set_option linter.unusedVariables false
set_option linter.unusedSimpArgs false
theorem spec_enc (q kd a b : Int) (hq : 0 ≤ q ∧ q ≤ 4294967295) (ha : 0 ≤ a ∧ a ≤ 4294967295) (hb : 0 ≤ b ∧ b ≤ 4294967295) : spec_EncodeFrame.f q kd a b = some (encF q kd a b) := by
  unfold spec_EncodeFrame.f encF
  rw [if_pos ⟨hq, ha, hb⟩]
theorem impl_enc (q kd a b : Int) (hq : 0 ≤ q ∧ q ≤ 4294967295) (ha : 0 ≤ a ∧ a ≤ 4294967295) (hb : 0 ≤ b ∧ b ≤ 4294967295) : impl_EncodeFrame.f q kd a b = some (encF q kd a b) := by
  unfold impl_EncodeFrame.f encF
  rw [if_pos ⟨hq, ha, hb⟩]
/-- What DecodeFrame answers. -/
def decF (l : List Int) : Bool × Int × Int × Int × Int := if l.length = 64 ∧ isFrame l then (true, fSeq l, fKind l, fA l, fB l) else (false, 0, 0, 0, 0)
theorem impl_dec {l : List Int} (hu : U8s l) : impl_DecodeFrame.f l = some (decF l) := by
  unfold impl_DecodeFrame.f decF
  rw [if_pos hu]
theorem spec_dec {l : List Int} (hu : U8s l) : spec_DecodeFrame.f l = some (decF l) := by
  unfold spec_DecodeFrame.f decF
  rw [if_pos hu]
end Go.Proofs.Ytgfadfahbhcllaa.P
namespace Go.Proofs.Ytgfadfahbhcllaa.P
open Go.RowKit Go.Proofs.YtgfadfahbhcllaaW.PrintWords Go.Proofs.YtgfadfahbhcllaaW.PrintMore Go.Proofs.Ytgfadfahbhcllaa.Q
set_option linter.unusedVariables false
set_option linter.unusedSimpArgs false
theorem and_byte (x : Int) : 0 ≤ Go.bits .and .i64 x 255 ∧ Go.bits .and .i64 x 255 ≤ 255 := by
  have h : (BitVec.ofInt 64 x).toNat &&& 255 < 2 ^ 8 := Nat.and_lt_two_pow _ (by decide)
  unfold Go.bits
  rw [IntKind.wrap_i64]
  have e : ((BitVec.ofInt IntKind.i64.bits x) &&& (BitVec.ofInt IntKind.i64.bits 255)).toNat = (BitVec.ofInt 64 x).toNat &&& 255 := by
    rw [BitVec.toNat_and]
    rfl
  simp only [e]
  omega
theorem bits_u8 (op : BinOp) (x y : Int) : 0 ≤ Go.bits op .u8 x y ∧ Go.bits op .u8 x y ≤ 255 := by
  unfold Go.bits
  rw [IntKind.wrap_u8]
  omega
/-- A cursor inside its bytes. -/
def Cur (l : List Int) (i : Int) : Prop := 0 ≤ i ∧ i ≤ l.length
theorem byte_is {l : List Int} {i h : Int} (hl : l.length ≤ 1048576) (hc : Cur l i) : ∃ x i' h', spec_l1Byte.f l i h = some (x, i', h') ∧ 0 ≤ x ∧ x ≤ 255 ∧ Cur l i' := by
  unfold Cur at *
  simp only [spec_l1Byte.f]
  by_cases c : i < (l.length : Int)
  · rw [if_pos c, if_pos hc.1]
    refine ⟨_, _, _, rfl, (and_byte _).1, (and_byte _).2, ?_⟩
    rw [w64 (n := i + 1) (by omega) (by omega)]
    omega
  · rw [if_neg c]
    exact ⟨_, _, _, rfl, (and_byte _).1, (and_byte _).2, hc⟩
theorem tmod_range {x n : Int} (h0 : 0 ≤ x) (hn : 0 < n) : 0 ≤ Int.tmod x n ∧ Int.tmod x n < n := by
  rw [Int.tmod_eq_emod_of_nonneg h0]
  exact ⟨Int.emod_nonneg _ (by omega), Int.emod_lt_of_pos _ hn⟩
theorem below_is {l : List Int} {i h n : Int} (hl : l.length ≤ 1048576) (hc : Cur l i) (hn : 0 < n) : ∃ x i' h', spec_l1Below.f l i h n = some (x, i', h') ∧ 0 ≤ x ∧ x < n ∧ Cur l i' := by
  simp only [spec_l1Below.f]
  by_cases c : n ≤ 256
  · rw [if_pos c]
    obtain ⟨x, i', h', e, h0, h1, hc'⟩ := byte_is (h := h) hl hc
    rw [e, Option.bind_some, if_neg (by omega)]
    exact ⟨_, _, _, rfl, (tmod_range h0 hn).1, (tmod_range h0 hn).2, hc'⟩
  · rw [if_neg c]
    obtain ⟨x, i', h', e, h0, h1, hc'⟩ := byte_is (h := h) hl hc
    rw [e, Option.bind_some]
    obtain ⟨y, i2, h2, e2, y0, y1, hc2⟩ := byte_is (h := h') hl hc'
    rw [e2, Option.bind_some]
    obtain ⟨z, i3, h3, e3, z0, z1, hc3⟩ := byte_is (h := h2) hl hc2
    rw [e3, Option.bind_some, if_neg (by omega)]
    have ew : wrap64 (wrap64 (wrap64 (x * 65536) + wrap64 (y * 256)) + z) = x * 65536 + y * 256 + z := by
      rw [w64 (n := x * 65536) (by omega) (by omega), w64 (n := y * 256) (by omega) (by omega), w64 (n := x * 65536 + y * 256) (by omega) (by omega), w64 (n := x * 65536 + y * 256 + z) (by omega) (by omega)]
    rw [ew]
    exact ⟨_, _, _, rfl, (tmod_range (by omega) hn).1, (tmod_range (by omega) hn).2, hc3⟩
theorem once_is {l : List Int} {i h n : Int} (hl : l.length ≤ 1048576) (hc : Cur l i) (hn : 0 < n) : ∃ b i' h', spec_l1Once.f l i h n = some (b, i', h') ∧ Cur l i' := by
  obtain ⟨x, i', h', e, -, -, hc'⟩ := below_is (h := h) hl hc hn
  simp only [spec_l1Once.f, e, Option.bind_some]
  exact ⟨_, _, _, rfl, hc'⟩
theorem new_ev {l : List Int} (hl : l.length ≤ 1048576) : ∃ h, Ev (fun k => spec_l1New.f k l) (l, 0, h) := by
  simp only [spec_l1New.f]
  have key : ∀ m i x, i + m = l.length → ∃ h, Ev (fun k => spec_l1New.l0 k l x (i : Int)) (l, 0, h) := by
    intro m
    induction m with
    | zero =>
      intro i x hi
      refine ⟨x, Ev.last ⟨0, fun k _ => ?_⟩⟩
      simp only [spec_l1New.l0]
      rw [if_neg (by omega)]
    | succ m ih =>
      intro i x hi
      obtain ⟨h, e⟩ := ih (i + 1) (Go.bits .and .i64 (wrap64 ((wrap64 ((wrap64 (x * 131)) + (wrap64 (rd l i)))) + 7)) 1073741823) (by omega)
      refine ⟨h, Ev.step ⟨0, fun k _ => ?_⟩ e⟩
      simp only [spec_l1New.l0]
      rw [if_pos (by omega), if_pos (by omega), w64s (n := l.length) (by omega) (by omega)]
  exact key l.length 0 _ (by omega)
/-- A drawn frame. -/
structure Fr (q kd a b : Int) : Prop where
  q : 0 ≤ q ∧ q ≤ 4294967295
  kd : -2 ≤ kd ∧ kd ≤ 6
  a : 0 ≤ a ∧ a ≤ 4294967295
  b : 0 ≤ b ∧ b ≤ 4294967295
theorem frame_j1 {l : List Int} {i h q kd a b : Int} (hl : l.length ≤ 1048576) (hc : Cur l i) (hq : 0 ≤ q ∧ q ≤ 4294967295) (hk : 1 ≤ kd ∧ kd ≤ 3) : ∃ a' b' i' h', Ev (fun k => spec_l2DrawFrame.j1 k l i h q kd a b) (q, kd, a', b', i', h') ∧ Fr q kd a' b' ∧ (1 ≤ kd ∧ kd ≤ 3) ∧ Cur l i' := by
  obtain ⟨x, i1, h1, e1, x0, x1, c1⟩ := below_is (h := h) hl hc (n := 300) (by decide)
  obtain ⟨y, i2, h2, e2, y0, y1, c2⟩ := below_is (h := h1) hl c1 (n := 3) (by decide)
  obtain ⟨o, i3, h3, e3, c3⟩ := once_is (h := h2) hl c2 (n := 4) (by decide)
  by_cases ho : o = true
  · refine ⟨x % 4294967296, 4294967295 - x % 4294967296, i3, h3, Ev.last ⟨0, fun k _ => ?_⟩, ⟨hq, by omega, by omega, by omega⟩, hk, c3⟩
    simp only [spec_l2DrawFrame.j1, e1, e2, e3, Option.bind_some]
    rw [if_pos ho]
  · refine ⟨x % 4294967296, y % 4294967296, i3, h3, Ev.last ⟨0, fun k _ => ?_⟩, ⟨hq, by omega, by omega, by omega⟩, hk, c3⟩
    simp only [spec_l2DrawFrame.j1, e1, e2, e3, Option.bind_some]
    rw [if_neg ho]
theorem frame_j0 {l : List Int} {i h q kd a b x y : Int} (hl : l.length ≤ 1048576) (hc : Cur l i) (hq : 0 ≤ q ∧ q ≤ 4294967295) (hk : 1 ≤ kd ∧ kd ≤ 3) : ∃ q' a' b' i' h', Ev (fun k => spec_l2DrawFrame.j0 k x y l i h q kd a b) (q', kd, a', b', i', h') ∧ Fr q' kd a' b' ∧ (1 ≤ kd ∧ kd ≤ 3) ∧ Cur l i' := by
  by_cases hx : x = 1
  · obtain ⟨a', b', i', h', e, hf, hk', hc'⟩ := frame_j1 (h := h) (a := a) (b := b) hl hc (q := (wrap64 (y * 16777215)) % 4294967296) (by omega) hk
    refine ⟨_, a', b', i', h', Ev.step ⟨0, fun k _ => ?_⟩ e, hf, hk', hc'⟩
    simp only [spec_l2DrawFrame.j0]
    rw [if_pos hx]
  · obtain ⟨a', b', i', h', e, hf, hk', hc'⟩ := frame_j1 (h := h) (a := a) (b := b) hl hc hq hk
    refine ⟨_, a', b', i', h', Ev.step ⟨0, fun k _ => ?_⟩ e, hf, hk', hc'⟩
    simp only [spec_l2DrawFrame.j0]
    rw [if_neg hx]
theorem drawFrame_ev {l : List Int} {i h : Int} (hl : l.length ≤ 1048576) (hc : Cur l i) : ∃ q kd a b i' h', Ev (fun k => spec_l2DrawFrame.f k l i h) (q, kd, a, b, i', h') ∧ Fr q kd a b ∧ (1 ≤ kd ∧ kd ≤ 3) ∧ Cur l i' := by
  obtain ⟨x, i1, h1, e1, x0, x1, c1⟩ := below_is (h := h) hl hc (n := 3) (by decide)
  obtain ⟨y, i2, h2, e2, y0, y1, c2⟩ := below_is (h := h1) hl c1 (n := 6) (by decide)
  obtain ⟨z, i3, h3, e3, z0, z1, c3⟩ := below_is (h := h2) hl c2 (n := 20) (by decide)
  have hk : wrap64 (1 + x) = 1 + x := w64 (n := 1 + x) (by omega) (by omega)
  simp only [spec_l2DrawFrame.f, e1, e2, e3, Option.bind_some]
  by_cases hy : y = 0
  · obtain ⟨q', a', b', i', h', e, hf, hk', hc'⟩ := frame_j0 (h := h3) (a := 0) (b := 0) (x := y) (y := z) hl c3 (q := 4294967295 - z % 4294967296) (by omega) (kd := wrap64 (1 + x)) (by rw [hk]; omega)
    exact ⟨_, _, _, _, _, _, Ev.pos hy e, hf, hk', hc'⟩
  · obtain ⟨q', a', b', i', h', e, hf, hk', hc'⟩ := frame_j0 (h := h3) (a := 0) (b := 0) (x := y) (y := z) hl c3 (q := wrap64 (1 + z) % 4294967296) (by omega) (kd := wrap64 (1 + x)) (by rw [hk]; omega)
    exact ⟨_, _, _, _, _, _, Ev.neg hy e, hf, hk', hc'⟩
theorem drawE_ev {l : List Int} (hl : l.length ≤ 1048576) : ∃ q kd a b, Ev (fun k => spec_DrawEncodeFrame.f k l) (q, kd, a, b) ∧ Fr q kd a b := by
  obtain ⟨h, en⟩ := new_ev hl
  obtain ⟨q, kd, a, b, i', h', ef, hf, hk, hc⟩ := drawFrame_ev (h := h) hl (i := 0) ⟨by decide, by omega⟩
  obtain ⟨o, i2, h2, eo, c2⟩ := once_is (h := h') hl hc (n := 8) (by decide)
  simp only [spec_DrawEncodeFrame.f]
  by_cases ho : o = true
  · obtain ⟨x, i3, h3, ex, x0, x1, c3⟩ := below_is (h := h2) hl c2 (n := 8) (by decide)
    refine ⟨q, x - 2, a, b, Ev.bind en (Ev.bind ef (Ev.bind (Ev.const eo) (Ev.pos ho (Ev.bind (Ev.const ex) (Ev.const ?_))))), hf.q, by omega, hf.a, hf.b⟩
    rw [w64 (n := x - 2) (by omega) (by omega)]
  · exact ⟨q, kd, a, b, Ev.bind en (Ev.bind ef (Ev.bind (Ev.const eo) (Ev.neg ho (Ev.const rfl)))), hf⟩
theorem set_u8 {l : List Int} (h : U8s l) (i : Nat) {x : Int} (hx : 0 ≤ x ∧ x ≤ 255) : U8s (l.set i x) := by
  intro z hz
  rcases List.mem_or_eq_of_mem_set hz with h1 | h1
  · exact h z h1
  · rw [h1]; exact hx
theorem app_u8 {l m : List Int} (h : U8s l) (h2 : U8s m) : U8s (l ++ m) := fun z hz => (List.mem_append.1 hz).elim (h z) (h2 z)
theorem good_enc {q kd a b : Int} (hk : 1 ≤ kd ∧ kd ≤ 3) : (encF q kd a b).length = 64 := by unfold encF; rw [if_pos hk]; rfl
theorem spec_encE {q kd a b : Int} (h : Fr q kd a b) : spec_EncodeFrame.f q kd a b = some (encF q kd a b) := spec_enc q kd a b h.q h.a h.b
theorem drawD_j0 {l x : List Int} {i h k7 at_ v : Int} (hl : l.length ≤ 1048576) (hc : Cur l i) (h64 : x.length = 64) (hu : U8s x) (ha : 0 ≤ at_ ∧ at_ < 64) : ∃ r, Ev (fun k => spec_DrawDecodeFrame.j0 k x k7 at_ v l i h) r ∧ U8s r ∧ r.length ≤ 65 := by
  by_cases h1 : k7 = 1
  · refine ⟨x.take at_.toNat, Ev.last ⟨0, fun k _ => ?_⟩, hu.take _, by rw [List.length_take]; omega⟩
    simp only [spec_DrawDecodeFrame.j0]
    rw [if_pos h1, if_pos ha.1, if_pos (by omega)]
  by_cases h2 : k7 = 2
  · obtain ⟨q, kd, a, b, i', h', ef, hf, hk, hc'⟩ := drawFrame_ev (h := h) hl hc
    have et : spec_l2Torn.f x (encF q kd a b) at_ = some (x.take at_.toNat ++ (encF q kd a b).drop at_.toNat) := by
      simp only [spec_l2Torn.f, Option.bind_some]
      rw [if_pos ha.1, if_pos (by omega), if_pos (by rw [List.length_take]; simp; omega), if_pos (by rw [good_enc hk]; omega), if_pos (by rw [List.length_append, List.length_take, List.length_drop, good_enc hk]; simp only [List.length_nil]; omega), List.nil_append]
    refine ⟨_, Ev.step (g := fun k => (spec_l2DrawFrame.f k l i h).bind fun bt129 => ((spec_EncodeFrame.f bt129.1 bt129.2.1 bt129.2.2.1 bt129.2.2.2.1).bind fun t135 => ((spec_l2Torn.f x t135 at_).bind fun t138 => (some t138)))) ⟨0, fun k _ => ?_⟩ (Ev.bind ef (Ev.bind (Ev.const (spec_encE hf)) (Ev.bind (Ev.const et) (Ev.const rfl)))), app_u8 (hu.take _) ((encF_u8 _ _ _ _).drop _), ?_⟩
    · simp only [spec_DrawDecodeFrame.j0]
      rw [if_neg h1, if_pos h2]
    · rw [List.length_append, List.length_take, List.length_drop, good_enc hk]; omega
  by_cases h3 : k7 = 3
  · have hm := tmod_range (x := at_) (n := 56) ha.1 (by decide)
    have hx8 := bits_u8 .xor (rd x (Int.tmod at_ 56)) (v % 256)
    have hy := set_u8 hu (Int.tmod at_ 56).toNat hx8
    have hyl : (x.set (Int.tmod at_ 56).toNat (Go.bits .xor .u8 (rd x (Int.tmod at_ 56)) (v % 256))).length = 64 := by rw [List.length_set, h64]
    refine ⟨_, Ev.step (g := fun k => (some (x.set (Int.tmod at_ 56).toNat (Go.bits .xor .u8 (rd x (Int.tmod at_ 56)) (v % 256)))).bind fun y142 => ((spec_Crc32.f k (y142.take 56)).bind fun t153 => ((spec_l2Four.f t153).bind fun t154 => ((spec_l2Cat.f k (([(y142.take 56), t154, (y142.drop 60)] : List (List Int)))).bind fun t165 => (some t165))))) ⟨0, fun k _ => ?_⟩
      (Ev.bind (Ev.const rfl) (Ev.bind (spec_Crc32_ev _ (by rw [List.length_take]; omega)) (Ev.bind (Ev.const (four_is _ (crc32_range _))) (Ev.bind (cat_ev _ (by simp) (by simp only [List.flatten_cons, List.flatten_nil, List.append_nil, List.length_append, List.length_take, List.length_drop, hyl, leB_length]; omega)) (Ev.const rfl))))), ?_, ?_⟩
    · simp only [spec_DrawDecodeFrame.j0]
      rw [if_neg h1, if_neg h2, if_pos h3, if_pos hm.1, if_pos (by omega)]
      have c56 : (56 : Int) ≤ (x.length : Int) := by omega
      have c60 : (60 : Int) ≤ (x.length : Int) := by omega
      simp only [Option.bind_some, if_pos c56, if_pos c60]
    · simp only [List.flatten_cons, List.flatten_nil, List.append_nil]
      exact app_u8 (hy.take _) (app_u8 (leB_u8 _ _) (hy.drop _))
    · simp only [List.flatten_cons, List.flatten_nil, List.append_nil, List.length_append, List.length_take, List.length_drop, hyl, leB_length]
      omega
  by_cases h4 : k7 = 4
  · refine ⟨x ++ [0], Ev.last ⟨0, fun k _ => ?_⟩, app_u8 hu (fun z hz => by rw [List.mem_singleton] at hz; omega), by rw [List.length_append, h64]; decide⟩
    simp only [spec_DrawDecodeFrame.j0]
    rw [if_neg h1, if_neg h2, if_neg h3, if_pos h4, if_pos (by omega)]
  · refine ⟨x, Ev.last ⟨0, fun k _ => ?_⟩, hu, by omega⟩
    simp only [spec_DrawDecodeFrame.j0]
    rw [if_neg h1, if_neg h2, if_neg h3, if_neg h4]
theorem drawD_ev {l : List Int} (hl : l.length ≤ 1048576) : ∃ r, Ev (fun k => spec_DrawDecodeFrame.f k l) r ∧ U8s r ∧ r.length ≤ 65 := by
  obtain ⟨h, en⟩ := new_ev hl
  obtain ⟨q, kd, a, b, i', h', ef, hf, hk, hc⟩ := drawFrame_ev (h := h) hl (i := 0) ⟨by decide, by omega⟩
  obtain ⟨x, i1, h1, e1, x0, x1, c1⟩ := below_is (h := h') hl hc (n := 8) (by decide)
  obtain ⟨y, i2, h2, e2, y0, y1, c2⟩ := below_is (h := h1) hl c1 (n := 64) (by decide)
  obtain ⟨z, i3, h3, e3, z0, z1, c3⟩ := below_is (h := h2) hl c2 (n := 255) (by decide)
  have hz : wrap64 (1 + z) = 1 + z := w64 (by omega) (by omega)
  simp only [spec_DrawDecodeFrame.f]
  have hu := encF_u8 q kd a b
  have h64 := good_enc (q := q) (a := a) (b := b) hk
  by_cases hx : x = 0
  · obtain ⟨r, er, hr, hrl⟩ := drawD_j0 (x := (encF q kd a b).set y.toNat (Go.bits .xor .u8 (rd (encF q kd a b) y) ((wrap64 (1 + z)) % 256))) (h := h3) (k7 := x) (v := wrap64 (1 + z)) hl c3 (by rw [List.length_set, h64]) (set_u8 hu _ (bits_u8 _ _ _)) ⟨y0, y1⟩
    exact ⟨r, Ev.bind en (Ev.bind ef (Ev.bind (Ev.const (spec_encE hf)) (Ev.bind (Ev.const e1) (Ev.bind (Ev.const e2) (Ev.bind (Ev.const e3) (Ev.pos hx (Ev.pos y0 (Ev.pos (by rw [h64]; omega) er)))))))), hr, hrl⟩
  · obtain ⟨r, er, hr, hrl⟩ := drawD_j0 (x := encF q kd a b) (h := h3) (k7 := x) (v := wrap64 (1 + z)) hl c3 h64 hu ⟨y0, y1⟩
    exact ⟨r, Ev.bind en (Ev.bind ef (Ev.bind (Ev.const (spec_encE hf)) (Ev.bind (Ev.const e1) (Ev.bind (Ev.const e2) (Ev.bind (Ev.const e3) (Ev.neg hx er)))))), hr, hrl⟩
/-! A frame comes back from its code. -/
theorem le_leB4 {x : Int} (h : 0 ≤ x ∧ x ≤ 4294967295) : le (leB 4 x) = x := by
  have e : leB 4 x = [x / 2 ^ (8 * 0) % 256, x / 2 ^ (8 * 1) % 256, x / 2 ^ (8 * 2) % 256, x / 2 ^ (8 * 3) % 256] := rfl
  rw [e]
  simp only [le]
  have e0 : (2 : Int) ^ (8 * 0) = 1 := rfl
  have e1 : (2 : Int) ^ (8 * 1) = 256 := rfl
  have e2 : (2 : Int) ^ (8 * 2) = 65536 := rfl
  have e3 : (2 : Int) ^ (8 * 3) = 16777216 := rfl
  rw [e0, e1, e2, e3]
  omega
theorem dec_enc {q kd a b : Int} (h : Fr q kd a b) : decF (encF q kd a b) = if 1 ≤ kd ∧ kd ≤ 3 then (true, q, kd, a, b) else (false, 0, 0, 0, 0) := by
  by_cases hk : 1 ≤ kd ∧ kd ≤ 3
  · have e1 : fSeq (encF q kd a b) = q := by unfold encF; rw [if_pos hk]; exact le_leB4 h.q
    have e2 : fKind (encF q kd a b) = kd := by unfold encF; rw [if_pos hk]; show kd % 256 = kd; omega
    have e3 : fA (encF q kd a b) = a := by unfold encF; rw [if_pos hk]; exact le_leB4 h.a
    have e4 : fB (encF q kd a b) = b := by unfold encF; rw [if_pos hk]; exact le_leB4 h.b
    have hI : isFrame (encF q kd a b) := by
      unfold isFrame
      rw [e1, e2, e3, e4]
      exact ⟨hk, by unfold encF; rw [if_pos hk]⟩
    unfold decF
    rw [if_pos ⟨good_enc hk, hI⟩, e1, e2, e3, e4, if_pos hk]
  · have e : encF q kd a b = [] := by unfold encF; rw [if_neg hk]
    rw [e, if_neg hk]
    unfold decF
    rw [if_neg (by rintro ⟨h, _⟩; cases h)]
theorem enc_dec {l : List Int} (h : (decF l).1 = true) : encF (decF l).2.1 (decF l).2.2.1 (decF l).2.2.2.1 (decF l).2.2.2.2 = l := by
  unfold decF at *
  by_cases c : l.length = 64 ∧ isFrame l
  · rw [if_pos c] at *
    obtain ⟨-, hk, e⟩ := c
    unfold encF
    rw [if_pos hk, e]
  · rw [if_neg c] at h
    cases h
theorem dec_range {l : List Int} (hu : U8s l) : (0 ≤ (decF l).2.1 ∧ (decF l).2.1 ≤ 4294967295) ∧ (0 ≤ (decF l).2.2.2.1 ∧ (decF l).2.2.2.1 ≤ 4294967295) ∧ (0 ≤ (decF l).2.2.2.2 ∧ (decF l).2.2.2.2 ≤ 4294967295) := by
  unfold decF
  by_cases c : l.length = 64 ∧ isFrame l
  · rw [if_pos c]
    exact ⟨num4 hu 0 (by omega), num4 hu 8 (by omega), num4 hu 12 (by omega)⟩
  · rw [if_neg c]
    exact ⟨by decide, by decide, by decide⟩
end Go.Proofs.Ytgfadfahbhcllaa.P
