/- Part 8 of 9 of the proof that the law FnSnap returns true at every input. No further condition. -/
import Derived.ChangeArms
import Derived.DataReads
import Derived.Test.YtgfadfahbhcllaaMFnSnap7
section
namespace Go.Proofs.Ytgfadfahbhcllaa.Q
open Go.RowKit Go.Proofs.YtgfadfahbhcllaaW.PrintWords Go.Proofs.YtgfadfahbhcllaaW.PrintLast Go.Proofs.Ytgfadfahbhcllaa.LK Go.Proofs.YtgfadfahbhcllaaW.PrintMore
attribute [local go_sem] max2_int min2_int max_two min_two max_three min_three max_four min_four
set_option linter.unusedVariables false
set_option linter.unusedSimpArgs false
theorem laws_FnSnap.fld (x : Bool) (y z : Int) (A B : Option Addr) (n m c d : Nat) (w' : World) : (Instr.field 50 (Value.agg #[Value.bool x, Value.int IntKind.u32 y, Value.int IntKind.u32 z, Value.slice A n c, Value.slice B m d]) 0).run Try.prog w' = .ok (.bool x) w' := by
 kernel_rfl
mutual
def laws_FnSnap.j0 : Nat → List Int → List Int → Bool → Option (Bool)
 | 0, _, _, _ => none
 | k + 1, x0, x1, x17 => if x17 = true then (some true) else ((spec_DrawEncodeSnap.f k x0).bind fun bt101 => ((spec_EncodeSnap.f k bt101.1 bt101.2.1 bt101.2.2.1 bt101.2.2.2).bind fun t110 => ((impl_EncodeSnap.f bt101.1 bt101.2.1 bt101.2.2.1 bt101.2.2.2).bind fun t113 => ((impl_DecodeSnap.f t113).bind fun bt116 => (if (bt116.1 != (decide ((t110.length : Int) > 0))) = true then (some false) else (if (t110.length : Int) > 0 then (if bt116.2.1 = bt101.1 then (if bt116.2.2.1 = bt101.2.1 then ((laws_lwNums.f k bt116.2.2.2.1 bt101.2.2.1).bind fun t126 => (if t126 = true then ((laws_lwNums.f k bt116.2.2.2.2 bt101.2.2.2).bind fun t127 => (laws_FnSnap.j1 k x1 (!t127))) else (laws_FnSnap.j1 k x1 true))) else (laws_FnSnap.j1 k x1 true)) else (laws_FnSnap.j1 k x1 true)) else (laws_FnSnap.j1 k x1 false)))))))
def laws_FnSnap.j1 : Nat → List Int → Bool → Option (Bool)
 | 0, _, _ => none
 | k + 1, x1, x65 => if x65 = true then (some false) else ((spec_DrawDecodeSnap.f k x1).bind fun t128 => ((impl_DecodeSnap.f t128).bind fun bt131 => ((spec_DecodeSnap.f k t128).bind fun bt141 => (if (bt131.1 == bt141.1) = true then (if bt131.1 = true then ((impl_EncodeSnap.f bt131.2.1 bt131.2.2.1 bt131.2.2.2.1 bt131.2.2.2.2).bind fun t150 => ((laws_lwBytes.f t150 t128).bind fun t153 => (some t153))) else (some true)) else (some false)))))
end
def laws_FnSnap.f (k : Nat) (l0 : List Int) (l1 : List Int) : Option (Bool) := if (l0.length : Int) > 1048576 then (laws_FnSnap.j0 k l0 l1 true) else (laws_FnSnap.j0 k l0 l1 (decide ((l1.length : Int) > 1048576)))
def laws_FnSnap.T12 : Bool × List (List Nat × List Nat) := (true, [([], []), ([0], [0]), ([], []), ([2], [2]), ([3], [3]), ([1, 4], [1, 4]), ([5, 3], [5]), ([6], [6]), ([7, 6], [6, 7]), ([8, 6], [6, 8]), ([9, 6, 6], [6, 9]), ([10], [10]), ([11, 10], [10, 11]), ([12, 10, 10], [10, 12]), ([10], [10]), ([13, 14, 13, 10], [10, 13, 14]), ([10, 15, 6], [6, 10, 15]), ([6, 16], [6, 16]), ([17, 15, 0, 1, 2, 3, 4, 5, 6, 7, 8, 9, 10, 11, 12, 13, 14, 15, 16, 17], [17])])
def laws_FnSnap.B12 : List Nat := [0, 1, 0, 4, 12, 31, 63, 127, 255, 511, 1023, 2047, 4095, 8191, 2047, 32767, 65535, 131071, 262143]
theorem laws_FnSnap.tab12 : rtab .any (opsOf Try.f9 12) = laws_FnSnap.T12 := by kernel_rfl
theorem laws_FnSnap.bits12 : waitsOk laws_FnSnap.T12.2 laws_FnSnap.B12 = true := by kernel_rfl
set_option maxHeartbeats 8000000 in
set_option maxRecDepth 100000 in
theorem laws_FnSnap.calls (k : Nat) (A0 : Option Addr) (c0 : Nat) (l0 : List Int) (A1 : Option Addr) (c1 : Nat) (l1 : List Int) (w : World) (hr0 : Kd.C (Kd.int .u8) w A0 l0.length l0) (hc0 : l0.length ≤ c0) (hr1 : Kd.C (Kd.int .u8) w A1 l1.length l1) (hc1 : l1.length ≤ c1) (h : laws_FnSnap.f k l0 l1 = some true) :
  Calls Try.prog 9 #[.slice A0 l0.length c0, .slice A1 l1.length c1] w fun e w' => e = .returned (.bool true) ∧ Below w.heap.size w w' := by
 have hu44 := Try.underlying44
 have hu50 := Try.underlying50
 have HR0 := Aside0.mk hr0
 have HC0 := Aside0.mk hc0
 clear hr0 hc0
 have HR1 := Aside0.mk hr1
 have HC1 := Aside0.mk hc1
 clear hr1 hc1
 have HB := Aside0.mk (Below.refl w.heap.size w)
 have H : (if (l0.length : Int) > 1048576 then (laws_FnSnap.j0 k l0 l1 true) else (laws_FnSnap.j0 k l0 l1 (decide ((l1.length : Int) > 1048576)))) = some true := h
 clear h
 have HC3 := Aside0.mk H
 clear H
 go_enter Try.func9, Try.ntmps9
 go_upto_region 1 with (fail)
 go_cut [17] (fun v17 wc => ∃ (kq : Nat) (x17_2 : Bool), v17 = .bool x17_2 ∧ Aside0 (laws_FnSnap.j0 kq l0 l1 x17_2 = some true) ∧ Aside0 (kq ≤ k) ∧ Aside0 (Below w.heap.size w wc))
 case first =>
  have H := HC3.out
  clear HC3
  by_cases c4 : (l0.length : Int) > 1048576
  ·rw [if_pos c4] at H
   have c4b0 : decide (1048576 < (l0.length : Int)) = true := decide_eq_true c4
   have c4b1 : decide (1048576 < l0.length) = true := decide_eq_true (by omega)
   clear c4
   (first | rw [c4b0] | (simp only [i64_w, i32_w]; rw [c4b0]) | skip)
   have H' := Aside0.mk H
   clear H
   go_wp2
   go_meet
   case rel => exact ⟨_, (true), (by first | rfl | (simp; done) | (simp [*]; done)), H', ⟨by first | omega | exact Nat.le_refl _⟩, ⟨by repeat (first | (with_reducible first | exact HB.out | apply below_alloc | apply pw_below_drewN | apply below_drew1) | exact HB.out)⟩⟩
  ·rw [if_neg c4] at H
   have c4b0 : decide (1048576 < (l0.length : Int)) = false := decide_eq_false c4
   have c4b1 : decide (1048576 < l0.length) = false := decide_eq_false (by omega)
   clear c4
   (first | rw [c4b0] | (simp only [i64_w, i32_w]; rw [c4b0]) | skip)
   have H' := Aside0.mk H
   clear H
   go_wp2
   go_meet
   case rel => exact ⟨_, (decide ((l1.length : Int) > 1048576)), (by first | rfl | (simp; done) | (simp [*]; done)), H', ⟨by first | omega | exact Nat.le_refl _⟩, ⟨by repeat (first | (with_reducible first | exact HB.out | apply below_alloc | apply pw_below_drewN | apply below_drew1) | exact HB.out)⟩⟩
 case rest =>
  clear HC3
  try clear c1
  try clear p2
  try clear c4
  try clear c4b0
  try clear c4b1
  obtain ⟨kq, x17_2, rfl, HA, HJ2, HB⟩ := hcut
  cases kq with
  | zero => exact absurd HA.out (by simp [laws_FnSnap.j0])
  | succ kj2 =>
   have H := HA.out
   clear HA
   simp only [laws_FnSnap.j0] at H
   by_cases c5 : x17_2 = true
   ·subst c5
    have H1 : (some true) = some true := rfl
    clear H
    have H := H1
    clear H1
    have hS_ := Option.some.inj H
    clear hS_
    go_wp2
    go_ret
    exact ⟨by first | rfl | (simp [errW_none, errW_some] <;> rfl) | (simp [*, errW_none, errW_some] <;> rfl), by repeat (first | (with_reducible first | exact HB.out | apply below_alloc | apply pw_below_drewN | apply below_drew1) | exact HB.out)⟩
   ·replace c5 := Bool.eq_false_iff.mpr c5
    subst c5
    have H1 : ((spec_DrawEncodeSnap.f kj2 l0).bind fun bt101 => ((spec_EncodeSnap.f kj2 bt101.1 bt101.2.1 bt101.2.2.1 bt101.2.2.2).bind fun t110 => ((impl_EncodeSnap.f bt101.1 bt101.2.1 bt101.2.2.1 bt101.2.2.2).bind fun t113 => ((impl_DecodeSnap.f t113).bind fun bt116 => (if (bt116.1 != (decide ((t110.length : Int) > 0))) = true then (some false) else (if (t110.length : Int) > 0 then (if bt116.2.1 = bt101.1 then (if bt116.2.2.1 = bt101.2.1 then ((laws_lwNums.f kj2 bt116.2.2.2.1 bt101.2.2.1).bind fun t126 => (if t126 = true then ((laws_lwNums.f kj2 bt116.2.2.2.2 bt101.2.2.2).bind fun t127 => (laws_FnSnap.j1 kj2 l1 (!t127))) else (laws_FnSnap.j1 kj2 l1 true))) else (laws_FnSnap.j1 kj2 l1 true)) else (laws_FnSnap.j1 kj2 l1 true)) else (laws_FnSnap.j1 kj2 l1 false))))))) = some true := by rw [if_neg (show ¬ (false = true) by decide)] at H; exact H
    clear H
    have H := H1
    clear H1
    replace H := Option.bind_eq_some_iff.mp H
    obtain ⟨⟨t101, t102, t103, t106⟩, A60, H⟩ := H
    replace H : ((spec_EncodeSnap.f kj2 t101 t102 t103 t106).bind fun t110 => ((impl_EncodeSnap.f t101 t102 t103 t106).bind fun t113 => ((impl_DecodeSnap.f t113).bind fun bt116 => (if (bt116.1 != (decide ((t110.length : Int) > 0))) = true then (some false) else (if (t110.length : Int) > 0 then (if bt116.2.1 = t101 then (if bt116.2.2.1 = t102 then ((laws_lwNums.f kj2 bt116.2.2.2.1 t103).bind fun t126 => (if t126 = true then ((laws_lwNums.f kj2 bt116.2.2.2.2 t106).bind fun t127 => (laws_FnSnap.j1 kj2 l1 (!t127))) else (laws_FnSnap.j1 kj2 l1 true))) else (laws_FnSnap.j1 kj2 l1 true)) else (laws_FnSnap.j1 kj2 l1 true)) else (laws_FnSnap.j1 kj2 l1 false)))))) = some true := H
    have A6 := Aside0.mk A60
    clear A60
    replace H := Option.bind_eq_some_iff.mp H
    obtain ⟨t110, A70, H⟩ := H
    replace H : ((impl_EncodeSnap.f t101 t102 t103 t106).bind fun t113 => ((impl_DecodeSnap.f t113).bind fun bt116 => (if (bt116.1 != (decide ((t110.length : Int) > 0))) = true then (some false) else (if (t110.length : Int) > 0 then (if bt116.2.1 = t101 then (if bt116.2.2.1 = t102 then ((laws_lwNums.f kj2 bt116.2.2.2.1 t103).bind fun t126 => (if t126 = true then ((laws_lwNums.f kj2 bt116.2.2.2.2 t106).bind fun t127 => (laws_FnSnap.j1 kj2 l1 (!t127))) else (laws_FnSnap.j1 kj2 l1 true))) else (laws_FnSnap.j1 kj2 l1 true)) else (laws_FnSnap.j1 kj2 l1 true)) else (laws_FnSnap.j1 kj2 l1 false))))) = some true := H
    have A7 := Aside0.mk A70
    clear A70
    replace H := Option.bind_eq_some_iff.mp H
    obtain ⟨t113, A80, H⟩ := H
    replace H : ((impl_DecodeSnap.f t113).bind fun bt116 => (if (bt116.1 != (decide ((t110.length : Int) > 0))) = true then (some false) else (if (t110.length : Int) > 0 then (if bt116.2.1 = t101 then (if bt116.2.2.1 = t102 then ((laws_lwNums.f kj2 bt116.2.2.2.1 t103).bind fun t126 => (if t126 = true then ((laws_lwNums.f kj2 bt116.2.2.2.2 t106).bind fun t127 => (laws_FnSnap.j1 kj2 l1 (!t127))) else (laws_FnSnap.j1 kj2 l1 true))) else (laws_FnSnap.j1 kj2 l1 true)) else (laws_FnSnap.j1 kj2 l1 true)) else (laws_FnSnap.j1 kj2 l1 false)))) = some true := H
    have A8 := Aside0.mk A80
    clear A80
    replace H := Option.bind_eq_some_iff.mp H
    obtain ⟨⟨t116, t117, t118, t119, t122⟩, A90, H⟩ := H
    replace H : (if (t116 != (decide ((t110.length : Int) > 0))) = true then (some false) else (if (t110.length : Int) > 0 then (if t117 = t101 then (if t118 = t102 then ((laws_lwNums.f kj2 t119 t103).bind fun t126 => (if t126 = true then ((laws_lwNums.f kj2 t122 t106).bind fun t127 => (laws_FnSnap.j1 kj2 l1 (!t127))) else (laws_FnSnap.j1 kj2 l1 true))) else (laws_FnSnap.j1 kj2 l1 true)) else (laws_FnSnap.j1 kj2 l1 true)) else (laws_FnSnap.j1 kj2 l1 false))) = some true := H
    have A9 := Aside0.mk A90
    clear A90
    by_cases c10 : (t116 != (decide ((t110.length : Int) > 0))) = true
    ·rw [if_pos c10] at H
     have c10b0 : (t116 != (decide ((t110.length : Int) > 0))) = true := c10
     (try (have c10b1 : decide (t116 = (decide ((t110.length : Int) > 0))) = false := by simpa using c10))
     (try (have c10b2 : (t116 == (decide ((t110.length : Int) > 0))) = false := by simpa using c10))
     (try (have c10b3 : ¬ (t116 = (decide ((t110.length : Int) > 0))) := by simpa using c10))
     clear c10
     exact absurd H (by simp)
    ·rw [if_neg c10] at H
     have c10b0 : (t116 != (decide ((t110.length : Int) > 0))) = false := by simpa using c10
     have c10bx : (!(t116 == decide (0 < t110.length))) = false := by
      have q_ := c10b0
      rw [show decide ((t110.length : Int) > 0) = decide (0 < t110.length) from decide_eq_decide.2 (by omega)] at q_
      revert q_
      cases t116 <;> cases decide (0 < t110.length) <;> decide
     (try (have c10b1 : decide (t116 = (decide ((t110.length : Int) > 0))) = true := by simpa using c10))
     (try (have c10b2 : (t116 == (decide ((t110.length : Int) > 0))) = true := by simpa using c10))
     clear c10
     have HC11 := Aside0.mk H
     clear H
     go_upto_region 8 with (first | ((with_reducible refine gate_callee (f := 35) rfl ?_); refine goesL_ (some 19) rfl rfl Try.func35 (by kernel_rfl) rfl #[.slice A0 l0.length c0] rfl (by (try simp only [List.map_toArray, List.map_cons, List.map_nil]); first | done | rfl | (simp only [List.length_drop, List.length_take]; rfl)) ?_; (with_reducible refine (spec_DrawEncodeSnap.calls kj2 _ _ l0 t101 t102 t103 t106 _ ?side1 ?side2 A6.out).mono ?_); (case side1 => repeat (first | exact (Kd.C_below HR0.out HB.out) | (with_reducible refine Kd.C_alloc ?_ _) | (with_reducible refine Kd.C_drewN ?_ _) | (with_reducible refine Kd.C_drew ?_))); (case side2 => exact HC0.out); rintro e w12 ⟨v104, v107, rfl, ho0, ho1, hb⟩; refine ⟨_, rfl, ?_⟩; have n0_ := Aside0.mk (Kd.R_lower ho0 (below_size (by repeat (first | (with_reducible first | exact HB.out | apply below_alloc | apply pw_below_drewN | apply below_drew1) | exact HB.out)))); have n1_ := Aside0.mk (Kd.R_lower ho1 (below_size (by repeat (first | (with_reducible first | exact HB.out | apply below_alloc | apply pw_below_drewN | apply below_drew1) | exact HB.out)))); have n2_ := Aside0.mk (below_step (by repeat (first | (with_reducible first | exact HB.out | apply below_alloc | apply pw_below_drewN | apply below_drew1) | exact HB.out)) hb); clear HB; have HO105 := n0_; have HO108 := n1_; have HB := n2_; clear n0_ n1_ n2_; (try clear hb); (try clear hb2); (try clear hk); (try clear hi); (try clear ho0); (try clear ho1)) | ((with_reducible refine gate_dst (N := 5) rfl ?_); (try (refine gate_guard (by rfl) ?_; dsimp only)); refine box_event ?hg (N := 5) ?hd (cs := #[.int .u32 0, .int .u32 0, .slice none 0 0, .slice none 0 0]) (t := 44) ?hr ?_; (case hd => rfl); (case hg => rfl); (case hr => first | (go_simp; done) | (go_simp; rfl)); intro gb109 hg w13 hbox hb; have n0_ := Aside0.mk (Kd.R_below (by (with_reducible repeat (first | apply Kd.R_alloc | apply Kd.R_drewN | apply Kd.R_drew)); exact HO105.out) hb); have n1_ := Aside0.mk (Kd.R_below (by (with_reducible repeat (first | apply Kd.R_alloc | apply Kd.R_drewN | apply Kd.R_drew)); exact HO108.out) hb); have n2_ := Aside0.mk (below_step (by repeat (first | (with_reducible first | exact HB.out | apply below_alloc | apply pw_below_drewN | apply below_drew1) | exact HB.out)) hb); have n3_ := Aside0.mk (hbox); have n4_ := Aside0.mk ((by rw [hg]; exact (below_size (by repeat (first | (with_reducible first | exact HB.out | apply below_alloc | apply pw_below_drewN | apply below_drew1) | exact HB.out))) : w.heap.size ≤ gb109)); have n5_ := Aside0.mk ((by rw [hg]; exact (below_size (by repeat (first | (with_reducible first | exact HB.out | apply below_alloc | apply pw_below_drewN | apply below_drew1) | exact HB.out))) : w.heap.size ≤ gb109)); clear HO105; clear HO108; clear HB; have HO105 := n0_; have HO108 := n1_; have HB := n2_; have BK109 := n3_; have GW109 := n4_; have GE109 := n5_; clear n0_ n1_ n2_ n3_ n4_ n5_; clear hb hbox hg; have hcz14_0 : w13.cell? ⟨gb109, 0, none⟩ = some (.int .u32 0) := (blk_cell BK109.out 0).trans rfl; have hcz14_1 : w13.cell? ⟨gb109, 1, none⟩ = some (.int .u32 0) := (blk_cell BK109.out 1).trans rfl; have hcz14_2 : w13.cell? ⟨gb109, 2, none⟩ = some (.slice none 0 0) := (blk_cell BK109.out 2).trans rfl; have hcz14_3 : w13.cell? ⟨gb109, 3, none⟩ = some (.slice none 0 0) := (blk_cell BK109.out 3).trans rfl; have hfz14_0 := blk_frozen BK109.out 0; have hfz14_1 := blk_frozen BK109.out 1; have hfz14_2 := blk_frozen BK109.out 2; have hfz14_3 := blk_frozen BK109.out 3; obtain ⟨Ao15, co15, eo15⟩ := Kd.R_slice HO105.out; subst eo15; obtain ⟨Ao16, co16, eo16⟩ := Kd.R_slice HO108.out; subst eo16) | ((with_reducible refine gate_callee (f := 25) rfl ?_); refine goesL_ (some 21) rfl rfl Try.func25 (by kernel_rfl) rfl #[.agg #[.int .u32 t101, .int .u32 t102, .slice Ao15 t103.length co15, .slice Ao16 t106.length co16]] rfl (by (try simp only [List.map_toArray, List.map_cons, List.map_nil]); first | done | rfl | (simp only [List.length_drop, List.length_take]; rfl)) ?_; (with_reducible refine (spec_EncodeSnap.calls kj2 t101 t102 _ _ t103 _ _ t106 t110 _ ?side1 ?side2 ?side3 ?side4 A7.out).mono ?_); (case side1 => refine (Kd.R_reads' (e := 2) (base := w.heap.size) (ok := fun k_ => some k_ ≠ (.slice Ao16 t106.length co16 : Value).ownBlock) (n := t103.length) (c := co15) ?_).2.2; exact (by (with_reducible repeat (first | apply Kd.R_alloc | apply Kd.R_drewN | apply Kd.R_drew)); exact (Kd.R_mono (Kd.R_far (p := ⟨gb109, 3, none⟩) (Kd.R_far (p := ⟨gb109, 2, none⟩) (Kd.R_far (p := ⟨gb109, 1, none⟩) (Kd.R_far (p := ⟨gb109, 0, none⟩) (Kd.R_types HO105.out BK109.out (by decide)) (fun _ hk => hk.2) (.int .u32 t101)) (fun _ hk => hk.2) (.int .u32 t102)) (fun _ hk => hk.2) (.slice Ao15 t103.length co15)) (fun _ hk => hk.2) (.slice Ao16 t106.length co16)) (fun _ h_ => h_.1)))); (case side2 => exact (Kd.R_reads' HO105.out).2.1); (case side3 => refine (Kd.R_reads' (e := 2) (base := w.heap.size) (ok := fun k_ => some k_ ≠ (.slice Ao15 t103.length co15 : Value).ownBlock) (n := t106.length) (c := co16) ?_).2.2; exact (by (with_reducible repeat (first | apply Kd.R_alloc | apply Kd.R_drewN | apply Kd.R_drew)); exact (Kd.R_mono (Kd.R_far (p := ⟨gb109, 3, none⟩) (Kd.R_far (p := ⟨gb109, 2, none⟩) (Kd.R_far (p := ⟨gb109, 1, none⟩) (Kd.R_far (p := ⟨gb109, 0, none⟩) (Kd.R_types HO108.out BK109.out (by decide)) (fun _ hk => hk.2) (.int .u32 t101)) (fun _ hk => hk.2) (.int .u32 t102)) (fun _ hk => hk.2) (.slice Ao15 t103.length co15)) (fun _ hk => hk.2) (.slice Ao16 t106.length co16)) (fun _ h_ => h_.1)))); (case side4 => exact (Kd.R_reads' HO108.out).2.1); rintro e w17 ⟨v111, rfl, ho0, hb⟩; refine ⟨_, rfl, ?_⟩; have n0_ := Aside0.mk (Kd.R_below (by (with_reducible repeat (first | apply Kd.R_alloc | apply Kd.R_drewN | apply Kd.R_drew)); exact (Kd.R_mono (Kd.R_far (p := ⟨gb109, 3, none⟩) (Kd.R_far (p := ⟨gb109, 2, none⟩) (Kd.R_far (p := ⟨gb109, 1, none⟩) (Kd.R_far (p := ⟨gb109, 0, none⟩) (Kd.R_types HO105.out BK109.out (by decide)) (fun _ hk => hk.2) (.int .u32 t101)) (fun _ hk => hk.2) (.int .u32 t102)) (fun _ hk => hk.2) (.slice Ao15 t103.length co15)) (fun _ hk => hk.2) (.slice Ao16 t106.length co16)) (fun _ h_ => h_.1))) hb); have n1_ := Aside0.mk (Kd.R_below (by (with_reducible repeat (first | apply Kd.R_alloc | apply Kd.R_drewN | apply Kd.R_drew)); exact (Kd.R_mono (Kd.R_far (p := ⟨gb109, 3, none⟩) (Kd.R_far (p := ⟨gb109, 2, none⟩) (Kd.R_far (p := ⟨gb109, 1, none⟩) (Kd.R_far (p := ⟨gb109, 0, none⟩) (Kd.R_types HO108.out BK109.out (by decide)) (fun _ hk => hk.2) (.int .u32 t101)) (fun _ hk => hk.2) (.int .u32 t102)) (fun _ hk => hk.2) (.slice Ao15 t103.length co15)) (fun _ hk => hk.2) (.slice Ao16 t106.length co16)) (fun _ h_ => h_.1))) hb); have n2_ := Aside0.mk (Kd.R_lower ho0 (below_size (by repeat (first | (with_reducible first | exact HB.out | apply below_alloc | apply pw_below_drewN | apply below_drew1 | refine below_set ?_ GE109.out) | exact HB.out)))); have n3_ := Aside0.mk (blk_below (g := gb109) (o := .cells #[.int .u32 t101, .int .u32 t102, .slice Ao15 t103.length co15, .slice Ao16 t106.length co16] 44 (0, 0)) (by (with_reducible repeat (first | refine blk_drewN ?_ _ | refine blk_drew ?_ | refine blk_alloc ?_ _)); refine blk_put (cs := #[.int .u32 t101, .int .u32 t102, .slice Ao15 t103.length co15, .slice none 0 0]) ?_ 3 _ rfl; (with_reducible repeat (first | refine blk_drewN ?_ _ | refine blk_drew ?_ | refine blk_alloc ?_ _)); refine blk_put (cs := #[.int .u32 t101, .int .u32 t102, .slice none 0 0, .slice none 0 0]) ?_ 2 _ rfl; (with_reducible repeat (first | refine blk_drewN ?_ _ | refine blk_drew ?_ | refine blk_alloc ?_ _)); refine blk_put (cs := #[.int .u32 t101, .int .u32 0, .slice none 0 0, .slice none 0 0]) ?_ 1 _ rfl; (with_reducible repeat (first | refine blk_drewN ?_ _ | refine blk_drew ?_ | refine blk_alloc ?_ _)); refine blk_put (cs := #[.int .u32 0, .int .u32 0, .slice none 0 0, .slice none 0 0]) ?_ 0 _ rfl; (with_reducible repeat (first | refine blk_drewN ?_ _ | refine blk_drew ?_ | refine blk_alloc ?_ _)); exact BK109.out) hb); have n4_ := Aside0.mk (below_step (by repeat (first | (with_reducible first | exact HB.out | apply below_alloc | apply pw_below_drewN | apply below_drew1 | refine below_set ?_ GE109.out) | exact HB.out)) hb); clear HO105; clear HO108; clear BK109; clear HB; have HO105 := n0_; have HO108 := n1_; have HO112 := n2_; have BK109 := n3_; have HB := n4_; clear n0_ n1_ n2_ n3_ n4_; (try clear hb); (try clear hb2); (try clear hk); (try clear hi); (try clear ho0); obtain ⟨Ao18, co18, eo18⟩ := Kd.R_slice HO112.out; subst eo18; have hcz19_0 : w17.cell? ⟨gb109, 0, none⟩ = some (.int .u32 t101) := (blk_cell BK109.out 0).trans rfl; have hcz19_1 : w17.cell? ⟨gb109, 1, none⟩ = some (.int .u32 t102) := (blk_cell BK109.out 1).trans rfl; have hcz19_2 : w17.cell? ⟨gb109, 2, none⟩ = some (.slice Ao15 t103.length co15) := (blk_cell BK109.out 2).trans rfl; have hcz19_3 : w17.cell? ⟨gb109, 3, none⟩ = some (.slice Ao16 t106.length co16) := (blk_cell BK109.out 3).trans rfl; have hfz19_0 := blk_frozen BK109.out 0; have hfz19_1 := blk_frozen BK109.out 1; have hfz19_2 := blk_frozen BK109.out 2; have hfz19_3 := blk_frozen BK109.out 3) | ((with_reducible refine gate_callee (f := 27) rfl ?_); refine goesL_ (some 25) rfl rfl Try.func27 (by kernel_rfl) rfl #[.agg #[.int .u32 t101, .int .u32 t102, .slice Ao15 t103.length co15, .slice Ao16 t106.length co16]] rfl (by (try simp only [List.map_toArray, List.map_cons, List.map_nil]); first | done | rfl | (simp only [List.length_drop, List.length_take]; rfl)) ?_; (with_reducible refine (impl_EncodeSnap.calls t101 t102 _ _ t103 _ _ t106 t113 _ ?side1 ?side2 ?side3 ?side4 A8.out).mono ?_); (case side1 => repeat (first | exact (Kd.R_reads' HO105.out).2.2 | (with_reducible refine Kd.C_alloc ?_ _) | (with_reducible refine Kd.C_drewN ?_ _) | (with_reducible refine Kd.C_drew ?_))); (case side2 => exact (Kd.R_reads' HO105.out).2.1); (case side3 => repeat (first | exact (Kd.R_reads' HO108.out).2.2 | (with_reducible refine Kd.C_alloc ?_ _) | (with_reducible refine Kd.C_drewN ?_ _) | (with_reducible refine Kd.C_drew ?_))); (case side4 => exact (Kd.R_reads' HO108.out).2.1); rintro e w20 ⟨v114, rfl, ho0, hb⟩; refine ⟨_, rfl, ?_⟩; have n0_ := Aside0.mk (Kd.R_below (by (with_reducible repeat (first | apply Kd.R_alloc | apply Kd.R_drewN | apply Kd.R_drew)); exact HO105.out) hb); have n1_ := Aside0.mk (Kd.R_below (by (with_reducible repeat (first | apply Kd.R_alloc | apply Kd.R_drewN | apply Kd.R_drew)); exact HO108.out) hb); have n2_ := Aside0.mk (Kd.R_elder' (by (with_reducible repeat (first | apply Kd.R_alloc | apply Kd.R_drewN | apply Kd.R_drew)); exact HO112.out) (Kd.R_base ho0) hb); have n3_ := Aside0.mk (Kd.R_lower (Kd.R_new' ho0 (Kd.R_lt (by (with_reducible repeat (first | apply Kd.R_alloc | apply Kd.R_drewN | apply Kd.R_drew)); exact HO112.out))) (below_size (by repeat (first | (with_reducible first | exact HB.out | apply below_alloc | apply pw_below_drewN | apply below_drew1 | refine below_set ?_ GE109.out) | exact HB.out)))); have n4_ := Aside0.mk (blk_below (g := gb109) (o := .cells #[.int .u32 t101, .int .u32 t102, .slice Ao15 t103.length co15, .slice Ao16 t106.length co16] 44 (0, 0)) (by (with_reducible repeat (first | refine blk_drewN ?_ _ | refine blk_drew ?_ | refine blk_alloc ?_ _)); exact BK109.out) hb); have n5_ := Aside0.mk (below_step (by repeat (first | (with_reducible first | exact HB.out | apply below_alloc | apply pw_below_drewN | apply below_drew1 | refine below_set ?_ GE109.out) | exact HB.out)) hb); clear HO105; clear HO108; clear HO112; clear BK109; clear HB; have HO105 := n0_; have HO108 := n1_; have HO112 := n2_; have HO115 := n3_; have BK109 := n4_; have HB := n5_; clear n0_ n1_ n2_ n3_ n4_ n5_; (try clear hb); (try clear hb2); (try clear hk); (try clear hi); (try clear ho0); obtain ⟨Ao21, co21, eo21⟩ := Kd.R_slice HO115.out; subst eo21) | ((with_reducible refine gate_callee (f := 31) rfl ?_); refine goesL_ (some 26) rfl rfl Try.func31 (by kernel_rfl) rfl #[.slice Ao21 t113.length co21] rfl (by (try simp only [List.map_toArray, List.map_cons, List.map_nil]); first | done | rfl | (simp only [List.length_drop, List.length_take]; rfl)) ?_; (with_reducible refine (impl_DecodeSnap.calls _ _ t113 t116 t117 t118 t119 t122 _ ?side1 ?side2 A9.out).mono ?_); (case side1 => repeat (first | exact (Kd.R_reads' HO115.out).2.2 | (with_reducible refine Kd.C_alloc ?_ _) | (with_reducible refine Kd.C_drewN ?_ _) | (with_reducible refine Kd.C_drew ?_))); (case side2 => exact (Kd.R_reads' HO115.out).2.1); rintro e w22 ⟨v120, v123, rfl, ho0, ho1, hb⟩; refine ⟨_, rfl, ?_⟩; have n0_ := Aside0.mk (Kd.R_mono (Kd.R_told (Kd.R_told (Kd.R_old (by (with_reducible repeat (first | apply Kd.R_alloc | apply Kd.R_drewN | apply Kd.R_drew)); exact HO105.out) hb) (Kd.R_base ho0)) (Kd.R_base ho1)) (fun _ h_ => h_.1)); have n1_ := Aside0.mk (Kd.R_mono (Kd.R_told (Kd.R_told (Kd.R_old (by (with_reducible repeat (first | apply Kd.R_alloc | apply Kd.R_drewN | apply Kd.R_drew)); exact HO108.out) hb) (Kd.R_base ho0)) (Kd.R_base ho1)) (fun _ h_ => h_.1)); have n2_ := Aside0.mk (Kd.R_below (by (with_reducible repeat (first | apply Kd.R_alloc | apply Kd.R_drewN | apply Kd.R_drew)); exact HO112.out) hb); have n3_ := Aside0.mk (Kd.R_below (by (with_reducible repeat (first | apply Kd.R_alloc | apply Kd.R_drewN | apply Kd.R_drew)); exact HO115.out) hb); have n4_ := Aside0.mk (Kd.R_lower (Kd.R_new' (Kd.R_new' ho0 (Kd.R_lt (by (with_reducible repeat (first | apply Kd.R_alloc | apply Kd.R_drewN | apply Kd.R_drew)); exact HO105.out))) (Kd.R_lt (by (with_reducible repeat (first | apply Kd.R_alloc | apply Kd.R_drewN | apply Kd.R_drew)); exact HO108.out))) (below_size (by repeat (first | (with_reducible first | exact HB.out | apply below_alloc | apply pw_below_drewN | apply below_drew1 | refine below_set ?_ GE109.out) | exact HB.out)))); have n5_ := Aside0.mk (Kd.R_lower (Kd.R_new' (Kd.R_new' ho1 (Kd.R_lt (by (with_reducible repeat (first | apply Kd.R_alloc | apply Kd.R_drewN | apply Kd.R_drew)); exact HO105.out))) (Kd.R_lt (by (with_reducible repeat (first | apply Kd.R_alloc | apply Kd.R_drewN | apply Kd.R_drew)); exact HO108.out))) (below_size (by repeat (first | (with_reducible first | exact HB.out | apply below_alloc | apply pw_below_drewN | apply below_drew1 | refine below_set ?_ GE109.out) | exact HB.out)))); have n6_ := Aside0.mk (blk_below (g := gb109) (o := .cells #[.int .u32 t101, .int .u32 t102, .slice Ao15 t103.length co15, .slice Ao16 t106.length co16] 44 (0, 0)) (by (with_reducible repeat (first | refine blk_drewN ?_ _ | refine blk_drew ?_ | refine blk_alloc ?_ _)); exact BK109.out) hb); have n7_ := Aside0.mk (below_step (by repeat (first | (with_reducible first | exact HB.out | apply below_alloc | apply pw_below_drewN | apply below_drew1 | refine below_set ?_ GE109.out) | exact HB.out)) hb); clear HO105; clear HO108; clear HO112; clear HO115; clear BK109; clear HB; have HO105 := n0_; have HO108 := n1_; have HO112 := n2_; have HO115 := n3_; have HO121 := n4_; have HO124 := n5_; have BK109 := n6_; have HB := n7_; clear n0_ n1_ n2_ n3_ n4_ n5_ n6_ n7_; (try clear hb); (try clear hb2); (try clear hk); (try clear hi); (try clear ho0); (try clear ho1)) | ((with_reducible refine gate_dst (N := 7) rfl ?_); (try (refine gate_guard (by rfl) ?_; dsimp only)); refine box_event ?hg (N := 7) ?hd (cs := #[.bool false, .int .u32 0, .int .u32 0, .slice none 0 0, .slice none 0 0]) (t := 50) ?hr ?_; (case hd => rfl); (case hg => rfl); (case hr => first | (go_simp; done) | (go_simp; rfl)); intro gb125 hg w23 hbox hb; have n0_ := Aside0.mk (Kd.R_below (by (with_reducible repeat (first | apply Kd.R_alloc | apply Kd.R_drewN | apply Kd.R_drew)); exact HO105.out) hb); have n1_ := Aside0.mk (Kd.R_below (by (with_reducible repeat (first | apply Kd.R_alloc | apply Kd.R_drewN | apply Kd.R_drew)); exact HO108.out) hb); have n2_ := Aside0.mk (Kd.R_below (by (with_reducible repeat (first | apply Kd.R_alloc | apply Kd.R_drewN | apply Kd.R_drew)); exact HO112.out) hb); have n3_ := Aside0.mk (Kd.R_below (by (with_reducible repeat (first | apply Kd.R_alloc | apply Kd.R_drewN | apply Kd.R_drew)); exact HO115.out) hb); have n4_ := Aside0.mk (Kd.R_below (by (with_reducible repeat (first | apply Kd.R_alloc | apply Kd.R_drewN | apply Kd.R_drew)); exact HO121.out) hb); have n5_ := Aside0.mk (Kd.R_below (by (with_reducible repeat (first | apply Kd.R_alloc | apply Kd.R_drewN | apply Kd.R_drew)); exact HO124.out) hb); have n6_ := Aside0.mk (blk_below (g := gb109) (o := .cells #[.int .u32 t101, .int .u32 t102, .slice Ao15 t103.length co15, .slice Ao16 t106.length co16] 44 (0, 0)) (by (with_reducible repeat (first | refine blk_drewN ?_ _ | refine blk_drew ?_ | refine blk_alloc ?_ _)); exact BK109.out) hb); have n7_ := Aside0.mk (below_step (by repeat (first | (with_reducible first | exact HB.out | apply below_alloc | apply pw_below_drewN | apply below_drew1 | refine below_set ?_ GE109.out) | exact HB.out)) hb); have n8_ := Aside0.mk (hbox); have n9_ := Aside0.mk ((by rw [hg]; exact (below_size (by repeat (first | (with_reducible first | exact HB.out | apply below_alloc | apply pw_below_drewN | apply below_drew1 | refine below_set ?_ GE109.out) | exact HB.out))) : w.heap.size ≤ gb125)); have n10_ := Aside0.mk ((by rw [hg]; exact (below_size (by repeat (first | (with_reducible first | exact HB.out | apply below_alloc | apply pw_below_drewN | apply below_drew1 | refine below_set ?_ GE109.out) | exact HB.out))) : w.heap.size ≤ gb125)); have n11_ := Aside0.mk ((by rw [hg]; exact Nat.ne_of_lt (blk_lt (g := gb109) (o := .cells #[.int .u32 t101, .int .u32 t102, .slice Ao15 t103.length co15, .slice Ao16 t106.length co16] 44 (0, 0)) (by (with_reducible repeat (first | refine blk_drewN ?_ _ | refine blk_drew ?_ | refine blk_alloc ?_ _)); exact BK109.out)) : gb109 ≠ gb125)); have n12_ := Aside0.mk ((by rw [hg]; exact Nat.ne_of_gt (blk_lt (g := gb109) (o := .cells #[.int .u32 t101, .int .u32 t102, .slice Ao15 t103.length co15, .slice Ao16 t106.length co16] 44 (0, 0)) (by (with_reducible repeat (first | refine blk_drewN ?_ _ | refine blk_drew ?_ | refine blk_alloc ?_ _)); exact BK109.out)) : gb125 ≠ gb109)); clear HO105; clear HO108; clear HO112; clear HO115; clear HO121; clear HO124; clear BK109; clear HB; have HO105 := n0_; have HO108 := n1_; have HO112 := n2_; have HO115 := n3_; have HO121 := n4_; have HO124 := n5_; have BK109 := n6_; have HB := n7_; have BK125 := n8_; have GW125 := n9_; have GE125 := n10_; have NB109_125 := n11_; have NB125_109 := n12_; clear n0_ n1_ n2_ n3_ n4_ n5_ n6_ n7_ n8_ n9_ n10_ n11_ n12_; clear hb hbox hg; have hnb24 := NB125_109.out; have hnc24 := NB109_125.out; have hcz25_0 : w23.cell? ⟨gb125, 0, none⟩ = some (.bool false) := (blk_cell BK125.out 0).trans rfl; have hcz25_1 : w23.cell? ⟨gb125, 1, none⟩ = some (.int .u32 0) := (blk_cell BK125.out 1).trans rfl; have hcz25_2 : w23.cell? ⟨gb125, 2, none⟩ = some (.int .u32 0) := (blk_cell BK125.out 2).trans rfl; have hcz25_3 : w23.cell? ⟨gb125, 3, none⟩ = some (.slice none 0 0) := (blk_cell BK125.out 3).trans rfl; have hcz25_4 : w23.cell? ⟨gb125, 4, none⟩ = some (.slice none 0 0) := (blk_cell BK125.out 4).trans rfl; have hfz25_0 := blk_frozen BK125.out 0; have hfz25_1 := blk_frozen BK125.out 1; have hfz25_2 := blk_frozen BK125.out 2; have hfz25_3 := blk_frozen BK125.out 3; have hfz25_4 := blk_frozen BK125.out 4; obtain ⟨Ao26, co26, eo26⟩ := Kd.R_slice HO121.out; subst eo26; obtain ⟨Ao27, co27, eo27⟩ := Kd.R_slice HO124.out; subst eo27))
     (try simp only [Act.put, List.setIfInBounds_toArray, List.set_cons_zero, List.set_cons_succ])
     clear c10bx
     obtain ⟨b6_, hb6_⟩ : ∃ b_ : Bool, b_ = decide (0 < t110.length) := ⟨_, rfl⟩
     rw [← hb6_]
     have HB6_ := Aside0.mk hb6_
     clear hb6_
     go_cut [65] (fun v65 wc => ∃ (kq : Nat) (x65_10 : Bool), v65 = .bool x65_10 ∧ Aside0 (laws_FnSnap.j1 kq l1 x65_10 = some true) ∧ Aside0 (kq ≤ kj2) ∧ Aside0 (Kd.R (Kd.int .i64) 2 wc w.heap.size (fun k_ => some k_ ≠ ((.slice Ao16 t106.length co16) : Value).ownBlock ∧ some k_ ≠ ((.slice Ao26 t119.length co26) : Value).ownBlock ∧ some k_ ≠ ((.slice Ao27 t122.length co27) : Value).ownBlock) (.slice Ao15 t103.length co15) t103) ∧ Aside0 (Kd.R (Kd.int .i64) 2 wc w.heap.size (fun k_ => some k_ ≠ ((.slice Ao15 t103.length co15) : Value).ownBlock ∧ some k_ ≠ ((.slice Ao26 t119.length co26) : Value).ownBlock ∧ some k_ ≠ ((.slice Ao27 t122.length co27) : Value).ownBlock) (.slice Ao16 t106.length co16) t106) ∧ Aside0 (Kd.R (Kd.int .i64) 2 wc w.heap.size (fun k_ => some k_ ≠ ((.slice Ao15 t103.length co15) : Value).ownBlock ∧ some k_ ≠ ((.slice Ao16 t106.length co16) : Value).ownBlock ∧ some k_ ≠ ((.slice Ao27 t122.length co27) : Value).ownBlock) (.slice Ao26 t119.length co26) t119) ∧ Aside0 (Kd.R (Kd.int .i64) 2 wc w.heap.size (fun k_ => some k_ ≠ ((.slice Ao15 t103.length co15) : Value).ownBlock ∧ some k_ ≠ ((.slice Ao16 t106.length co16) : Value).ownBlock ∧ some k_ ≠ ((.slice Ao26 t119.length co26) : Value).ownBlock) (.slice Ao27 t122.length co27) t122) ∧ Aside0 (wc.heap[gb109]? = some (.cells #[.int .u32 t101, .int .u32 t102, (.slice Ao15 t103.length co15), (.slice Ao16 t106.length co16)] 44 (0, 0))) ∧ Aside0 (wc.heap[gb125]? = some (.cells #[.bool t116, .int .u32 t117, .int .u32 t118, (.slice Ao26 t119.length co26), (.slice Ao27 t122.length co27)] 50 (0, 0))) ∧ Aside0 (Below w.heap.size w wc))
     case first =>
      have H := HC11.out
      clear HC11
      by_cases c28 : (t110.length : Int) > 0
      ·rw [if_pos c28] at H
       have c28b0 : decide (0 < (t110.length : Int)) = true := decide_eq_true c28
       have c28b1 : decide (0 < t110.length) = true := decide_eq_true (by omega)
       have e6_ := HB6_.out.trans c28b1
       subst e6_
       clear c28
       (first | rw [c28b0] | (simp only [i64_w, i32_w]; rw [c28b0]) | skip)
       by_cases c29 : t117 = t101
       ·rw [if_pos c29] at H
        have c29b0 : (t117 == t101) = true := beq_iff_eq.mpr c29
        have c29b1 : (t117 != t101) = false := bne_eq_false_iff_eq.mpr c29
        clear c29
        by_cases c30 : t118 = t102
        ·rw [if_pos c30] at H
         have c30b0 : (t118 == t102) = true := beq_iff_eq.mpr c30
         have c30b1 : (t118 != t102) = false := bne_eq_false_iff_eq.mpr c30
         clear c30
         replace H := Option.bind_eq_some_iff.mp H
         obtain ⟨t126, A310, H⟩ := H
         replace H : (if t126 = true then ((laws_lwNums.f kj2 t122 t106).bind fun t127 => (laws_FnSnap.j1 kj2 l1 (!t127))) else (laws_FnSnap.j1 kj2 l1 true)) = some true := H
         have A31 := Aside0.mk A310
         clear A310
         by_cases c32 : t126 = true
         ·subst c32
          have H1 : ((laws_lwNums.f kj2 t122 t106).bind fun t127 => (laws_FnSnap.j1 kj2 l1 (!t127))) = some true := by rw [if_pos rfl] at H; exact H
          clear H
          have H := H1
          clear H1
          replace H := Option.bind_eq_some_iff.mp H
          obtain ⟨t127, A330, H⟩ := H
          replace H : (laws_FnSnap.j1 kj2 l1 (!t127)) = some true := H
          have A33 := Aside0.mk A330
          clear A330
          have H' := Aside0.mk H
          clear H
          have hnb34 := NB125_109.out
          have hnc34 := NB109_125.out
          have hcz35_0 : w23.cell? ⟨gb125, 0, none⟩ = some (.bool false) := (blk_cell BK125.out 0).trans rfl
          have hcz35_1 : w23.cell? ⟨gb125, 1, none⟩ = some (.int .u32 0) := (blk_cell BK125.out 1).trans rfl
          have hcz35_2 : w23.cell? ⟨gb125, 2, none⟩ = some (.int .u32 0) := (blk_cell BK125.out 2).trans rfl
          have hcz35_3 : w23.cell? ⟨gb125, 3, none⟩ = some (.slice none 0 0) := (blk_cell BK125.out 3).trans rfl
          have hcz35_4 : w23.cell? ⟨gb125, 4, none⟩ = some (.slice none 0 0) := (blk_cell BK125.out 4).trans rfl
          have hfz35_0 := blk_frozen BK125.out 0
          have hfz35_1 := blk_frozen BK125.out 1
          have hfz35_2 := blk_frozen BK125.out 2
          have hfz35_3 := blk_frozen BK125.out 3
          have hfz35_4 := blk_frozen BK125.out 4
          have hcz36_0 : w23.cell? ⟨gb109, 0, none⟩ = some (.int .u32 t101) := (blk_cell BK109.out 0).trans rfl
          have hcz36_1 : w23.cell? ⟨gb109, 1, none⟩ = some (.int .u32 t102) := (blk_cell BK109.out 1).trans rfl
          have hcz36_2 : w23.cell? ⟨gb109, 2, none⟩ = some (.slice Ao15 t103.length co15) := (blk_cell BK109.out 2).trans rfl
          have hcz36_3 : w23.cell? ⟨gb109, 3, none⟩ = some (.slice Ao16 t106.length co16) := (blk_cell BK109.out 3).trans rfl
          have hfz36_0 := blk_frozen BK109.out 0
          have hfz36_1 := blk_frozen BK109.out 1
          have hfz36_2 := blk_frozen BK109.out 2
          have hfz36_3 := blk_frozen BK109.out 3
          go_wp2_with (first | (go_at_call 36; (with_reducible refine (laws_lwNums.calls kj2 _ _ t119 _ _ t103 true _ ?side1 ?side2 ?side3 ?side4 A31.out).mono ?_); (case side1 => refine (Kd.R_reads' (e := 2) (base := w.heap.size) (ok := fun k_ => ((some k_ ≠ (.slice Ao27 t122.length co27 : Value).ownBlock ∧ some k_ ≠ (.slice Ao15 t103.length co15 : Value).ownBlock) ∧ some k_ ≠ (.slice Ao16 t106.length co16 : Value).ownBlock)) (n := t119.length) (c := co26) ?_).2.2; exact (by (with_reducible repeat (first | apply Kd.R_alloc | apply Kd.R_drewN | apply Kd.R_drew)); exact (Kd.R_mono (Kd.R_far (p := ⟨gb125, 4, none⟩) (Kd.R_far (p := ⟨gb125, 3, none⟩) (Kd.R_far (p := ⟨gb125, 2, none⟩) (Kd.R_far (p := ⟨gb125, 1, none⟩) (Kd.R_far (p := ⟨gb125, 0, none⟩) (Kd.R_types HO121.out BK125.out (by decide)) (fun _ hk => hk.2) (.bool t116)) (fun _ hk => hk.2) (.int .u32 t117)) (fun _ hk => hk.2) (.int .u32 t118)) (fun _ hk => hk.2) (.slice Ao26 t119.length co26)) (fun _ hk => hk.2) (.slice Ao27 t122.length co27)) (fun _ h_ => h_.1)))); (case side2 => exact (Kd.R_reads' HO121.out).2.1); (case side3 => refine (Kd.R_reads' (e := 2) (base := w.heap.size) (ok := fun k_ => ((some k_ ≠ (.slice Ao16 t106.length co16 : Value).ownBlock ∧ some k_ ≠ (.slice Ao26 t119.length co26 : Value).ownBlock) ∧ some k_ ≠ (.slice Ao27 t122.length co27 : Value).ownBlock)) (n := t103.length) (c := co15) ?_).2.2; exact (by (with_reducible repeat (first | apply Kd.R_alloc | apply Kd.R_drewN | apply Kd.R_drew)); exact (Kd.R_mono (Kd.R_far (p := ⟨gb125, 4, none⟩) (Kd.R_far (p := ⟨gb125, 3, none⟩) (Kd.R_far (p := ⟨gb125, 2, none⟩) (Kd.R_far (p := ⟨gb125, 1, none⟩) (Kd.R_far (p := ⟨gb125, 0, none⟩) (Kd.R_types HO105.out BK125.out (by decide)) (fun _ hk => hk.2) (.bool t116)) (fun _ hk => hk.2) (.int .u32 t117)) (fun _ hk => hk.2) (.int .u32 t118)) (fun _ hk => hk.2) (.slice Ao26 t119.length co26)) (fun _ hk => hk.2) (.slice Ao27 t122.length co27)) (fun _ h_ => h_.1)))); (case side4 => exact (Kd.R_reads' HO105.out).2.1); rintro e w' ⟨rfl, ⟨nd, rfl⟩⟩) | (go_at_call 36; (with_reducible refine (laws_lwNums.calls kj2 _ _ t122 _ _ t106 t127 _ ?side1 ?side2 ?side3 ?side4 A33.out).mono ?_); (case side1 => refine (Kd.R_reads' (e := 2) (base := w.heap.size) (ok := fun k_ => ((some k_ ≠ (.slice Ao26 t119.length co26 : Value).ownBlock ∧ some k_ ≠ (.slice Ao15 t103.length co15 : Value).ownBlock) ∧ some k_ ≠ (.slice Ao16 t106.length co16 : Value).ownBlock)) (n := t122.length) (c := co27) ?_).2.2; exact (by (with_reducible repeat (first | apply Kd.R_alloc | apply Kd.R_drewN | apply Kd.R_drew)); exact (Kd.R_mono (Kd.R_far (p := ⟨gb125, 4, none⟩) (Kd.R_far (p := ⟨gb125, 3, none⟩) (Kd.R_far (p := ⟨gb125, 2, none⟩) (Kd.R_far (p := ⟨gb125, 1, none⟩) (Kd.R_far (p := ⟨gb125, 0, none⟩) (Kd.R_types HO124.out BK125.out (by decide)) (fun _ hk => hk.2) (.bool t116)) (fun _ hk => hk.2) (.int .u32 t117)) (fun _ hk => hk.2) (.int .u32 t118)) (fun _ hk => hk.2) (.slice Ao26 t119.length co26)) (fun _ hk => hk.2) (.slice Ao27 t122.length co27)) (fun _ h_ => h_.1)))); (case side2 => exact (Kd.R_reads' HO124.out).2.1); (case side3 => refine (Kd.R_reads' (e := 2) (base := w.heap.size) (ok := fun k_ => ((some k_ ≠ (.slice Ao15 t103.length co15 : Value).ownBlock ∧ some k_ ≠ (.slice Ao26 t119.length co26 : Value).ownBlock) ∧ some k_ ≠ (.slice Ao27 t122.length co27 : Value).ownBlock)) (n := t106.length) (c := co16) ?_).2.2; exact (by (with_reducible repeat (first | apply Kd.R_alloc | apply Kd.R_drewN | apply Kd.R_drew)); exact (Kd.R_mono (Kd.R_far (p := ⟨gb125, 4, none⟩) (Kd.R_far (p := ⟨gb125, 3, none⟩) (Kd.R_far (p := ⟨gb125, 2, none⟩) (Kd.R_far (p := ⟨gb125, 1, none⟩) (Kd.R_far (p := ⟨gb125, 0, none⟩) (Kd.R_types HO108.out BK125.out (by decide)) (fun _ hk => hk.2) (.bool t116)) (fun _ hk => hk.2) (.int .u32 t117)) (fun _ hk => hk.2) (.int .u32 t118)) (fun _ hk => hk.2) (.slice Ao26 t119.length co26)) (fun _ hk => hk.2) (.slice Ao27 t122.length co27)) (fun _ h_ => h_.1)))); (case side4 => exact (Kd.R_reads' HO108.out).2.1); rintro e w' ⟨rfl, ⟨nd, rfl⟩⟩))
          go_meet
          case rel => exact ⟨_, (!t127), (by first | rfl | (simp; done) | (simp [*]; done)), H', ⟨by have := HJ2.out; first | omega | exact Nat.le_refl _⟩, ⟨by (with_reducible repeat (first | apply Kd.R_alloc | apply Kd.R_drewN | apply Kd.R_drew)); exact Kd.R_mono (Kd.R_far (p := ⟨gb125, 4, none⟩) (Kd.R_far (p := ⟨gb125, 3, none⟩) (Kd.R_far (p := ⟨gb125, 2, none⟩) (Kd.R_far (p := ⟨gb125, 1, none⟩) (Kd.R_far (p := ⟨gb125, 0, none⟩) (Kd.R_types HO105.out BK125.out (by decide)) (fun _ hk => hk.2) (.bool t116)) (fun _ hk => hk.2) (.int .u32 t117)) (fun _ hk => hk.2) (.int .u32 t118)) (fun _ hk => hk.2) (.slice Ao26 t119.length co26)) (fun _ hk => hk.2) (.slice Ao27 t122.length co27)) (fun _ hk => ⟨hk.1.1.1, ⟨hk.1.1.2, hk.1.2⟩⟩)⟩, ⟨by (with_reducible repeat (first | apply Kd.R_alloc | apply Kd.R_drewN | apply Kd.R_drew)); exact Kd.R_mono (Kd.R_far (p := ⟨gb125, 4, none⟩) (Kd.R_far (p := ⟨gb125, 3, none⟩) (Kd.R_far (p := ⟨gb125, 2, none⟩) (Kd.R_far (p := ⟨gb125, 1, none⟩) (Kd.R_far (p := ⟨gb125, 0, none⟩) (Kd.R_types HO108.out BK125.out (by decide)) (fun _ hk => hk.2) (.bool t116)) (fun _ hk => hk.2) (.int .u32 t117)) (fun _ hk => hk.2) (.int .u32 t118)) (fun _ hk => hk.2) (.slice Ao26 t119.length co26)) (fun _ hk => hk.2) (.slice Ao27 t122.length co27)) (fun _ hk => ⟨hk.1.1.1, ⟨hk.1.1.2, hk.1.2⟩⟩)⟩, ⟨by (with_reducible repeat (first | apply Kd.R_alloc | apply Kd.R_drewN | apply Kd.R_drew)); exact Kd.R_mono (Kd.R_far (p := ⟨gb125, 4, none⟩) (Kd.R_far (p := ⟨gb125, 3, none⟩) (Kd.R_far (p := ⟨gb125, 2, none⟩) (Kd.R_far (p := ⟨gb125, 1, none⟩) (Kd.R_far (p := ⟨gb125, 0, none⟩) (Kd.R_types HO121.out BK125.out (by decide)) (fun _ hk => hk.2) (.bool t116)) (fun _ hk => hk.2) (.int .u32 t117)) (fun _ hk => hk.2) (.int .u32 t118)) (fun _ hk => hk.2) (.slice Ao26 t119.length co26)) (fun _ hk => hk.2) (.slice Ao27 t122.length co27)) (fun _ hk => ⟨hk.1.1.2, ⟨hk.1.2, hk.1.1.1⟩⟩)⟩, ⟨by (with_reducible repeat (first | apply Kd.R_alloc | apply Kd.R_drewN | apply Kd.R_drew)); exact Kd.R_mono (Kd.R_far (p := ⟨gb125, 4, none⟩) (Kd.R_far (p := ⟨gb125, 3, none⟩) (Kd.R_far (p := ⟨gb125, 2, none⟩) (Kd.R_far (p := ⟨gb125, 1, none⟩) (Kd.R_far (p := ⟨gb125, 0, none⟩) (Kd.R_types HO124.out BK125.out (by decide)) (fun _ hk => hk.2) (.bool t116)) (fun _ hk => hk.2) (.int .u32 t117)) (fun _ hk => hk.2) (.int .u32 t118)) (fun _ hk => hk.2) (.slice Ao26 t119.length co26)) (fun _ hk => hk.2) (.slice Ao27 t122.length co27)) (fun _ hk => ⟨hk.1.1.2, ⟨hk.1.2, hk.1.1.1⟩⟩)⟩, ⟨by (with_reducible repeat (first | refine blk_drewN ?_ _ | refine blk_drew ?_ | refine blk_alloc ?_ _)); refine blk_far ?_ NB109_125.out _; (with_reducible repeat (first | refine blk_drewN ?_ _ | refine blk_drew ?_ | refine blk_alloc ?_ _)); refine blk_far ?_ NB109_125.out _; (with_reducible repeat (first | refine blk_drewN ?_ _ | refine blk_drew ?_ | refine blk_alloc ?_ _)); refine blk_far ?_ NB109_125.out _; (with_reducible repeat (first | refine blk_drewN ?_ _ | refine blk_drew ?_ | refine blk_alloc ?_ _)); refine blk_far ?_ NB109_125.out _; (with_reducible repeat (first | refine blk_drewN ?_ _ | refine blk_drew ?_ | refine blk_alloc ?_ _)); refine blk_far ?_ NB109_125.out _; (with_reducible repeat (first | refine blk_drewN ?_ _ | refine blk_drew ?_ | refine blk_alloc ?_ _)); exact BK109.out⟩, ⟨by (with_reducible repeat (first | refine blk_drewN ?_ _ | refine blk_drew ?_ | refine blk_alloc ?_ _)); refine blk_put (cs := #[.bool t116, .int .u32 t117, .int .u32 t118, .slice Ao26 t119.length co26, .slice none 0 0]) ?_ 4 _ rfl; (with_reducible repeat (first | refine blk_drewN ?_ _ | refine blk_drew ?_ | refine blk_alloc ?_ _)); refine blk_put (cs := #[.bool t116, .int .u32 t117, .int .u32 t118, .slice none 0 0, .slice none 0 0]) ?_ 3 _ rfl; (with_reducible repeat (first | refine blk_drewN ?_ _ | refine blk_drew ?_ | refine blk_alloc ?_ _)); refine blk_put (cs := #[.bool t116, .int .u32 t117, .int .u32 0, .slice none 0 0, .slice none 0 0]) ?_ 2 _ rfl; (with_reducible repeat (first | refine blk_drewN ?_ _ | refine blk_drew ?_ | refine blk_alloc ?_ _)); refine blk_put (cs := #[.bool t116, .int .u32 0, .int .u32 0, .slice none 0 0, .slice none 0 0]) ?_ 1 _ rfl; (with_reducible repeat (first | refine blk_drewN ?_ _ | refine blk_drew ?_ | refine blk_alloc ?_ _)); refine blk_put (cs := #[.bool false, .int .u32 0, .int .u32 0, .slice none 0 0, .slice none 0 0]) ?_ 0 _ rfl; (with_reducible repeat (first | refine blk_drewN ?_ _ | refine blk_drew ?_ | refine blk_alloc ?_ _)); exact BK125.out⟩, ⟨by repeat (first | (with_reducible first | exact HB.out | apply below_alloc | apply pw_below_drewN | apply below_drew1 | refine below_set ?_ GE109.out | refine below_set ?_ GE125.out) | exact HB.out)⟩⟩
         ·replace c32 := Bool.eq_false_iff.mpr c32
          subst c32
          have H1 : (laws_FnSnap.j1 kj2 l1 true) = some true := by rw [if_neg (show ¬ (false = true) by decide)] at H; exact H
          clear H
          have H := H1
          clear H1
          have H' := Aside0.mk H
          clear H
          have hnb37 := NB125_109.out
          have hnc37 := NB109_125.out
          have hcz38_0 : w23.cell? ⟨gb125, 0, none⟩ = some (.bool false) := (blk_cell BK125.out 0).trans rfl
          have hcz38_1 : w23.cell? ⟨gb125, 1, none⟩ = some (.int .u32 0) := (blk_cell BK125.out 1).trans rfl
          have hcz38_2 : w23.cell? ⟨gb125, 2, none⟩ = some (.int .u32 0) := (blk_cell BK125.out 2).trans rfl
          have hcz38_3 : w23.cell? ⟨gb125, 3, none⟩ = some (.slice none 0 0) := (blk_cell BK125.out 3).trans rfl
          have hcz38_4 : w23.cell? ⟨gb125, 4, none⟩ = some (.slice none 0 0) := (blk_cell BK125.out 4).trans rfl
          have hfz38_0 := blk_frozen BK125.out 0
          have hfz38_1 := blk_frozen BK125.out 1
          have hfz38_2 := blk_frozen BK125.out 2
          have hfz38_3 := blk_frozen BK125.out 3
          have hfz38_4 := blk_frozen BK125.out 4
          have hcz39_0 : w23.cell? ⟨gb109, 0, none⟩ = some (.int .u32 t101) := (blk_cell BK109.out 0).trans rfl
          have hcz39_1 : w23.cell? ⟨gb109, 1, none⟩ = some (.int .u32 t102) := (blk_cell BK109.out 1).trans rfl
          have hcz39_2 : w23.cell? ⟨gb109, 2, none⟩ = some (.slice Ao15 t103.length co15) := (blk_cell BK109.out 2).trans rfl
          have hcz39_3 : w23.cell? ⟨gb109, 3, none⟩ = some (.slice Ao16 t106.length co16) := (blk_cell BK109.out 3).trans rfl
          have hfz39_0 := blk_frozen BK109.out 0
          have hfz39_1 := blk_frozen BK109.out 1
          have hfz39_2 := blk_frozen BK109.out 2
          have hfz39_3 := blk_frozen BK109.out 3
          go_wp2_with (first | (go_at_call 36; (with_reducible refine (laws_lwNums.calls kj2 _ _ t119 _ _ t103 false _ ?side1 ?side2 ?side3 ?side4 A31.out).mono ?_); (case side1 => refine (Kd.R_reads' (e := 2) (base := w.heap.size) (ok := fun k_ => ((some k_ ≠ (.slice Ao27 t122.length co27 : Value).ownBlock ∧ some k_ ≠ (.slice Ao15 t103.length co15 : Value).ownBlock) ∧ some k_ ≠ (.slice Ao16 t106.length co16 : Value).ownBlock)) (n := t119.length) (c := co26) ?_).2.2; exact (by (with_reducible repeat (first | apply Kd.R_alloc | apply Kd.R_drewN | apply Kd.R_drew)); exact (Kd.R_mono (Kd.R_far (p := ⟨gb125, 4, none⟩) (Kd.R_far (p := ⟨gb125, 3, none⟩) (Kd.R_far (p := ⟨gb125, 2, none⟩) (Kd.R_far (p := ⟨gb125, 1, none⟩) (Kd.R_far (p := ⟨gb125, 0, none⟩) (Kd.R_types HO121.out BK125.out (by decide)) (fun _ hk => hk.2) (.bool t116)) (fun _ hk => hk.2) (.int .u32 t117)) (fun _ hk => hk.2) (.int .u32 t118)) (fun _ hk => hk.2) (.slice Ao26 t119.length co26)) (fun _ hk => hk.2) (.slice Ao27 t122.length co27)) (fun _ h_ => h_.1)))); (case side2 => exact (Kd.R_reads' HO121.out).2.1); (case side3 => refine (Kd.R_reads' (e := 2) (base := w.heap.size) (ok := fun k_ => ((some k_ ≠ (.slice Ao16 t106.length co16 : Value).ownBlock ∧ some k_ ≠ (.slice Ao26 t119.length co26 : Value).ownBlock) ∧ some k_ ≠ (.slice Ao27 t122.length co27 : Value).ownBlock)) (n := t103.length) (c := co15) ?_).2.2; exact (by (with_reducible repeat (first | apply Kd.R_alloc | apply Kd.R_drewN | apply Kd.R_drew)); exact (Kd.R_mono (Kd.R_far (p := ⟨gb125, 4, none⟩) (Kd.R_far (p := ⟨gb125, 3, none⟩) (Kd.R_far (p := ⟨gb125, 2, none⟩) (Kd.R_far (p := ⟨gb125, 1, none⟩) (Kd.R_far (p := ⟨gb125, 0, none⟩) (Kd.R_types HO105.out BK125.out (by decide)) (fun _ hk => hk.2) (.bool t116)) (fun _ hk => hk.2) (.int .u32 t117)) (fun _ hk => hk.2) (.int .u32 t118)) (fun _ hk => hk.2) (.slice Ao26 t119.length co26)) (fun _ hk => hk.2) (.slice Ao27 t122.length co27)) (fun _ h_ => h_.1)))); (case side4 => exact (Kd.R_reads' HO105.out).2.1); rintro e w' ⟨rfl, ⟨nd, rfl⟩⟩))
          go_meet
          case rel => exact ⟨_, (true), (by first | rfl | (simp; done) | (simp [*]; done)), H', ⟨by have := HJ2.out; first | omega | exact Nat.le_refl _⟩, ⟨by (with_reducible repeat (first | apply Kd.R_alloc | apply Kd.R_drewN | apply Kd.R_drew)); exact Kd.R_mono (Kd.R_far (p := ⟨gb125, 4, none⟩) (Kd.R_far (p := ⟨gb125, 3, none⟩) (Kd.R_far (p := ⟨gb125, 2, none⟩) (Kd.R_far (p := ⟨gb125, 1, none⟩) (Kd.R_far (p := ⟨gb125, 0, none⟩) (Kd.R_types HO105.out BK125.out (by decide)) (fun _ hk => hk.2) (.bool t116)) (fun _ hk => hk.2) (.int .u32 t117)) (fun _ hk => hk.2) (.int .u32 t118)) (fun _ hk => hk.2) (.slice Ao26 t119.length co26)) (fun _ hk => hk.2) (.slice Ao27 t122.length co27)) (fun _ hk => ⟨hk.1.1.1, ⟨hk.1.1.2, hk.1.2⟩⟩)⟩, ⟨by (with_reducible repeat (first | apply Kd.R_alloc | apply Kd.R_drewN | apply Kd.R_drew)); exact Kd.R_mono (Kd.R_far (p := ⟨gb125, 4, none⟩) (Kd.R_far (p := ⟨gb125, 3, none⟩) (Kd.R_far (p := ⟨gb125, 2, none⟩) (Kd.R_far (p := ⟨gb125, 1, none⟩) (Kd.R_far (p := ⟨gb125, 0, none⟩) (Kd.R_types HO108.out BK125.out (by decide)) (fun _ hk => hk.2) (.bool t116)) (fun _ hk => hk.2) (.int .u32 t117)) (fun _ hk => hk.2) (.int .u32 t118)) (fun _ hk => hk.2) (.slice Ao26 t119.length co26)) (fun _ hk => hk.2) (.slice Ao27 t122.length co27)) (fun _ hk => ⟨hk.1.1.1, ⟨hk.1.1.2, hk.1.2⟩⟩)⟩, ⟨by (with_reducible repeat (first | apply Kd.R_alloc | apply Kd.R_drewN | apply Kd.R_drew)); exact Kd.R_mono (Kd.R_far (p := ⟨gb125, 4, none⟩) (Kd.R_far (p := ⟨gb125, 3, none⟩) (Kd.R_far (p := ⟨gb125, 2, none⟩) (Kd.R_far (p := ⟨gb125, 1, none⟩) (Kd.R_far (p := ⟨gb125, 0, none⟩) (Kd.R_types HO121.out BK125.out (by decide)) (fun _ hk => hk.2) (.bool t116)) (fun _ hk => hk.2) (.int .u32 t117)) (fun _ hk => hk.2) (.int .u32 t118)) (fun _ hk => hk.2) (.slice Ao26 t119.length co26)) (fun _ hk => hk.2) (.slice Ao27 t122.length co27)) (fun _ hk => ⟨hk.1.1.2, ⟨hk.1.2, hk.1.1.1⟩⟩)⟩, ⟨by (with_reducible repeat (first | apply Kd.R_alloc | apply Kd.R_drewN | apply Kd.R_drew)); exact Kd.R_mono (Kd.R_far (p := ⟨gb125, 4, none⟩) (Kd.R_far (p := ⟨gb125, 3, none⟩) (Kd.R_far (p := ⟨gb125, 2, none⟩) (Kd.R_far (p := ⟨gb125, 1, none⟩) (Kd.R_far (p := ⟨gb125, 0, none⟩) (Kd.R_types HO124.out BK125.out (by decide)) (fun _ hk => hk.2) (.bool t116)) (fun _ hk => hk.2) (.int .u32 t117)) (fun _ hk => hk.2) (.int .u32 t118)) (fun _ hk => hk.2) (.slice Ao26 t119.length co26)) (fun _ hk => hk.2) (.slice Ao27 t122.length co27)) (fun _ hk => ⟨hk.1.1.2, ⟨hk.1.2, hk.1.1.1⟩⟩)⟩, ⟨by (with_reducible repeat (first | refine blk_drewN ?_ _ | refine blk_drew ?_ | refine blk_alloc ?_ _)); refine blk_far ?_ NB109_125.out _; (with_reducible repeat (first | refine blk_drewN ?_ _ | refine blk_drew ?_ | refine blk_alloc ?_ _)); refine blk_far ?_ NB109_125.out _; (with_reducible repeat (first | refine blk_drewN ?_ _ | refine blk_drew ?_ | refine blk_alloc ?_ _)); refine blk_far ?_ NB109_125.out _; (with_reducible repeat (first | refine blk_drewN ?_ _ | refine blk_drew ?_ | refine blk_alloc ?_ _)); refine blk_far ?_ NB109_125.out _; (with_reducible repeat (first | refine blk_drewN ?_ _ | refine blk_drew ?_ | refine blk_alloc ?_ _)); refine blk_far ?_ NB109_125.out _; (with_reducible repeat (first | refine blk_drewN ?_ _ | refine blk_drew ?_ | refine blk_alloc ?_ _)); exact BK109.out⟩, ⟨by (with_reducible repeat (first | refine blk_drewN ?_ _ | refine blk_drew ?_ | refine blk_alloc ?_ _)); refine blk_put (cs := #[.bool t116, .int .u32 t117, .int .u32 t118, .slice Ao26 t119.length co26, .slice none 0 0]) ?_ 4 _ rfl; (with_reducible repeat (first | refine blk_drewN ?_ _ | refine blk_drew ?_ | refine blk_alloc ?_ _)); refine blk_put (cs := #[.bool t116, .int .u32 t117, .int .u32 t118, .slice none 0 0, .slice none 0 0]) ?_ 3 _ rfl; (with_reducible repeat (first | refine blk_drewN ?_ _ | refine blk_drew ?_ | refine blk_alloc ?_ _)); refine blk_put (cs := #[.bool t116, .int .u32 t117, .int .u32 0, .slice none 0 0, .slice none 0 0]) ?_ 2 _ rfl; (with_reducible repeat (first | refine blk_drewN ?_ _ | refine blk_drew ?_ | refine blk_alloc ?_ _)); refine blk_put (cs := #[.bool t116, .int .u32 0, .int .u32 0, .slice none 0 0, .slice none 0 0]) ?_ 1 _ rfl; (with_reducible repeat (first | refine blk_drewN ?_ _ | refine blk_drew ?_ | refine blk_alloc ?_ _)); refine blk_put (cs := #[.bool false, .int .u32 0, .int .u32 0, .slice none 0 0, .slice none 0 0]) ?_ 0 _ rfl; (with_reducible repeat (first | refine blk_drewN ?_ _ | refine blk_drew ?_ | refine blk_alloc ?_ _)); exact BK125.out⟩, ⟨by repeat (first | (with_reducible first | exact HB.out | apply below_alloc | apply pw_below_drewN | apply below_drew1 | refine below_set ?_ GE109.out | refine below_set ?_ GE125.out) | exact HB.out)⟩⟩
        ·rw [if_neg c30] at H
         have c30b0 : (t118 == t102) = false := beq_eq_false_iff_ne.mpr c30
         have c30b1 : (t118 != t102) = true := bne_iff_ne.mpr c30
         have H' := Aside0.mk H
         clear H
         have hnb40 := NB125_109.out
         have hnc40 := NB109_125.out
         have hcz41_0 : w23.cell? ⟨gb125, 0, none⟩ = some (.bool false) := (blk_cell BK125.out 0).trans rfl
         have hcz41_1 : w23.cell? ⟨gb125, 1, none⟩ = some (.int .u32 0) := (blk_cell BK125.out 1).trans rfl
         have hcz41_2 : w23.cell? ⟨gb125, 2, none⟩ = some (.int .u32 0) := (blk_cell BK125.out 2).trans rfl
         have hcz41_3 : w23.cell? ⟨gb125, 3, none⟩ = some (.slice none 0 0) := (blk_cell BK125.out 3).trans rfl
         have hcz41_4 : w23.cell? ⟨gb125, 4, none⟩ = some (.slice none 0 0) := (blk_cell BK125.out 4).trans rfl
         have hfz41_0 := blk_frozen BK125.out 0
         have hfz41_1 := blk_frozen BK125.out 1
         have hfz41_2 := blk_frozen BK125.out 2
         have hfz41_3 := blk_frozen BK125.out 3
         have hfz41_4 := blk_frozen BK125.out 4
         have hcz42_0 : w23.cell? ⟨gb109, 0, none⟩ = some (.int .u32 t101) := (blk_cell BK109.out 0).trans rfl
         have hcz42_1 : w23.cell? ⟨gb109, 1, none⟩ = some (.int .u32 t102) := (blk_cell BK109.out 1).trans rfl
         have hcz42_2 : w23.cell? ⟨gb109, 2, none⟩ = some (.slice Ao15 t103.length co15) := (blk_cell BK109.out 2).trans rfl
         have hcz42_3 : w23.cell? ⟨gb109, 3, none⟩ = some (.slice Ao16 t106.length co16) := (blk_cell BK109.out 3).trans rfl
         have hfz42_0 := blk_frozen BK109.out 0
         have hfz42_1 := blk_frozen BK109.out 1
         have hfz42_2 := blk_frozen BK109.out 2
         have hfz42_3 := blk_frozen BK109.out 3
         go_wp2
         go_meet
         case rel => exact ⟨_, (true), (by first | rfl | (simp; done) | (simp [*]; done)), H', ⟨by have := HJ2.out; first | omega | exact Nat.le_refl _⟩, ⟨by (with_reducible repeat (first | apply Kd.R_alloc | apply Kd.R_drewN | apply Kd.R_drew)); exact Kd.R_mono (Kd.R_far (p := ⟨gb125, 4, none⟩) (Kd.R_far (p := ⟨gb125, 3, none⟩) (Kd.R_far (p := ⟨gb125, 2, none⟩) (Kd.R_far (p := ⟨gb125, 1, none⟩) (Kd.R_far (p := ⟨gb125, 0, none⟩) (Kd.R_types HO105.out BK125.out (by decide)) (fun _ hk => hk.2) (.bool t116)) (fun _ hk => hk.2) (.int .u32 t117)) (fun _ hk => hk.2) (.int .u32 t118)) (fun _ hk => hk.2) (.slice Ao26 t119.length co26)) (fun _ hk => hk.2) (.slice Ao27 t122.length co27)) (fun _ hk => ⟨hk.1.1.1, ⟨hk.1.1.2, hk.1.2⟩⟩)⟩, ⟨by (with_reducible repeat (first | apply Kd.R_alloc | apply Kd.R_drewN | apply Kd.R_drew)); exact Kd.R_mono (Kd.R_far (p := ⟨gb125, 4, none⟩) (Kd.R_far (p := ⟨gb125, 3, none⟩) (Kd.R_far (p := ⟨gb125, 2, none⟩) (Kd.R_far (p := ⟨gb125, 1, none⟩) (Kd.R_far (p := ⟨gb125, 0, none⟩) (Kd.R_types HO108.out BK125.out (by decide)) (fun _ hk => hk.2) (.bool t116)) (fun _ hk => hk.2) (.int .u32 t117)) (fun _ hk => hk.2) (.int .u32 t118)) (fun _ hk => hk.2) (.slice Ao26 t119.length co26)) (fun _ hk => hk.2) (.slice Ao27 t122.length co27)) (fun _ hk => ⟨hk.1.1.1, ⟨hk.1.1.2, hk.1.2⟩⟩)⟩, ⟨by (with_reducible repeat (first | apply Kd.R_alloc | apply Kd.R_drewN | apply Kd.R_drew)); exact Kd.R_mono (Kd.R_far (p := ⟨gb125, 4, none⟩) (Kd.R_far (p := ⟨gb125, 3, none⟩) (Kd.R_far (p := ⟨gb125, 2, none⟩) (Kd.R_far (p := ⟨gb125, 1, none⟩) (Kd.R_far (p := ⟨gb125, 0, none⟩) (Kd.R_types HO121.out BK125.out (by decide)) (fun _ hk => hk.2) (.bool t116)) (fun _ hk => hk.2) (.int .u32 t117)) (fun _ hk => hk.2) (.int .u32 t118)) (fun _ hk => hk.2) (.slice Ao26 t119.length co26)) (fun _ hk => hk.2) (.slice Ao27 t122.length co27)) (fun _ hk => ⟨hk.1.1.2, ⟨hk.1.2, hk.1.1.1⟩⟩)⟩, ⟨by (with_reducible repeat (first | apply Kd.R_alloc | apply Kd.R_drewN | apply Kd.R_drew)); exact Kd.R_mono (Kd.R_far (p := ⟨gb125, 4, none⟩) (Kd.R_far (p := ⟨gb125, 3, none⟩) (Kd.R_far (p := ⟨gb125, 2, none⟩) (Kd.R_far (p := ⟨gb125, 1, none⟩) (Kd.R_far (p := ⟨gb125, 0, none⟩) (Kd.R_types HO124.out BK125.out (by decide)) (fun _ hk => hk.2) (.bool t116)) (fun _ hk => hk.2) (.int .u32 t117)) (fun _ hk => hk.2) (.int .u32 t118)) (fun _ hk => hk.2) (.slice Ao26 t119.length co26)) (fun _ hk => hk.2) (.slice Ao27 t122.length co27)) (fun _ hk => ⟨hk.1.1.2, ⟨hk.1.2, hk.1.1.1⟩⟩)⟩, ⟨by (with_reducible repeat (first | refine blk_drewN ?_ _ | refine blk_drew ?_ | refine blk_alloc ?_ _)); refine blk_far ?_ NB109_125.out _; (with_reducible repeat (first | refine blk_drewN ?_ _ | refine blk_drew ?_ | refine blk_alloc ?_ _)); refine blk_far ?_ NB109_125.out _; (with_reducible repeat (first | refine blk_drewN ?_ _ | refine blk_drew ?_ | refine blk_alloc ?_ _)); refine blk_far ?_ NB109_125.out _; (with_reducible repeat (first | refine blk_drewN ?_ _ | refine blk_drew ?_ | refine blk_alloc ?_ _)); refine blk_far ?_ NB109_125.out _; (with_reducible repeat (first | refine blk_drewN ?_ _ | refine blk_drew ?_ | refine blk_alloc ?_ _)); refine blk_far ?_ NB109_125.out _; (with_reducible repeat (first | refine blk_drewN ?_ _ | refine blk_drew ?_ | refine blk_alloc ?_ _)); exact BK109.out⟩, ⟨by (with_reducible repeat (first | refine blk_drewN ?_ _ | refine blk_drew ?_ | refine blk_alloc ?_ _)); refine blk_put (cs := #[.bool t116, .int .u32 t117, .int .u32 t118, .slice Ao26 t119.length co26, .slice none 0 0]) ?_ 4 _ rfl; (with_reducible repeat (first | refine blk_drewN ?_ _ | refine blk_drew ?_ | refine blk_alloc ?_ _)); refine blk_put (cs := #[.bool t116, .int .u32 t117, .int .u32 t118, .slice none 0 0, .slice none 0 0]) ?_ 3 _ rfl; (with_reducible repeat (first | refine blk_drewN ?_ _ | refine blk_drew ?_ | refine blk_alloc ?_ _)); refine blk_put (cs := #[.bool t116, .int .u32 t117, .int .u32 0, .slice none 0 0, .slice none 0 0]) ?_ 2 _ rfl; (with_reducible repeat (first | refine blk_drewN ?_ _ | refine blk_drew ?_ | refine blk_alloc ?_ _)); refine blk_put (cs := #[.bool t116, .int .u32 0, .int .u32 0, .slice none 0 0, .slice none 0 0]) ?_ 1 _ rfl; (with_reducible repeat (first | refine blk_drewN ?_ _ | refine blk_drew ?_ | refine blk_alloc ?_ _)); refine blk_put (cs := #[.bool false, .int .u32 0, .int .u32 0, .slice none 0 0, .slice none 0 0]) ?_ 0 _ rfl; (with_reducible repeat (first | refine blk_drewN ?_ _ | refine blk_drew ?_ | refine blk_alloc ?_ _)); exact BK125.out⟩, ⟨by repeat (first | (with_reducible first | exact HB.out | apply below_alloc | apply pw_below_drewN | apply below_drew1 | refine below_set ?_ GE109.out | refine below_set ?_ GE125.out) | exact HB.out)⟩⟩
       ·rw [if_neg c29] at H
        have c29b0 : (t117 == t101) = false := beq_eq_false_iff_ne.mpr c29
        have c29b1 : (t117 != t101) = true := bne_iff_ne.mpr c29
        have H' := Aside0.mk H
        clear H
        have hnb43 := NB125_109.out
        have hnc43 := NB109_125.out
        have hcz44_0 : w23.cell? ⟨gb125, 0, none⟩ = some (.bool false) := (blk_cell BK125.out 0).trans rfl
        have hcz44_1 : w23.cell? ⟨gb125, 1, none⟩ = some (.int .u32 0) := (blk_cell BK125.out 1).trans rfl
        have hcz44_2 : w23.cell? ⟨gb125, 2, none⟩ = some (.int .u32 0) := (blk_cell BK125.out 2).trans rfl
        have hcz44_3 : w23.cell? ⟨gb125, 3, none⟩ = some (.slice none 0 0) := (blk_cell BK125.out 3).trans rfl
        have hcz44_4 : w23.cell? ⟨gb125, 4, none⟩ = some (.slice none 0 0) := (blk_cell BK125.out 4).trans rfl
        have hfz44_0 := blk_frozen BK125.out 0
        have hfz44_1 := blk_frozen BK125.out 1
        have hfz44_2 := blk_frozen BK125.out 2
        have hfz44_3 := blk_frozen BK125.out 3
        have hfz44_4 := blk_frozen BK125.out 4
        have hcz45_0 : w23.cell? ⟨gb109, 0, none⟩ = some (.int .u32 t101) := (blk_cell BK109.out 0).trans rfl
        have hcz45_1 : w23.cell? ⟨gb109, 1, none⟩ = some (.int .u32 t102) := (blk_cell BK109.out 1).trans rfl
        have hcz45_2 : w23.cell? ⟨gb109, 2, none⟩ = some (.slice Ao15 t103.length co15) := (blk_cell BK109.out 2).trans rfl
        have hcz45_3 : w23.cell? ⟨gb109, 3, none⟩ = some (.slice Ao16 t106.length co16) := (blk_cell BK109.out 3).trans rfl
        have hfz45_0 := blk_frozen BK109.out 0
        have hfz45_1 := blk_frozen BK109.out 1
        have hfz45_2 := blk_frozen BK109.out 2
        have hfz45_3 := blk_frozen BK109.out 3
        go_wp2
        go_meet
        case rel => exact ⟨_, (true), (by first | rfl | (simp; done) | (simp [*]; done)), H', ⟨by have := HJ2.out; first | omega | exact Nat.le_refl _⟩, ⟨by (with_reducible repeat (first | apply Kd.R_alloc | apply Kd.R_drewN | apply Kd.R_drew)); exact Kd.R_mono (Kd.R_far (p := ⟨gb125, 4, none⟩) (Kd.R_far (p := ⟨gb125, 3, none⟩) (Kd.R_far (p := ⟨gb125, 2, none⟩) (Kd.R_far (p := ⟨gb125, 1, none⟩) (Kd.R_far (p := ⟨gb125, 0, none⟩) (Kd.R_types HO105.out BK125.out (by decide)) (fun _ hk => hk.2) (.bool t116)) (fun _ hk => hk.2) (.int .u32 t117)) (fun _ hk => hk.2) (.int .u32 t118)) (fun _ hk => hk.2) (.slice Ao26 t119.length co26)) (fun _ hk => hk.2) (.slice Ao27 t122.length co27)) (fun _ hk => ⟨hk.1.1.1, ⟨hk.1.1.2, hk.1.2⟩⟩)⟩, ⟨by (with_reducible repeat (first | apply Kd.R_alloc | apply Kd.R_drewN | apply Kd.R_drew)); exact Kd.R_mono (Kd.R_far (p := ⟨gb125, 4, none⟩) (Kd.R_far (p := ⟨gb125, 3, none⟩) (Kd.R_far (p := ⟨gb125, 2, none⟩) (Kd.R_far (p := ⟨gb125, 1, none⟩) (Kd.R_far (p := ⟨gb125, 0, none⟩) (Kd.R_types HO108.out BK125.out (by decide)) (fun _ hk => hk.2) (.bool t116)) (fun _ hk => hk.2) (.int .u32 t117)) (fun _ hk => hk.2) (.int .u32 t118)) (fun _ hk => hk.2) (.slice Ao26 t119.length co26)) (fun _ hk => hk.2) (.slice Ao27 t122.length co27)) (fun _ hk => ⟨hk.1.1.1, ⟨hk.1.1.2, hk.1.2⟩⟩)⟩, ⟨by (with_reducible repeat (first | apply Kd.R_alloc | apply Kd.R_drewN | apply Kd.R_drew)); exact Kd.R_mono (Kd.R_far (p := ⟨gb125, 4, none⟩) (Kd.R_far (p := ⟨gb125, 3, none⟩) (Kd.R_far (p := ⟨gb125, 2, none⟩) (Kd.R_far (p := ⟨gb125, 1, none⟩) (Kd.R_far (p := ⟨gb125, 0, none⟩) (Kd.R_types HO121.out BK125.out (by decide)) (fun _ hk => hk.2) (.bool t116)) (fun _ hk => hk.2) (.int .u32 t117)) (fun _ hk => hk.2) (.int .u32 t118)) (fun _ hk => hk.2) (.slice Ao26 t119.length co26)) (fun _ hk => hk.2) (.slice Ao27 t122.length co27)) (fun _ hk => ⟨hk.1.1.2, ⟨hk.1.2, hk.1.1.1⟩⟩)⟩, ⟨by (with_reducible repeat (first | apply Kd.R_alloc | apply Kd.R_drewN | apply Kd.R_drew)); exact Kd.R_mono (Kd.R_far (p := ⟨gb125, 4, none⟩) (Kd.R_far (p := ⟨gb125, 3, none⟩) (Kd.R_far (p := ⟨gb125, 2, none⟩) (Kd.R_far (p := ⟨gb125, 1, none⟩) (Kd.R_far (p := ⟨gb125, 0, none⟩) (Kd.R_types HO124.out BK125.out (by decide)) (fun _ hk => hk.2) (.bool t116)) (fun _ hk => hk.2) (.int .u32 t117)) (fun _ hk => hk.2) (.int .u32 t118)) (fun _ hk => hk.2) (.slice Ao26 t119.length co26)) (fun _ hk => hk.2) (.slice Ao27 t122.length co27)) (fun _ hk => ⟨hk.1.1.2, ⟨hk.1.2, hk.1.1.1⟩⟩)⟩, ⟨by (with_reducible repeat (first | refine blk_drewN ?_ _ | refine blk_drew ?_ | refine blk_alloc ?_ _)); refine blk_far ?_ NB109_125.out _; (with_reducible repeat (first | refine blk_drewN ?_ _ | refine blk_drew ?_ | refine blk_alloc ?_ _)); refine blk_far ?_ NB109_125.out _; (with_reducible repeat (first | refine blk_drewN ?_ _ | refine blk_drew ?_ | refine blk_alloc ?_ _)); refine blk_far ?_ NB109_125.out _; (with_reducible repeat (first | refine blk_drewN ?_ _ | refine blk_drew ?_ | refine blk_alloc ?_ _)); refine blk_far ?_ NB109_125.out _; (with_reducible repeat (first | refine blk_drewN ?_ _ | refine blk_drew ?_ | refine blk_alloc ?_ _)); refine blk_far ?_ NB109_125.out _; (with_reducible repeat (first | refine blk_drewN ?_ _ | refine blk_drew ?_ | refine blk_alloc ?_ _)); exact BK109.out⟩, ⟨by (with_reducible repeat (first | refine blk_drewN ?_ _ | refine blk_drew ?_ | refine blk_alloc ?_ _)); refine blk_put (cs := #[.bool t116, .int .u32 t117, .int .u32 t118, .slice Ao26 t119.length co26, .slice none 0 0]) ?_ 4 _ rfl; (with_reducible repeat (first | refine blk_drewN ?_ _ | refine blk_drew ?_ | refine blk_alloc ?_ _)); refine blk_put (cs := #[.bool t116, .int .u32 t117, .int .u32 t118, .slice none 0 0, .slice none 0 0]) ?_ 3 _ rfl; (with_reducible repeat (first | refine blk_drewN ?_ _ | refine blk_drew ?_ | refine blk_alloc ?_ _)); refine blk_put (cs := #[.bool t116, .int .u32 t117, .int .u32 0, .slice none 0 0, .slice none 0 0]) ?_ 2 _ rfl; (with_reducible repeat (first | refine blk_drewN ?_ _ | refine blk_drew ?_ | refine blk_alloc ?_ _)); refine blk_put (cs := #[.bool t116, .int .u32 0, .int .u32 0, .slice none 0 0, .slice none 0 0]) ?_ 1 _ rfl; (with_reducible repeat (first | refine blk_drewN ?_ _ | refine blk_drew ?_ | refine blk_alloc ?_ _)); refine blk_put (cs := #[.bool false, .int .u32 0, .int .u32 0, .slice none 0 0, .slice none 0 0]) ?_ 0 _ rfl; (with_reducible repeat (first | refine blk_drewN ?_ _ | refine blk_drew ?_ | refine blk_alloc ?_ _)); exact BK125.out⟩, ⟨by repeat (first | (with_reducible first | exact HB.out | apply below_alloc | apply pw_below_drewN | apply below_drew1 | refine below_set ?_ GE109.out | refine below_set ?_ GE125.out) | exact HB.out)⟩⟩
      ·rw [if_neg c28] at H
       have c28b0 : decide (0 < (t110.length : Int)) = false := decide_eq_false c28
       have c28b1 : decide (0 < t110.length) = false := decide_eq_false (by omega)
       have e6_ := HB6_.out.trans c28b1
       subst e6_
       clear c28
       (first | rw [c28b0] | (simp only [i64_w, i32_w]; rw [c28b0]) | skip)
       have H' := Aside0.mk H
       clear H
       go_wp2
       go_meet
       case rel => exact ⟨_, (false), (by first | rfl | (simp; done) | (simp [*]; done)), H', ⟨by have := HJ2.out; first | omega | exact Nat.le_refl _⟩, ⟨by (with_reducible repeat (first | apply Kd.R_alloc | apply Kd.R_drewN | apply Kd.R_drew)); exact Kd.R_mono (Kd.R_far (p := ⟨gb125, 4, none⟩) (Kd.R_far (p := ⟨gb125, 3, none⟩) (Kd.R_far (p := ⟨gb125, 2, none⟩) (Kd.R_far (p := ⟨gb125, 1, none⟩) (Kd.R_far (p := ⟨gb125, 0, none⟩) (Kd.R_types HO105.out BK125.out (by decide)) (fun _ hk => hk.2) (.bool t116)) (fun _ hk => hk.2) (.int .u32 t117)) (fun _ hk => hk.2) (.int .u32 t118)) (fun _ hk => hk.2) (.slice Ao26 t119.length co26)) (fun _ hk => hk.2) (.slice Ao27 t122.length co27)) (fun _ hk => ⟨hk.1.1.1, ⟨hk.1.1.2, hk.1.2⟩⟩)⟩, ⟨by (with_reducible repeat (first | apply Kd.R_alloc | apply Kd.R_drewN | apply Kd.R_drew)); exact Kd.R_mono (Kd.R_far (p := ⟨gb125, 4, none⟩) (Kd.R_far (p := ⟨gb125, 3, none⟩) (Kd.R_far (p := ⟨gb125, 2, none⟩) (Kd.R_far (p := ⟨gb125, 1, none⟩) (Kd.R_far (p := ⟨gb125, 0, none⟩) (Kd.R_types HO108.out BK125.out (by decide)) (fun _ hk => hk.2) (.bool t116)) (fun _ hk => hk.2) (.int .u32 t117)) (fun _ hk => hk.2) (.int .u32 t118)) (fun _ hk => hk.2) (.slice Ao26 t119.length co26)) (fun _ hk => hk.2) (.slice Ao27 t122.length co27)) (fun _ hk => ⟨hk.1.1.1, ⟨hk.1.1.2, hk.1.2⟩⟩)⟩, ⟨by (with_reducible repeat (first | apply Kd.R_alloc | apply Kd.R_drewN | apply Kd.R_drew)); exact Kd.R_mono (Kd.R_far (p := ⟨gb125, 4, none⟩) (Kd.R_far (p := ⟨gb125, 3, none⟩) (Kd.R_far (p := ⟨gb125, 2, none⟩) (Kd.R_far (p := ⟨gb125, 1, none⟩) (Kd.R_far (p := ⟨gb125, 0, none⟩) (Kd.R_types HO121.out BK125.out (by decide)) (fun _ hk => hk.2) (.bool t116)) (fun _ hk => hk.2) (.int .u32 t117)) (fun _ hk => hk.2) (.int .u32 t118)) (fun _ hk => hk.2) (.slice Ao26 t119.length co26)) (fun _ hk => hk.2) (.slice Ao27 t122.length co27)) (fun _ hk => ⟨hk.1.1.2, ⟨hk.1.2, hk.1.1.1⟩⟩)⟩, ⟨by (with_reducible repeat (first | apply Kd.R_alloc | apply Kd.R_drewN | apply Kd.R_drew)); exact Kd.R_mono (Kd.R_far (p := ⟨gb125, 4, none⟩) (Kd.R_far (p := ⟨gb125, 3, none⟩) (Kd.R_far (p := ⟨gb125, 2, none⟩) (Kd.R_far (p := ⟨gb125, 1, none⟩) (Kd.R_far (p := ⟨gb125, 0, none⟩) (Kd.R_types HO124.out BK125.out (by decide)) (fun _ hk => hk.2) (.bool t116)) (fun _ hk => hk.2) (.int .u32 t117)) (fun _ hk => hk.2) (.int .u32 t118)) (fun _ hk => hk.2) (.slice Ao26 t119.length co26)) (fun _ hk => hk.2) (.slice Ao27 t122.length co27)) (fun _ hk => ⟨hk.1.1.2, ⟨hk.1.2, hk.1.1.1⟩⟩)⟩, ⟨by (with_reducible repeat (first | refine blk_drewN ?_ _ | refine blk_drew ?_ | refine blk_alloc ?_ _)); refine blk_far ?_ NB109_125.out _; (with_reducible repeat (first | refine blk_drewN ?_ _ | refine blk_drew ?_ | refine blk_alloc ?_ _)); refine blk_far ?_ NB109_125.out _; (with_reducible repeat (first | refine blk_drewN ?_ _ | refine blk_drew ?_ | refine blk_alloc ?_ _)); refine blk_far ?_ NB109_125.out _; (with_reducible repeat (first | refine blk_drewN ?_ _ | refine blk_drew ?_ | refine blk_alloc ?_ _)); refine blk_far ?_ NB109_125.out _; (with_reducible repeat (first | refine blk_drewN ?_ _ | refine blk_drew ?_ | refine blk_alloc ?_ _)); refine blk_far ?_ NB109_125.out _; (with_reducible repeat (first | refine blk_drewN ?_ _ | refine blk_drew ?_ | refine blk_alloc ?_ _)); exact BK109.out⟩, ⟨by (with_reducible repeat (first | refine blk_drewN ?_ _ | refine blk_drew ?_ | refine blk_alloc ?_ _)); refine blk_put (cs := #[.bool t116, .int .u32 t117, .int .u32 t118, .slice Ao26 t119.length co26, .slice none 0 0]) ?_ 4 _ rfl; (with_reducible repeat (first | refine blk_drewN ?_ _ | refine blk_drew ?_ | refine blk_alloc ?_ _)); refine blk_put (cs := #[.bool t116, .int .u32 t117, .int .u32 t118, .slice none 0 0, .slice none 0 0]) ?_ 3 _ rfl; (with_reducible repeat (first | refine blk_drewN ?_ _ | refine blk_drew ?_ | refine blk_alloc ?_ _)); refine blk_put (cs := #[.bool t116, .int .u32 t117, .int .u32 0, .slice none 0 0, .slice none 0 0]) ?_ 2 _ rfl; (with_reducible repeat (first | refine blk_drewN ?_ _ | refine blk_drew ?_ | refine blk_alloc ?_ _)); refine blk_put (cs := #[.bool t116, .int .u32 0, .int .u32 0, .slice none 0 0, .slice none 0 0]) ?_ 1 _ rfl; (with_reducible repeat (first | refine blk_drewN ?_ _ | refine blk_drew ?_ | refine blk_alloc ?_ _)); refine blk_put (cs := #[.bool false, .int .u32 0, .int .u32 0, .slice none 0 0, .slice none 0 0]) ?_ 0 _ rfl; (with_reducible repeat (first | refine blk_drewN ?_ _ | refine blk_drew ?_ | refine blk_alloc ?_ _)); exact BK125.out⟩, ⟨by repeat (first | (with_reducible first | exact HB.out | apply below_alloc | apply pw_below_drewN | apply below_drew1 | refine below_set ?_ GE109.out | refine below_set ?_ GE125.out) | exact HB.out)⟩⟩
     case rest =>
      clear HC11
      try clear c1
      try clear c2
      try clear p2
      try clear c3
      try clear c4
      try clear c4b0
      try clear c4b1
      try clear c5
      try clear c9
      try clear c10
      try clear c10b0
      try clear c10b1
      try clear c10b2
      try clear c24
      try clear c25
      try clear c27
      try clear c28
      try clear c28b0
      try clear c28b1
      try clear c29
      try clear c29b0
      try clear c29b1
      try clear c30
      try clear c30b0
      try clear c30b1
      try clear c31
      try clear c32
      try clear c34
      try clear c35
      try clear c37
      try clear c40
      try clear c43
      try clear hcz14_0
      try clear hcz14_1
      try clear hcz14_2
      try clear hcz14_3
      try clear hcz19_0
      try clear hcz19_1
      try clear hcz19_2
      try clear hcz19_3
      try clear hcz25_0
      try clear hcz25_1
      try clear hcz25_2
      try clear hcz25_3
      try clear hcz25_4
      try clear hcz35_0
      try clear hcz35_1
      try clear hcz35_2
      try clear hcz35_3
      try clear hcz35_4
      try clear hcz36_0
      try clear hcz36_1
      try clear hcz36_2
      try clear hcz36_3
      try clear hcz38_0
      try clear hcz38_1
      try clear hcz38_2
      try clear hcz38_3
      try clear hcz38_4
      try clear hcz39_0
      try clear hcz39_1
      try clear hcz39_2
      try clear hcz39_3
      try clear hcz41_0
      try clear hcz41_1
      try clear hcz41_2
      try clear hcz41_3
      try clear hcz41_4
      try clear hcz42_0
      try clear hcz42_1
      try clear hcz42_2
      try clear hcz42_3
      try clear hcz44_0
      try clear hcz44_1
      try clear hcz44_2
      try clear hcz44_3
      try clear hcz44_4
      try clear hcz45_0
      try clear hcz45_1
      try clear hcz45_2
      try clear hcz45_3
      try clear hfz14_0
      try clear hfz14_1
      try clear hfz14_2
      try clear hfz14_3
      try clear hfz19_0
      try clear hfz19_1
      try clear hfz19_2
      try clear hfz19_3
      try clear hfz25_0
      try clear hfz25_1
      try clear hfz25_2
      try clear hfz25_3
      try clear hfz25_4
      try clear hfz35_0
      try clear hfz35_1
      try clear hfz35_2
      try clear hfz35_3
      try clear hfz35_4
      try clear hfz36_0
      try clear hfz36_1
      try clear hfz36_2
      try clear hfz36_3
      try clear hfz38_0
      try clear hfz38_1
      try clear hfz38_2
      try clear hfz38_3
      try clear hfz38_4
      try clear hfz39_0
      try clear hfz39_1
      try clear hfz39_2
      try clear hfz39_3
      try clear hfz41_0
      try clear hfz41_1
      try clear hfz41_2
      try clear hfz41_3
      try clear hfz41_4
      try clear hfz42_0
      try clear hfz42_1
      try clear hfz42_2
      try clear hfz42_3
      try clear hfz44_0
      try clear hfz44_1
      try clear hfz44_2
      try clear hfz44_3
      try clear hfz44_4
      try clear hfz45_0
      try clear hfz45_1
      try clear hfz45_2
      try clear hfz45_3
      try clear p2
      obtain ⟨kq, x65_10, rfl, HA, HJ10, HO_110002, HO_110003, HO_126003, HO_126004, BK109, BK125, HB⟩ := hcut
      cases kq with
      | zero => exact absurd HA.out (by simp [laws_FnSnap.j1])
      | succ kj10 =>
       have H := HA.out
       clear HA
       simp only [laws_FnSnap.j1] at H
       by_cases c46 : x65_10 = true
       ·subst c46
        have H1 : (some false) = some true := by rw [if_pos rfl] at H; exact H
        clear H
        have H := H1
        clear H1
        exact absurd H (by simp)
       ·replace c46 := Bool.eq_false_iff.mpr c46
        subst c46
        have H1 : ((spec_DrawDecodeSnap.f kj10 l1).bind fun t128 => ((impl_DecodeSnap.f t128).bind fun bt131 => ((spec_DecodeSnap.f kj10 t128).bind fun bt141 => (if (bt131.1 == bt141.1) = true then (if bt131.1 = true then ((impl_EncodeSnap.f bt131.2.1 bt131.2.2.1 bt131.2.2.2.1 bt131.2.2.2.2).bind fun t150 => ((laws_lwBytes.f t150 t128).bind fun t153 => (some t153))) else (some true)) else (some false))))) = some true := by rw [if_neg (show ¬ (false = true) by decide)] at H; exact H
        clear H
        have H := H1
        clear H1
        replace H := Option.bind_eq_some_iff.mp H
        obtain ⟨t128, A470, H⟩ := H
        replace H : ((impl_DecodeSnap.f t128).bind fun bt131 => ((spec_DecodeSnap.f kj10 t128).bind fun bt141 => (if (bt131.1 == bt141.1) = true then (if bt131.1 = true then ((impl_EncodeSnap.f bt131.2.1 bt131.2.2.1 bt131.2.2.2.1 bt131.2.2.2.2).bind fun t150 => ((laws_lwBytes.f t150 t128).bind fun t153 => (some t153))) else (some true)) else (some false)))) = some true := H
        have A47 := Aside0.mk A470
        clear A470
        replace H := Option.bind_eq_some_iff.mp H
        obtain ⟨⟨t131, t132, t133, t134, t137⟩, A480, H⟩ := H
        replace H : ((spec_DecodeSnap.f kj10 t128).bind fun bt141 => (if (t131 == bt141.1) = true then (if t131 = true then ((impl_EncodeSnap.f t132 t133 t134 t137).bind fun t150 => ((laws_lwBytes.f t150 t128).bind fun t153 => (some t153))) else (some true)) else (some false))) = some true := H
        have A48 := Aside0.mk A480
        clear A480
        replace H := Option.bind_eq_some_iff.mp H
        obtain ⟨⟨t141, t142, t143, t144, t147⟩, A490, H⟩ := H
        replace H : (if (t131 == t141) = true then (if t131 = true then ((impl_EncodeSnap.f t132 t133 t134 t137).bind fun t150 => ((laws_lwBytes.f t150 t128).bind fun t153 => (some t153))) else (some true)) else (some false)) = some true := H
        have A49 := Aside0.mk A490
        clear A490
        by_cases c50 : (t131 == t141) = true
        ·rw [if_pos c50] at H
         have c50b0 : (t131 == t141) = true := c50
         (try (have c50b1 : decide (t131 = t141) = true := by simpa using c50))
         (try (have c50b2 : (t131 == t141) = true := by simpa using c50))
         clear c50
         by_cases c51 : t131 = true
         ·subst c51
          have H1 : ((impl_EncodeSnap.f t132 t133 t134 t137).bind fun t150 => ((laws_lwBytes.f t150 t128).bind fun t153 => (some t153))) = some true := by rw [if_pos rfl] at H; exact H
          clear H
          have H := H1
          clear H1
          replace H := Option.bind_eq_some_iff.mp H
          obtain ⟨t150, A520, H⟩ := H
          replace H : ((laws_lwBytes.f t150 t128).bind fun t153 => (some t153)) = some true := H
          have A52 := Aside0.mk A520
          clear A520
          replace H := Option.bind_eq_some_iff.mp H
          obtain ⟨t153, A530, H⟩ := H
          replace H : (some t153) = some true := H
          have A53 := Aside0.mk A530
          clear A530
          have hS_ := Option.some.inj H
          subst hS_
          try go_wp2_with (first | ((with_reducible refine gate_callee (f := 37) rfl ?_); refine goesL_ (some 67) rfl rfl Try.func37 (by kernel_rfl) rfl #[.slice A1 l1.length c1] rfl (by (try simp only [List.map_toArray, List.map_cons, List.map_nil]); first | done | rfl | (simp only [List.length_drop, List.length_take]; rfl)) ?_; (with_reducible refine (spec_DrawDecodeSnap.calls kj10 _ _ l1 t128 _ ?side1 ?side2 A47.out).mono ?_); (case side1 => repeat (first | exact (Kd.C_below HR1.out HB.out) | (with_reducible refine Kd.C_alloc ?_ _) | (with_reducible refine Kd.C_drewN ?_ _) | (with_reducible refine Kd.C_drew ?_))); (case side2 => exact HC1.out); rintro e w54 ⟨v129, rfl, ho0, hb⟩; refine ⟨_, rfl, ?_⟩; have n0_ := Aside0.mk (Kd.R_below (by (with_reducible repeat (first | apply Kd.R_alloc | apply Kd.R_drewN | apply Kd.R_drew)); exact HO_110002.out) hb); have n1_ := Aside0.mk (Kd.R_below (by (with_reducible repeat (first | apply Kd.R_alloc | apply Kd.R_drewN | apply Kd.R_drew)); exact HO_110003.out) hb); have n2_ := Aside0.mk (Kd.R_below (by (with_reducible repeat (first | apply Kd.R_alloc | apply Kd.R_drewN | apply Kd.R_drew)); exact HO_126003.out) hb); have n3_ := Aside0.mk (Kd.R_below (by (with_reducible repeat (first | apply Kd.R_alloc | apply Kd.R_drewN | apply Kd.R_drew)); exact HO_126004.out) hb); have n4_ := Aside0.mk (Kd.R_lower ho0 (below_size (by repeat (first | (with_reducible first | exact HB.out | apply below_alloc | apply pw_below_drewN | apply below_drew1 | refine below_set ?_ GE109.out | refine below_set ?_ GE125.out) | exact HB.out)))); have n5_ := Aside0.mk (blk_below (g := gb109) (o := .cells #[.int .u32 t101, .int .u32 t102, .slice Ao15 t103.length co15, .slice Ao16 t106.length co16] 44 (0, 0)) (by (with_reducible repeat (first | refine blk_drewN ?_ _ | refine blk_drew ?_ | refine blk_alloc ?_ _)); exact BK109.out) hb); have n6_ := Aside0.mk (blk_below (g := gb125) (o := .cells #[.bool t116, .int .u32 t117, .int .u32 t118, .slice Ao26 t119.length co26, .slice Ao27 t122.length co27] 50 (0, 0)) (by (with_reducible repeat (first | refine blk_drewN ?_ _ | refine blk_drew ?_ | refine blk_alloc ?_ _)); exact BK125.out) hb); have n7_ := Aside0.mk (below_step (by repeat (first | (with_reducible first | exact HB.out | apply below_alloc | apply pw_below_drewN | apply below_drew1 | refine below_set ?_ GE109.out | refine below_set ?_ GE125.out) | exact HB.out)) hb); clear HO_110002; clear HO_110003; clear HO_126003; clear HO_126004; clear BK109; clear BK125; clear HB; have HO_110002 := n0_; have HO_110003 := n1_; have HO_126003 := n2_; have HO_126004 := n3_; have HO130 := n4_; have BK109 := n5_; have BK125 := n6_; have HB := n7_; clear n0_ n1_ n2_ n3_ n4_ n5_ n6_ n7_; (try clear hb); (try clear hb2); (try clear hk); (try clear hi); (try clear ho0); obtain ⟨Ao55, co55, eo55⟩ := Kd.R_slice HO130.out; subst eo55) | ((with_reducible refine gate_callee (f := 31) rfl ?_); refine goesL_ (some 69) rfl rfl Try.func31 (by kernel_rfl) rfl #[.slice Ao55 t128.length co55] rfl (by (try simp only [List.map_toArray, List.map_cons, List.map_nil]); first | done | rfl | (simp only [List.length_drop, List.length_take]; rfl)) ?_; (with_reducible refine (impl_DecodeSnap.calls _ _ t128 true t132 t133 t134 t137 _ ?side1 ?side2 A48.out).mono ?_); (case side1 => repeat (first | exact (Kd.R_reads' HO130.out).2.2 | (with_reducible refine Kd.C_alloc ?_ _) | (with_reducible refine Kd.C_drewN ?_ _) | (with_reducible refine Kd.C_drew ?_))); (case side2 => exact (Kd.R_reads' HO130.out).2.1); rintro e w56 ⟨v135, v138, rfl, ho0, ho1, hb⟩; refine ⟨_, rfl, ?_⟩; have n0_ := Aside0.mk (Kd.R_mono (Kd.R_told (Kd.R_told (Kd.R_old (by (with_reducible repeat (first | apply Kd.R_alloc | apply Kd.R_drewN | apply Kd.R_drew)); exact HO_110002.out) hb) (Kd.R_base ho0)) (Kd.R_base ho1)) (fun _ h_ => h_.1)); have n1_ := Aside0.mk (Kd.R_mono (Kd.R_told (Kd.R_told (Kd.R_old (by (with_reducible repeat (first | apply Kd.R_alloc | apply Kd.R_drewN | apply Kd.R_drew)); exact HO_110003.out) hb) (Kd.R_base ho0)) (Kd.R_base ho1)) (fun _ h_ => h_.1)); have n2_ := Aside0.mk (Kd.R_mono (Kd.R_told (Kd.R_told (Kd.R_old (by (with_reducible repeat (first | apply Kd.R_alloc | apply Kd.R_drewN | apply Kd.R_drew)); exact HO_126003.out) hb) (Kd.R_base ho0)) (Kd.R_base ho1)) (fun _ h_ => h_.1)); have n3_ := Aside0.mk (Kd.R_mono (Kd.R_told (Kd.R_told (Kd.R_old (by (with_reducible repeat (first | apply Kd.R_alloc | apply Kd.R_drewN | apply Kd.R_drew)); exact HO_126004.out) hb) (Kd.R_base ho0)) (Kd.R_base ho1)) (fun _ h_ => h_.1)); have n4_ := Aside0.mk (Kd.R_below (by (with_reducible repeat (first | apply Kd.R_alloc | apply Kd.R_drewN | apply Kd.R_drew)); exact HO130.out) hb); have n5_ := Aside0.mk (Kd.R_lower (Kd.R_new' (Kd.R_new' (Kd.R_new' (Kd.R_new' ho0 (Kd.R_lt (by (with_reducible repeat (first | apply Kd.R_alloc | apply Kd.R_drewN | apply Kd.R_drew)); exact HO_110002.out))) (Kd.R_lt (by (with_reducible repeat (first | apply Kd.R_alloc | apply Kd.R_drewN | apply Kd.R_drew)); exact HO_110003.out))) (Kd.R_lt (by (with_reducible repeat (first | apply Kd.R_alloc | apply Kd.R_drewN | apply Kd.R_drew)); exact HO_126003.out))) (Kd.R_lt (by (with_reducible repeat (first | apply Kd.R_alloc | apply Kd.R_drewN | apply Kd.R_drew)); exact HO_126004.out))) (below_size (by repeat (first | (with_reducible first | exact HB.out | apply below_alloc | apply pw_below_drewN | apply below_drew1 | refine below_set ?_ GE109.out | refine below_set ?_ GE125.out) | exact HB.out)))); have n6_ := Aside0.mk (Kd.R_lower (Kd.R_new' (Kd.R_new' (Kd.R_new' (Kd.R_new' ho1 (Kd.R_lt (by (with_reducible repeat (first | apply Kd.R_alloc | apply Kd.R_drewN | apply Kd.R_drew)); exact HO_110002.out))) (Kd.R_lt (by (with_reducible repeat (first | apply Kd.R_alloc | apply Kd.R_drewN | apply Kd.R_drew)); exact HO_110003.out))) (Kd.R_lt (by (with_reducible repeat (first | apply Kd.R_alloc | apply Kd.R_drewN | apply Kd.R_drew)); exact HO_126003.out))) (Kd.R_lt (by (with_reducible repeat (first | apply Kd.R_alloc | apply Kd.R_drewN | apply Kd.R_drew)); exact HO_126004.out))) (below_size (by repeat (first | (with_reducible first | exact HB.out | apply below_alloc | apply pw_below_drewN | apply below_drew1 | refine below_set ?_ GE109.out | refine below_set ?_ GE125.out) | exact HB.out)))); have n7_ := Aside0.mk (blk_below (g := gb109) (o := .cells #[.int .u32 t101, .int .u32 t102, .slice Ao15 t103.length co15, .slice Ao16 t106.length co16] 44 (0, 0)) (by (with_reducible repeat (first | refine blk_drewN ?_ _ | refine blk_drew ?_ | refine blk_alloc ?_ _)); exact BK109.out) hb); have n8_ := Aside0.mk (blk_below (g := gb125) (o := .cells #[.bool t116, .int .u32 t117, .int .u32 t118, .slice Ao26 t119.length co26, .slice Ao27 t122.length co27] 50 (0, 0)) (by (with_reducible repeat (first | refine blk_drewN ?_ _ | refine blk_drew ?_ | refine blk_alloc ?_ _)); exact BK125.out) hb); have n9_ := Aside0.mk (below_step (by repeat (first | (with_reducible first | exact HB.out | apply below_alloc | apply pw_below_drewN | apply below_drew1 | refine below_set ?_ GE109.out | refine below_set ?_ GE125.out) | exact HB.out)) hb); clear HO_110002; clear HO_110003; clear HO_126003; clear HO_126004; clear HO130; clear BK109; clear BK125; clear HB; have HO_110002 := n0_; have HO_110003 := n1_; have HO_126003 := n2_; have HO_126004 := n3_; have HO130 := n4_; have HO136 := n5_; have HO139 := n6_; have BK109 := n7_; have BK125 := n8_; have HB := n9_; clear n0_ n1_ n2_ n3_ n4_ n5_ n6_ n7_ n8_ n9_; (try clear hb); (try clear hb2); (try clear hk); (try clear hi); (try clear ho0); (try clear ho1)) | ((with_reducible refine gate_dst (N := 9) rfl ?_); (try (refine gate_guard (by rfl) ?_; dsimp only)); refine box_event ?hg (N := 9) ?hd (cs := #[.bool false, .int .u32 0, .int .u32 0, .slice none 0 0, .slice none 0 0]) (t := 50) ?hr ?_; (case hd => rfl); (case hg => rfl); (case hr => first | (go_simp; done) | (go_simp; rfl)); intro gb140 hg w57 hbox hb; have n0_ := Aside0.mk (Kd.R_below (by (with_reducible repeat (first | apply Kd.R_alloc | apply Kd.R_drewN | apply Kd.R_drew)); exact HO_110002.out) hb); have n1_ := Aside0.mk (Kd.R_below (by (with_reducible repeat (first | apply Kd.R_alloc | apply Kd.R_drewN | apply Kd.R_drew)); exact HO_110003.out) hb); have n2_ := Aside0.mk (Kd.R_below (by (with_reducible repeat (first | apply Kd.R_alloc | apply Kd.R_drewN | apply Kd.R_drew)); exact HO_126003.out) hb); have n3_ := Aside0.mk (Kd.R_below (by (with_reducible repeat (first | apply Kd.R_alloc | apply Kd.R_drewN | apply Kd.R_drew)); exact HO_126004.out) hb); have n4_ := Aside0.mk (Kd.R_below (by (with_reducible repeat (first | apply Kd.R_alloc | apply Kd.R_drewN | apply Kd.R_drew)); exact HO130.out) hb); have n5_ := Aside0.mk (Kd.R_below (by (with_reducible repeat (first | apply Kd.R_alloc | apply Kd.R_drewN | apply Kd.R_drew)); exact HO136.out) hb); have n6_ := Aside0.mk (Kd.R_below (by (with_reducible repeat (first | apply Kd.R_alloc | apply Kd.R_drewN | apply Kd.R_drew)); exact HO139.out) hb); have n7_ := Aside0.mk (blk_below (g := gb109) (o := .cells #[.int .u32 t101, .int .u32 t102, .slice Ao15 t103.length co15, .slice Ao16 t106.length co16] 44 (0, 0)) (by (with_reducible repeat (first | refine blk_drewN ?_ _ | refine blk_drew ?_ | refine blk_alloc ?_ _)); exact BK109.out) hb); have n8_ := Aside0.mk (blk_below (g := gb125) (o := .cells #[.bool t116, .int .u32 t117, .int .u32 t118, .slice Ao26 t119.length co26, .slice Ao27 t122.length co27] 50 (0, 0)) (by (with_reducible repeat (first | refine blk_drewN ?_ _ | refine blk_drew ?_ | refine blk_alloc ?_ _)); exact BK125.out) hb); have n9_ := Aside0.mk (below_step (by repeat (first | (with_reducible first | exact HB.out | apply below_alloc | apply pw_below_drewN | apply below_drew1 | refine below_set ?_ GE109.out | refine below_set ?_ GE125.out) | exact HB.out)) hb); have n10_ := Aside0.mk (hbox); have n11_ := Aside0.mk ((by rw [hg]; exact (below_size (by repeat (first | (with_reducible first | exact HB.out | apply below_alloc | apply pw_below_drewN | apply below_drew1 | refine below_set ?_ GE109.out | refine below_set ?_ GE125.out) | exact HB.out))) : w.heap.size ≤ gb140)); have n12_ := Aside0.mk ((by rw [hg]; exact (below_size (by repeat (first | (with_reducible first | exact HB.out | apply below_alloc | apply pw_below_drewN | apply below_drew1 | refine below_set ?_ GE109.out | refine below_set ?_ GE125.out) | exact HB.out))) : w.heap.size ≤ gb140)); have n13_ := Aside0.mk ((by rw [hg]; exact Nat.ne_of_lt (blk_lt (g := gb109) (o := .cells #[.int .u32 t101, .int .u32 t102, .slice Ao15 t103.length co15, .slice Ao16 t106.length co16] 44 (0, 0)) (by (with_reducible repeat (first | refine blk_drewN ?_ _ | refine blk_drew ?_ | refine blk_alloc ?_ _)); exact BK109.out)) : gb109 ≠ gb140)); have n14_ := Aside0.mk ((by rw [hg]; exact Nat.ne_of_gt (blk_lt (g := gb109) (o := .cells #[.int .u32 t101, .int .u32 t102, .slice Ao15 t103.length co15, .slice Ao16 t106.length co16] 44 (0, 0)) (by (with_reducible repeat (first | refine blk_drewN ?_ _ | refine blk_drew ?_ | refine blk_alloc ?_ _)); exact BK109.out)) : gb140 ≠ gb109)); have n15_ := Aside0.mk ((by rw [hg]; exact Nat.ne_of_lt (blk_lt (g := gb125) (o := .cells #[.bool t116, .int .u32 t117, .int .u32 t118, .slice Ao26 t119.length co26, .slice Ao27 t122.length co27] 50 (0, 0)) (by (with_reducible repeat (first | refine blk_drewN ?_ _ | refine blk_drew ?_ | refine blk_alloc ?_ _)); exact BK125.out)) : gb125 ≠ gb140)); have n16_ := Aside0.mk ((by rw [hg]; exact Nat.ne_of_gt (blk_lt (g := gb125) (o := .cells #[.bool t116, .int .u32 t117, .int .u32 t118, .slice Ao26 t119.length co26, .slice Ao27 t122.length co27] 50 (0, 0)) (by (with_reducible repeat (first | refine blk_drewN ?_ _ | refine blk_drew ?_ | refine blk_alloc ?_ _)); exact BK125.out)) : gb140 ≠ gb125)); clear HO_110002; clear HO_110003; clear HO_126003; clear HO_126004; clear HO130; clear HO136; clear HO139; clear BK109; clear BK125; clear HB; have HO_110002 := n0_; have HO_110003 := n1_; have HO_126003 := n2_; have HO_126004 := n3_; have HO130 := n4_; have HO136 := n5_; have HO139 := n6_; have BK109 := n7_; have BK125 := n8_; have HB := n9_; have BK140 := n10_; have GW140 := n11_; have GE140 := n12_; have NB109_140 := n13_; have NB140_109 := n14_; have NB125_140 := n15_; have NB140_125 := n16_; clear n0_ n1_ n2_ n3_ n4_ n5_ n6_ n7_ n8_ n9_ n10_ n11_ n12_ n13_ n14_ n15_ n16_; clear hb hbox hg; have hnb58 := NB140_109.out; have hnc58 := NB109_140.out; have hnb59 := NB140_125.out; have hnc59 := NB125_140.out; have hcz60_0 : w57.cell? ⟨gb140, 0, none⟩ = some (.bool false) := (blk_cell BK140.out 0).trans rfl; have hcz60_1 : w57.cell? ⟨gb140, 1, none⟩ = some (.int .u32 0) := (blk_cell BK140.out 1).trans rfl; have hcz60_2 : w57.cell? ⟨gb140, 2, none⟩ = some (.int .u32 0) := (blk_cell BK140.out 2).trans rfl; have hcz60_3 : w57.cell? ⟨gb140, 3, none⟩ = some (.slice none 0 0) := (blk_cell BK140.out 3).trans rfl; have hcz60_4 : w57.cell? ⟨gb140, 4, none⟩ = some (.slice none 0 0) := (blk_cell BK140.out 4).trans rfl; have hfz60_0 := blk_frozen BK140.out 0; have hfz60_1 := blk_frozen BK140.out 1; have hfz60_2 := blk_frozen BK140.out 2; have hfz60_3 := blk_frozen BK140.out 3; have hfz60_4 := blk_frozen BK140.out 4; obtain ⟨Ao61, co61, eo61⟩ := Kd.R_slice HO136.out; subst eo61; obtain ⟨Ao62, co62, eo62⟩ := Kd.R_slice HO139.out; subst eo62))
          have n0_ : Aside0 (Kd.R (Kd.int .i64) 2 (((((w57.setCell ⟨gb140, 0, none⟩ (.bool true)).setCell ⟨gb140, 1, none⟩ (.int .u32 t132)).setCell ⟨gb140, 2, none⟩ (.int .u32 t133)).setCell ⟨gb140, 3, none⟩ (.slice Ao61 t134.length co61)).setCell ⟨gb140, 4, none⟩ (.slice Ao62 t137.length co62)) w.heap.size (fun k_ => some k_ ≠ (.slice Ao16 t106.length co16 : Value).ownBlock ∧ some k_ ≠ (.slice Ao26 t119.length co26 : Value).ownBlock ∧ some k_ ≠ (.slice Ao27 t122.length co27 : Value).ownBlock ∧ some k_ ≠ (.slice Ao61 t134.length co61 : Value).ownBlock ∧ some k_ ≠ (.slice Ao62 t137.length co62 : Value).ownBlock) (.slice Ao15 t103.length co15) t103) := ⟨by (with_reducible repeat (first | apply Kd.R_alloc | apply Kd.R_drewN | apply Kd.R_drew)); exact Kd.R_mono (Kd.R_far (p := ⟨gb140, 4, none⟩) (Kd.R_far (p := ⟨gb140, 3, none⟩) (Kd.R_far (p := ⟨gb140, 2, none⟩) (Kd.R_far (p := ⟨gb140, 1, none⟩) (Kd.R_far (p := ⟨gb140, 0, none⟩) (Kd.R_types HO_110002.out BK140.out (by decide)) (fun _ hk => hk.2) (.bool true)) (fun _ hk => hk.2) (.int .u32 t132)) (fun _ hk => hk.2) (.int .u32 t133)) (fun _ hk => hk.2) (.slice Ao61 t134.length co61)) (fun _ hk => hk.2) (.slice Ao62 t137.length co62)) (fun _ hk => ⟨hk.1.1.1.1, ⟨hk.1.1.1.2.1, ⟨hk.1.1.1.2.2, ⟨hk.1.1.2, hk.1.2⟩⟩⟩⟩)⟩
          have n1_ : Aside0 (Kd.R (Kd.int .i64) 2 (((((w57.setCell ⟨gb140, 0, none⟩ (.bool true)).setCell ⟨gb140, 1, none⟩ (.int .u32 t132)).setCell ⟨gb140, 2, none⟩ (.int .u32 t133)).setCell ⟨gb140, 3, none⟩ (.slice Ao61 t134.length co61)).setCell ⟨gb140, 4, none⟩ (.slice Ao62 t137.length co62)) w.heap.size (fun k_ => some k_ ≠ (.slice Ao15 t103.length co15 : Value).ownBlock ∧ some k_ ≠ (.slice Ao26 t119.length co26 : Value).ownBlock ∧ some k_ ≠ (.slice Ao27 t122.length co27 : Value).ownBlock ∧ some k_ ≠ (.slice Ao61 t134.length co61 : Value).ownBlock ∧ some k_ ≠ (.slice Ao62 t137.length co62 : Value).ownBlock) (.slice Ao16 t106.length co16) t106) := ⟨by (with_reducible repeat (first | apply Kd.R_alloc | apply Kd.R_drewN | apply Kd.R_drew)); exact Kd.R_mono (Kd.R_far (p := ⟨gb140, 4, none⟩) (Kd.R_far (p := ⟨gb140, 3, none⟩) (Kd.R_far (p := ⟨gb140, 2, none⟩) (Kd.R_far (p := ⟨gb140, 1, none⟩) (Kd.R_far (p := ⟨gb140, 0, none⟩) (Kd.R_types HO_110003.out BK140.out (by decide)) (fun _ hk => hk.2) (.bool true)) (fun _ hk => hk.2) (.int .u32 t132)) (fun _ hk => hk.2) (.int .u32 t133)) (fun _ hk => hk.2) (.slice Ao61 t134.length co61)) (fun _ hk => hk.2) (.slice Ao62 t137.length co62)) (fun _ hk => ⟨hk.1.1.1.1, ⟨hk.1.1.1.2.1, ⟨hk.1.1.1.2.2, ⟨hk.1.1.2, hk.1.2⟩⟩⟩⟩)⟩
          have n2_ : Aside0 (Kd.R (Kd.int .i64) 2 (((((w57.setCell ⟨gb140, 0, none⟩ (.bool true)).setCell ⟨gb140, 1, none⟩ (.int .u32 t132)).setCell ⟨gb140, 2, none⟩ (.int .u32 t133)).setCell ⟨gb140, 3, none⟩ (.slice Ao61 t134.length co61)).setCell ⟨gb140, 4, none⟩ (.slice Ao62 t137.length co62)) w.heap.size (fun k_ => some k_ ≠ (.slice Ao15 t103.length co15 : Value).ownBlock ∧ some k_ ≠ (.slice Ao16 t106.length co16 : Value).ownBlock ∧ some k_ ≠ (.slice Ao27 t122.length co27 : Value).ownBlock ∧ some k_ ≠ (.slice Ao61 t134.length co61 : Value).ownBlock ∧ some k_ ≠ (.slice Ao62 t137.length co62 : Value).ownBlock) (.slice Ao26 t119.length co26) t119) := ⟨by (with_reducible repeat (first | apply Kd.R_alloc | apply Kd.R_drewN | apply Kd.R_drew)); exact Kd.R_mono (Kd.R_far (p := ⟨gb140, 4, none⟩) (Kd.R_far (p := ⟨gb140, 3, none⟩) (Kd.R_far (p := ⟨gb140, 2, none⟩) (Kd.R_far (p := ⟨gb140, 1, none⟩) (Kd.R_far (p := ⟨gb140, 0, none⟩) (Kd.R_types HO_126003.out BK140.out (by decide)) (fun _ hk => hk.2) (.bool true)) (fun _ hk => hk.2) (.int .u32 t132)) (fun _ hk => hk.2) (.int .u32 t133)) (fun _ hk => hk.2) (.slice Ao61 t134.length co61)) (fun _ hk => hk.2) (.slice Ao62 t137.length co62)) (fun _ hk => ⟨hk.1.1.1.1, ⟨hk.1.1.1.2.1, ⟨hk.1.1.1.2.2, ⟨hk.1.1.2, hk.1.2⟩⟩⟩⟩)⟩
          have n3_ : Aside0 (Kd.R (Kd.int .i64) 2 (((((w57.setCell ⟨gb140, 0, none⟩ (.bool true)).setCell ⟨gb140, 1, none⟩ (.int .u32 t132)).setCell ⟨gb140, 2, none⟩ (.int .u32 t133)).setCell ⟨gb140, 3, none⟩ (.slice Ao61 t134.length co61)).setCell ⟨gb140, 4, none⟩ (.slice Ao62 t137.length co62)) w.heap.size (fun k_ => some k_ ≠ (.slice Ao15 t103.length co15 : Value).ownBlock ∧ some k_ ≠ (.slice Ao16 t106.length co16 : Value).ownBlock ∧ some k_ ≠ (.slice Ao26 t119.length co26 : Value).ownBlock ∧ some k_ ≠ (.slice Ao61 t134.length co61 : Value).ownBlock ∧ some k_ ≠ (.slice Ao62 t137.length co62 : Value).ownBlock) (.slice Ao27 t122.length co27) t122) := ⟨by (with_reducible repeat (first | apply Kd.R_alloc | apply Kd.R_drewN | apply Kd.R_drew)); exact Kd.R_mono (Kd.R_far (p := ⟨gb140, 4, none⟩) (Kd.R_far (p := ⟨gb140, 3, none⟩) (Kd.R_far (p := ⟨gb140, 2, none⟩) (Kd.R_far (p := ⟨gb140, 1, none⟩) (Kd.R_far (p := ⟨gb140, 0, none⟩) (Kd.R_types HO_126004.out BK140.out (by decide)) (fun _ hk => hk.2) (.bool true)) (fun _ hk => hk.2) (.int .u32 t132)) (fun _ hk => hk.2) (.int .u32 t133)) (fun _ hk => hk.2) (.slice Ao61 t134.length co61)) (fun _ hk => hk.2) (.slice Ao62 t137.length co62)) (fun _ hk => ⟨hk.1.1.1.1, ⟨hk.1.1.1.2.1, ⟨hk.1.1.1.2.2, ⟨hk.1.1.2, hk.1.2⟩⟩⟩⟩)⟩
          have n4_ : Aside0 (Kd.R (Kd.int .u8) 5 (((((w57.setCell ⟨gb140, 0, none⟩ (.bool true)).setCell ⟨gb140, 1, none⟩ (.int .u32 t132)).setCell ⟨gb140, 2, none⟩ (.int .u32 t133)).setCell ⟨gb140, 3, none⟩ (.slice Ao61 t134.length co61)).setCell ⟨gb140, 4, none⟩ (.slice Ao62 t137.length co62)) w.heap.size (fun _ => True) (.slice Ao55 t128.length co55) t128) := ⟨by (with_reducible repeat (first | apply Kd.R_alloc | apply Kd.R_drewN | apply Kd.R_drew)); exact Kd.R_mono (Kd.R_far (p := ⟨gb140, 4, none⟩) (Kd.R_far (p := ⟨gb140, 3, none⟩) (Kd.R_far (p := ⟨gb140, 2, none⟩) (Kd.R_far (p := ⟨gb140, 1, none⟩) (Kd.R_far (p := ⟨gb140, 0, none⟩) (Kd.R_types HO130.out BK140.out (by decide)) (fun _ hk => hk.2) (.bool true)) (fun _ hk => hk.2) (.int .u32 t132)) (fun _ hk => hk.2) (.int .u32 t133)) (fun _ hk => hk.2) (.slice Ao61 t134.length co61)) (fun _ hk => hk.2) (.slice Ao62 t137.length co62)) (fun _ hk => trivial)⟩
          have n5_ : Aside0 (Kd.R (Kd.int .i64) 2 (((((w57.setCell ⟨gb140, 0, none⟩ (.bool true)).setCell ⟨gb140, 1, none⟩ (.int .u32 t132)).setCell ⟨gb140, 2, none⟩ (.int .u32 t133)).setCell ⟨gb140, 3, none⟩ (.slice Ao61 t134.length co61)).setCell ⟨gb140, 4, none⟩ (.slice Ao62 t137.length co62)) w.heap.size (fun k_ => some k_ ≠ (.slice Ao15 t103.length co15 : Value).ownBlock ∧ some k_ ≠ (.slice Ao16 t106.length co16 : Value).ownBlock ∧ some k_ ≠ (.slice Ao26 t119.length co26 : Value).ownBlock ∧ some k_ ≠ (.slice Ao27 t122.length co27 : Value).ownBlock ∧ some k_ ≠ (.slice Ao62 t137.length co62 : Value).ownBlock) (.slice Ao61 t134.length co61) t134) := ⟨by (with_reducible repeat (first | apply Kd.R_alloc | apply Kd.R_drewN | apply Kd.R_drew)); exact Kd.R_mono (Kd.R_far (p := ⟨gb140, 4, none⟩) (Kd.R_far (p := ⟨gb140, 3, none⟩) (Kd.R_far (p := ⟨gb140, 2, none⟩) (Kd.R_far (p := ⟨gb140, 1, none⟩) (Kd.R_far (p := ⟨gb140, 0, none⟩) (Kd.R_types HO136.out BK140.out (by decide)) (fun _ hk => hk.2) (.bool true)) (fun _ hk => hk.2) (.int .u32 t132)) (fun _ hk => hk.2) (.int .u32 t133)) (fun _ hk => hk.2) (.slice Ao61 t134.length co61)) (fun _ hk => hk.2) (.slice Ao62 t137.length co62)) (fun _ hk => ⟨hk.1.1.1.1.2, ⟨hk.1.1.1.2, ⟨hk.1.1.2, ⟨hk.1.2, hk.1.1.1.1.1⟩⟩⟩⟩)⟩
          have n6_ : Aside0 (Kd.R (Kd.int .i64) 2 (((((w57.setCell ⟨gb140, 0, none⟩ (.bool true)).setCell ⟨gb140, 1, none⟩ (.int .u32 t132)).setCell ⟨gb140, 2, none⟩ (.int .u32 t133)).setCell ⟨gb140, 3, none⟩ (.slice Ao61 t134.length co61)).setCell ⟨gb140, 4, none⟩ (.slice Ao62 t137.length co62)) w.heap.size (fun k_ => some k_ ≠ (.slice Ao15 t103.length co15 : Value).ownBlock ∧ some k_ ≠ (.slice Ao16 t106.length co16 : Value).ownBlock ∧ some k_ ≠ (.slice Ao26 t119.length co26 : Value).ownBlock ∧ some k_ ≠ (.slice Ao27 t122.length co27 : Value).ownBlock ∧ some k_ ≠ (.slice Ao61 t134.length co61 : Value).ownBlock) (.slice Ao62 t137.length co62) t137) := ⟨by (with_reducible repeat (first | apply Kd.R_alloc | apply Kd.R_drewN | apply Kd.R_drew)); exact Kd.R_mono (Kd.R_far (p := ⟨gb140, 4, none⟩) (Kd.R_far (p := ⟨gb140, 3, none⟩) (Kd.R_far (p := ⟨gb140, 2, none⟩) (Kd.R_far (p := ⟨gb140, 1, none⟩) (Kd.R_far (p := ⟨gb140, 0, none⟩) (Kd.R_types HO139.out BK140.out (by decide)) (fun _ hk => hk.2) (.bool true)) (fun _ hk => hk.2) (.int .u32 t132)) (fun _ hk => hk.2) (.int .u32 t133)) (fun _ hk => hk.2) (.slice Ao61 t134.length co61)) (fun _ hk => hk.2) (.slice Ao62 t137.length co62)) (fun _ hk => ⟨hk.1.1.1.1.2, ⟨hk.1.1.1.2, ⟨hk.1.1.2, ⟨hk.1.2, hk.1.1.1.1.1⟩⟩⟩⟩)⟩
          have n7_ : Aside0 ((((((w57.setCell ⟨gb140, 0, none⟩ (.bool true)).setCell ⟨gb140, 1, none⟩ (.int .u32 t132)).setCell ⟨gb140, 2, none⟩ (.int .u32 t133)).setCell ⟨gb140, 3, none⟩ (.slice Ao61 t134.length co61)).setCell ⟨gb140, 4, none⟩ (.slice Ao62 t137.length co62)).heap[gb109]? = some (.cells #[.int .u32 t101, .int .u32 t102, .slice Ao15 t103.length co15, .slice Ao16 t106.length co16] 44 (0, 0))) := ⟨by (with_reducible repeat (first | refine blk_drewN ?_ _ | refine blk_drew ?_ | refine blk_alloc ?_ _)); refine blk_far ?_ NB109_140.out _; (with_reducible repeat (first | refine blk_drewN ?_ _ | refine blk_drew ?_ | refine blk_alloc ?_ _)); refine blk_far ?_ NB109_140.out _; (with_reducible repeat (first | refine blk_drewN ?_ _ | refine blk_drew ?_ | refine blk_alloc ?_ _)); refine blk_far ?_ NB109_140.out _; (with_reducible repeat (first | refine blk_drewN ?_ _ | refine blk_drew ?_ | refine blk_alloc ?_ _)); refine blk_far ?_ NB109_140.out _; (with_reducible repeat (first | refine blk_drewN ?_ _ | refine blk_drew ?_ | refine blk_alloc ?_ _)); refine blk_far ?_ NB109_140.out _; (with_reducible repeat (first | refine blk_drewN ?_ _ | refine blk_drew ?_ | refine blk_alloc ?_ _)); exact BK109.out⟩
          have n8_ : Aside0 ((((((w57.setCell ⟨gb140, 0, none⟩ (.bool true)).setCell ⟨gb140, 1, none⟩ (.int .u32 t132)).setCell ⟨gb140, 2, none⟩ (.int .u32 t133)).setCell ⟨gb140, 3, none⟩ (.slice Ao61 t134.length co61)).setCell ⟨gb140, 4, none⟩ (.slice Ao62 t137.length co62)).heap[gb125]? = some (.cells #[.bool t116, .int .u32 t117, .int .u32 t118, .slice Ao26 t119.length co26, .slice Ao27 t122.length co27] 50 (0, 0))) := ⟨by (with_reducible repeat (first | refine blk_drewN ?_ _ | refine blk_drew ?_ | refine blk_alloc ?_ _)); refine blk_far ?_ NB125_140.out _; (with_reducible repeat (first | refine blk_drewN ?_ _ | refine blk_drew ?_ | refine blk_alloc ?_ _)); refine blk_far ?_ NB125_140.out _; (with_reducible repeat (first | refine blk_drewN ?_ _ | refine blk_drew ?_ | refine blk_alloc ?_ _)); refine blk_far ?_ NB125_140.out _; (with_reducible repeat (first | refine blk_drewN ?_ _ | refine blk_drew ?_ | refine blk_alloc ?_ _)); refine blk_far ?_ NB125_140.out _; (with_reducible repeat (first | refine blk_drewN ?_ _ | refine blk_drew ?_ | refine blk_alloc ?_ _)); refine blk_far ?_ NB125_140.out _; (with_reducible repeat (first | refine blk_drewN ?_ _ | refine blk_drew ?_ | refine blk_alloc ?_ _)); exact BK125.out⟩
          have n9_ : Aside0 ((((((w57.setCell ⟨gb140, 0, none⟩ (.bool true)).setCell ⟨gb140, 1, none⟩ (.int .u32 t132)).setCell ⟨gb140, 2, none⟩ (.int .u32 t133)).setCell ⟨gb140, 3, none⟩ (.slice Ao61 t134.length co61)).setCell ⟨gb140, 4, none⟩ (.slice Ao62 t137.length co62)).heap[gb140]? = some (.cells #[.bool true, .int .u32 t132, .int .u32 t133, .slice Ao61 t134.length co61, .slice Ao62 t137.length co62] 50 (0, 0))) := ⟨by (with_reducible repeat (first | refine blk_drewN ?_ _ | refine blk_drew ?_ | refine blk_alloc ?_ _)); refine blk_put (cs := #[.bool true, .int .u32 t132, .int .u32 t133, .slice Ao61 t134.length co61, .slice none 0 0]) ?_ 4 _ rfl; (with_reducible repeat (first | refine blk_drewN ?_ _ | refine blk_drew ?_ | refine blk_alloc ?_ _)); refine blk_put (cs := #[.bool true, .int .u32 t132, .int .u32 t133, .slice none 0 0, .slice none 0 0]) ?_ 3 _ rfl; (with_reducible repeat (first | refine blk_drewN ?_ _ | refine blk_drew ?_ | refine blk_alloc ?_ _)); refine blk_put (cs := #[.bool true, .int .u32 t132, .int .u32 0, .slice none 0 0, .slice none 0 0]) ?_ 2 _ rfl; (with_reducible repeat (first | refine blk_drewN ?_ _ | refine blk_drew ?_ | refine blk_alloc ?_ _)); refine blk_put (cs := #[.bool true, .int .u32 0, .int .u32 0, .slice none 0 0, .slice none 0 0]) ?_ 1 _ rfl; (with_reducible repeat (first | refine blk_drewN ?_ _ | refine blk_drew ?_ | refine blk_alloc ?_ _)); refine blk_put (cs := #[.bool false, .int .u32 0, .int .u32 0, .slice none 0 0, .slice none 0 0]) ?_ 0 _ rfl; (with_reducible repeat (first | refine blk_drewN ?_ _ | refine blk_drew ?_ | refine blk_alloc ?_ _)); exact BK140.out⟩
          have n10_ : Aside0 (Below w.heap.size w (((((w57.setCell ⟨gb140, 0, none⟩ (.bool true)).setCell ⟨gb140, 1, none⟩ (.int .u32 t132)).setCell ⟨gb140, 2, none⟩ (.int .u32 t133)).setCell ⟨gb140, 3, none⟩ (.slice Ao61 t134.length co61)).setCell ⟨gb140, 4, none⟩ (.slice Ao62 t137.length co62))) := ⟨by repeat (first | (with_reducible first | exact HB.out | apply below_alloc | apply pw_below_drewN | apply below_drew1 | refine below_set ?_ GE109.out | refine below_set ?_ GE125.out | refine below_set ?_ GE140.out) | exact HB.out)⟩
          (try clear HO_110002)
          (try clear HO_110003)
          (try clear HO_126003)
          (try clear HO_126004)
          (try clear HO130)
          (try clear HO136)
          (try clear HO139)
          (try clear BK109)
          (try clear BK125)
          (try clear BK140)
          (try clear HB)
          generalize (((((w57.setCell ⟨gb140, 0, none⟩ (.bool true)).setCell ⟨gb140, 1, none⟩ (.int .u32 t132)).setCell ⟨gb140, 2, none⟩ (.int .u32 t133)).setCell ⟨gb140, 3, none⟩ (.slice Ao61 t134.length co61)).setCell ⟨gb140, 4, none⟩ (.slice Ao62 t137.length co62)) = w63 at n0_ n1_ n2_ n3_ n4_ n5_ n6_ n7_ n8_ n9_ n10_ ⊢
          have HO_110002 := n0_
          have HO_110003 := n1_
          have HO_126003 := n2_
          have HO_126004 := n3_
          have HO130 := n4_
          have HO136 := n5_
          have HO139 := n6_
          have BK109 := n7_
          have BK125 := n8_
          have BK140 := n9_
          have HB := n10_
          clear n0_ n1_ n2_ n3_ n4_ n5_ n6_ n7_ n8_ n9_ n10_
          have n0_ := Aside0.mk (Kd.R_drew HO_110002.out)
          have n1_ := Aside0.mk (Kd.R_drew HO_110003.out)
          have n2_ := Aside0.mk (Kd.R_drew HO_126003.out)
          have n3_ := Aside0.mk (Kd.R_drew HO_126004.out)
          have n4_ := Aside0.mk (Kd.R_drew HO130.out)
          have n5_ := Aside0.mk (Kd.R_drew HO136.out)
          have n6_ := Aside0.mk (Kd.R_drew HO139.out)
          have n7_ := Aside0.mk (blk_drew BK109.out)
          have n8_ := Aside0.mk (blk_drew BK125.out)
          have n9_ := Aside0.mk (blk_drew BK140.out)
          have n10_ := Aside0.mk (below_drew1 HB.out)
          clear HO_110002
          clear HO_110003
          clear HO_126003
          clear HO_126004
          clear HO130
          clear HO136
          clear HO139
          clear BK109
          clear BK125
          clear BK140
          clear HB
          have HO_110002 := n0_
          have HO_110003 := n1_
          have HO_126003 := n2_
          have HO_126004 := n3_
          have HO130 := n4_
          have HO136 := n5_
          have HO139 := n6_
          have BK109 := n7_
          have BK125 := n8_
          have BK140 := n9_
          have HB := n10_
          clear n0_ n1_ n2_ n3_ n4_ n5_ n6_ n7_ n8_ n9_ n10_
          refine start_ (n := 19) (S := fun w' => w'.cell? ⟨gb140, 0, none⟩ = some (.bool true) ∧ w'.cell? ⟨gb140, 1, none⟩ = some (.int .u32 t132) ∧ w'.cell? ⟨gb140, 2, none⟩ = some (.int .u32 t133) ∧ w'.cell? ⟨gb140, 3, none⟩ = some (.slice Ao61 t134.length co61) ∧ w'.cell? ⟨gb140, 4, none⟩ = some (.slice Ao62 t137.length co62)) (ds := []) #[false, false, false, false, false, false, false, false, false, false, false, false, false, false, false, false, false, false, false] (by kernel_rfl) rfl rfl ⟨(blk_cell BK140.out 0).trans rfl, (blk_cell BK140.out 1).trans rfl, (blk_cell BK140.out 2).trans rfl, (blk_cell BK140.out 3).trans rfl, (blk_cell BK140.out 4).trans rfl⟩ (fun hHeld => ?_); refine with_tabW laws_FnSnap.tab12 laws_FnSnap.bits12 (fun HT_ HW_ => ?_)
          generalize w63.drew = w64 at HO_110002 HO_110003 HO_126003 HO_126004 HO130 HO136 HO139 BK109 BK125 BK140 HB hHeld ⊢
          refine pure_ (i := 0) (N := some 70) (v := ?_) (a' := ?_) #[true, false, false, false, false, false, false, false, false, false, false, false, false, false, false, false, false, false, false] rfl rfl (any_of HT_.out (by kernel_rfl)) (fun _ _ _ h => h) (Or.inl ⟨by rfl, ?_⟩) ?_ ?_
          rotate_left
          ·intro w'
           go_simp
           with_reducible rfl
          rotate_left
          ·simp only [Act.put, List.setIfInBounds_toArray, List.set_cons_zero, List.set_cons_succ, i64_w, i32_w]
           rfl
          refine pure_ (i := 2) (N := some 72) (v := ?_) (a' := ?_) #[true, false, true, false, false, false, false, false, false, false, false, false, false, false, false, false, false, false, false] rfl rfl (any_of HT_.out (by kernel_rfl)) (fun _ _ _ h => h) (Or.inl ⟨by rfl, ?_⟩) ?_ ?_
          rotate_left
          ·intro w'
           go_simp
           with_reducible rfl
          rotate_left
          ·simp only [Act.put, List.setIfInBounds_toArray, List.set_cons_zero, List.set_cons_succ, i64_w, i32_w]
           rfl
          refine take_ (i := 1) (N := some 71) (v := ?_) (a' := ?_) #[true, true, true, false, false, false, false, false, false, false, false, false, false, false, false, false, false, false, false] rfl rfl (take_ofW HT_.out HW_.out (by kernel_rfl)) (fun _ _ _ h => h) (Or.inl ⟨by rfl, ?_⟩) hHeld ?_ ?_
          rotate_left
          ·rintro w' ⟨s0, s1, s2, s3, s4⟩
           go_simp
           with_reducible rfl
          rotate_left
          ·simp only [Act.put, List.setIfInBounds_toArray, List.set_cons_zero, List.set_cons_succ, i64_w, i32_w]
           rfl
          refine one_ (i := 3) (N := some 73) #[true, true, true, true, false, false, false, false, false, false, false, false, false, false, false, false, false, false, false] rfl rfl (one_of HT_.out (by kernel_rfl)) (by decide) (fun K hK => ?_)
          refine goes_ Try.func30 (by kernel_rfl) rfl #[.slice Ao55 t128.length co55] (by rfl) rfl rfl (by (try simp only [List.map_toArray, List.map_cons, List.map_nil]); first | done | rfl | (simp only [List.length_drop, List.length_take]; rfl)) ?_
          with_reducible refine (spec_DecodeSnap.calls kj10 _ _ t128 t141 t142 t143 t144 t147 _ ?side1 ?side2 A49.out).mono ?_
          (case side1 => repeat (first | exact (Kd.R_reads' HO130.out).2.2 | (with_reducible refine Kd.C_alloc ?_ _) | (with_reducible refine Kd.C_drewN ?_ _) | (with_reducible refine Kd.C_drew ?_)))
          (case side2 => exact (Kd.R_reads' HO130.out).2.1)
          rintro e w65 ⟨v145, v148, rfl, ho0, ho1, hb⟩
          obtain ⟨Ax0_, cx0_, e_⟩ := Kd.R_slice ho0
          subst e_
          obtain ⟨Ax1_, cx1_, e_⟩ := Kd.R_slice ho1
          subst e_
          have hfd_ := laws_FnSnap.fld t141 t142 t143 Ax0_ Ax1_ t144.length t147.length cx0_ cx1_
          refine ⟨_, rfl, ?_⟩
          have n0_ := Aside0.mk (Kd.R_mono (Kd.R_told (Kd.R_told (Kd.R_old (by (with_reducible repeat (first | apply Kd.R_alloc | apply Kd.R_drewN | apply Kd.R_drew)); exact HO_110002.out) hb) (Kd.R_base ho0)) (Kd.R_base ho1)) (fun _ h_ => h_.1))
          have n1_ := Aside0.mk (Kd.R_mono (Kd.R_told (Kd.R_told (Kd.R_old (by (with_reducible repeat (first | apply Kd.R_alloc | apply Kd.R_drewN | apply Kd.R_drew)); exact HO_110003.out) hb) (Kd.R_base ho0)) (Kd.R_base ho1)) (fun _ h_ => h_.1))
          have n2_ := Aside0.mk (Kd.R_mono (Kd.R_told (Kd.R_told (Kd.R_old (by (with_reducible repeat (first | apply Kd.R_alloc | apply Kd.R_drewN | apply Kd.R_drew)); exact HO_126003.out) hb) (Kd.R_base ho0)) (Kd.R_base ho1)) (fun _ h_ => h_.1))
          have n3_ := Aside0.mk (Kd.R_mono (Kd.R_told (Kd.R_told (Kd.R_old (by (with_reducible repeat (first | apply Kd.R_alloc | apply Kd.R_drewN | apply Kd.R_drew)); exact HO_126004.out) hb) (Kd.R_base ho0)) (Kd.R_base ho1)) (fun _ h_ => h_.1))
          have n4_ := Aside0.mk (Kd.R_below (by (with_reducible repeat (first | apply Kd.R_alloc | apply Kd.R_drewN | apply Kd.R_drew)); exact HO130.out) hb)
          have n5_ := Aside0.mk (Kd.R_mono (Kd.R_told (Kd.R_told (Kd.R_old (by (with_reducible repeat (first | apply Kd.R_alloc | apply Kd.R_drewN | apply Kd.R_drew)); exact HO136.out) hb) (Kd.R_base ho0)) (Kd.R_base ho1)) (fun _ h_ => h_.1))
          have n6_ := Aside0.mk (Kd.R_mono (Kd.R_told (Kd.R_told (Kd.R_old (by (with_reducible repeat (first | apply Kd.R_alloc | apply Kd.R_drewN | apply Kd.R_drew)); exact HO139.out) hb) (Kd.R_base ho0)) (Kd.R_base ho1)) (fun _ h_ => h_.1))
          have n7_ := Aside0.mk (Kd.R_lower (Kd.R_new' (Kd.R_new' (Kd.R_new' (Kd.R_new' (Kd.R_new' (Kd.R_new' ho0 (Kd.R_lt (by (with_reducible repeat (first | apply Kd.R_alloc | apply Kd.R_drewN | apply Kd.R_drew)); exact HO_110002.out))) (Kd.R_lt (by (with_reducible repeat (first | apply Kd.R_alloc | apply Kd.R_drewN | apply Kd.R_drew)); exact HO_110003.out))) (Kd.R_lt (by (with_reducible repeat (first | apply Kd.R_alloc | apply Kd.R_drewN | apply Kd.R_drew)); exact HO_126003.out))) (Kd.R_lt (by (with_reducible repeat (first | apply Kd.R_alloc | apply Kd.R_drewN | apply Kd.R_drew)); exact HO_126004.out))) (Kd.R_lt (by (with_reducible repeat (first | apply Kd.R_alloc | apply Kd.R_drewN | apply Kd.R_drew)); exact HO136.out))) (Kd.R_lt (by (with_reducible repeat (first | apply Kd.R_alloc | apply Kd.R_drewN | apply Kd.R_drew)); exact HO139.out))) (below_size (by repeat (first | (with_reducible first | exact HB.out | apply below_alloc | apply pw_below_drewN | apply below_drew1 | refine below_set ?_ GE109.out | refine below_set ?_ GE125.out | refine below_set ?_ GE140.out) | exact HB.out))))
          have n8_ := Aside0.mk (Kd.R_lower (Kd.R_new' (Kd.R_new' (Kd.R_new' (Kd.R_new' (Kd.R_new' (Kd.R_new' ho1 (Kd.R_lt (by (with_reducible repeat (first | apply Kd.R_alloc | apply Kd.R_drewN | apply Kd.R_drew)); exact HO_110002.out))) (Kd.R_lt (by (with_reducible repeat (first | apply Kd.R_alloc | apply Kd.R_drewN | apply Kd.R_drew)); exact HO_110003.out))) (Kd.R_lt (by (with_reducible repeat (first | apply Kd.R_alloc | apply Kd.R_drewN | apply Kd.R_drew)); exact HO_126003.out))) (Kd.R_lt (by (with_reducible repeat (first | apply Kd.R_alloc | apply Kd.R_drewN | apply Kd.R_drew)); exact HO_126004.out))) (Kd.R_lt (by (with_reducible repeat (first | apply Kd.R_alloc | apply Kd.R_drewN | apply Kd.R_drew)); exact HO136.out))) (Kd.R_lt (by (with_reducible repeat (first | apply Kd.R_alloc | apply Kd.R_drewN | apply Kd.R_drew)); exact HO139.out))) (below_size (by repeat (first | (with_reducible first | exact HB.out | apply below_alloc | apply pw_below_drewN | apply below_drew1 | refine below_set ?_ GE109.out | refine below_set ?_ GE125.out | refine below_set ?_ GE140.out) | exact HB.out))))
          have n9_ := Aside0.mk (blk_below (g := gb109) (o := .cells #[.int .u32 t101, .int .u32 t102, .slice Ao15 t103.length co15, .slice Ao16 t106.length co16] 44 (0, 0)) (by (with_reducible repeat (first | refine blk_drewN ?_ _ | refine blk_drew ?_ | refine blk_alloc ?_ _)); exact BK109.out) hb)
          have n10_ := Aside0.mk (blk_below (g := gb125) (o := .cells #[.bool t116, .int .u32 t117, .int .u32 t118, .slice Ao26 t119.length co26, .slice Ao27 t122.length co27] 50 (0, 0)) (by (with_reducible repeat (first | refine blk_drewN ?_ _ | refine blk_drew ?_ | refine blk_alloc ?_ _)); exact BK125.out) hb)
          have n11_ := Aside0.mk (blk_below (g := gb140) (o := .cells #[.bool true, .int .u32 t132, .int .u32 t133, .slice Ao61 t134.length co61, .slice Ao62 t137.length co62] 50 (0, 0)) (by (with_reducible repeat (first | refine blk_drewN ?_ _ | refine blk_drew ?_ | refine blk_alloc ?_ _)); exact BK140.out) hb)
          have n12_ := Aside0.mk (below_step (by repeat (first | (with_reducible first | exact HB.out | apply below_alloc | apply pw_below_drewN | apply below_drew1 | refine below_set ?_ GE109.out | refine below_set ?_ GE125.out | refine below_set ?_ GE140.out) | exact HB.out)) hb)
          clear HO_110002
          clear HO_110003
          clear HO_126003
          clear HO_126004
          clear HO130
          clear HO136
          clear HO139
          clear BK109
          clear BK125
          clear BK140
          clear HB
          have HO_110002 := n0_
          have HO_110003 := n1_
          have HO_126003 := n2_
          have HO_126004 := n3_
          have HO130 := n4_
          have HO136 := n5_
          have HO139 := n6_
          have HO146 := n7_
          have HO149 := n8_
          have BK109 := n9_
          have BK125 := n10_
          have BK140 := n11_
          have HB := n12_
          clear n0_ n1_ n2_ n3_ n4_ n5_ n6_ n7_ n8_ n9_ n10_ n11_ n12_
          (try clear hb)
          (try clear hb2)
          (try clear hk)
          (try clear hi)
          (try clear ho0)
          (try clear ho1)
          refine hK.out _ _ ⟨(blk_cell BK140.out 0).trans rfl, (blk_cell BK140.out 1).trans rfl, (blk_cell BK140.out 2).trans rfl, (blk_cell BK140.out 3).trans rfl, (blk_cell BK140.out 4).trans rfl⟩ (fun hHeld => ?_)
          clear hK K
          refine norm_ (a' := ?_) ?_ ?_
          rotate_left
          ·show Act.put _ (some 73) _ = _
           simp only [Act.put, List.setIfInBounds_toArray, List.set_cons_zero, List.set_cons_succ, i64_w, i32_w]
           rfl
          refine pure_ (i := 4) (N := some 74) (v := ?_) (a' := ?_) #[true, true, true, true, true, false, false, false, false, false, false, false, false, false, false, false, false, false, false] rfl rfl (any_of HT_.out (by kernel_rfl)) (fun _ _ _ h => h) (Or.inl ⟨by rfl, ?_⟩) ?_ ?_
          rotate_left
          ·intro w'
           go_simp
           with_reducible rfl
          rotate_left
          ·simp only [Act.put, List.setIfInBounds_toArray, List.set_cons_zero, List.set_cons_succ, i64_w, i32_w]
           rfl
          refine pure_ (i := 5) (N := some 75) (v := ?_) (a' := ?_) #[true, true, true, true, true, true, false, false, false, false, false, false, false, false, false, false, false, false, false] rfl rfl (any_of HT_.out (by kernel_rfl)) (fun _ _ _ h => h) (Or.inl ⟨by rfl, ?_⟩) ?_ ?_
          rotate_left
          ·intro w'
           go_simp
           with_reducible rfl
          rotate_left
          ·simp only [Act.put, List.setIfInBounds_toArray, List.set_cons_zero, List.set_cons_succ, i64_w, i32_w]
           rfl
          refine pure_ (i := 6) (N := some 76) (v := ?_) (a' := ?_) #[true, true, true, true, true, true, true, false, false, false, false, false, false, false, false, false, false, false, false] rfl rfl (any_of HT_.out (by kernel_rfl)) (fun _ _ _ h => h) (Or.inl ⟨by rfl, ?_⟩) ?_ ?_
          rotate_left
          ·intro w'
           go_simp
           with_reducible rfl
          rotate_left
          ·simp only [Act.put, List.setIfInBounds_toArray, List.set_cons_zero, List.set_cons_succ, i64_w, i32_w]
           rfl
          refine pure_ (i := 7) (N := some 77) (v := ?_) (a' := ?_) #[true, true, true, true, true, true, true, true, false, false, false, false, false, false, false, false, false, false, false] rfl rfl (any_of HT_.out (by kernel_rfl)) (fun _ _ _ h => h) (Or.inl ⟨by rfl, ?_⟩) ?_ ?_
          rotate_left
          ·intro w'
           go_simp
           with_reducible rfl
          rotate_left
          ·simp only [Act.put, List.setIfInBounds_toArray, List.set_cons_zero, List.set_cons_succ, i64_w, i32_w]
           rfl
          refine take_ (i := 8) (N := some 78) (v := ?_) (a' := ?_) #[true, true, true, true, true, true, true, true, true, false, false, false, false, false, false, false, false, false, false] rfl rfl (take_ofW HT_.out HW_.out (by kernel_rfl)) (fun _ _ _ h => h) (Or.inl ⟨by rfl, ?_⟩) hHeld ?_ ?_
          rotate_left
          ·rintro w' ⟨s0, s1, s2, s3, s4⟩
           go_simp
           with_reducible rfl
          rotate_left
          ·simp only [Act.put, List.setIfInBounds_toArray, List.set_cons_zero, List.set_cons_succ, i64_w, i32_w]
           rfl
          refine pure_ (i := 9) (N := some 79) (v := ?_) (a' := ?_) #[true, true, true, true, true, true, true, true, true, true, false, false, false, false, false, false, false, false, false] rfl rfl (any_of HT_.out (by kernel_rfl)) (fun _ _ _ h => h) (Or.inl ⟨by rfl, ?_⟩) ?_ ?_
          rotate_left
          ·intro w'
           go_simp
           with_reducible rfl
          rotate_left
          ·simp only [Act.put, List.setIfInBounds_toArray, List.set_cons_zero, List.set_cons_succ, i64_w, i32_w]
           rfl
          refine pure_ (i := 10) (N := some 80) (v := ?_) (a' := ?_) #[true, true, true, true, true, true, true, true, true, true, true, false, false, false, false, false, false, false, false] rfl rfl (any_of HT_.out (by kernel_rfl)) (fun _ _ _ h => h) (Or.inl ⟨by rfl, ?_⟩) ?_ ?_
          rotate_left
          ·intro w'
           go_simp
           with_reducible rfl
          rotate_left
          ·simp only [Act.put, List.setIfInBounds_toArray, List.set_cons_zero, List.set_cons_succ, i64_w, i32_w]
           rfl
          refine pure_ (i := 11) (N := some 81) (v := ?_) (a' := ?_) #[true, true, true, true, true, true, true, true, true, true, true, true, false, false, false, false, false, false, false] rfl rfl (any_of HT_.out (by kernel_rfl)) (fun _ _ _ h => h) (Or.inl ⟨by rfl, ?_⟩) ?_ ?_
          rotate_left
          ·intro w'
           go_simp
           with_reducible rfl
          rotate_left
          ·simp only [Act.put, List.setIfInBounds_toArray, List.set_cons_zero, List.set_cons_succ, i64_w, i32_w]
           rfl
          refine pure_ (i := 14) (N := some 84) (v := ?_) (a' := ?_) #[true, true, true, true, true, true, true, true, true, true, true, true, false, false, true, false, false, false, false] rfl rfl (any_of HT_.out (by kernel_rfl)) (fun _ _ _ h => h) (Or.inl ⟨by rfl, ?_⟩) ?_ ?_
          rotate_left
          ·intro w'
           go_simp
           with_reducible rfl
          rotate_left
          ·simp only [Act.put, List.setIfInBounds_toArray, List.set_cons_zero, List.set_cons_succ, i64_w, i32_w]
           rfl
          refine take_ (i := 12) (N := some 82) (v := ?_) (a' := ?_) #[true, true, true, true, true, true, true, true, true, true, true, true, true, false, true, false, false, false, false] rfl rfl (take_ofW HT_.out HW_.out (by kernel_rfl)) (fun _ _ _ h => h) (Or.inl ⟨by rfl, ?_⟩) hHeld ?_ ?_
          rotate_left
          ·rintro w' ⟨s0, s1, s2, s3, s4⟩
           go_simp
           with_reducible rfl
          rotate_left
          ·simp only [Act.put, List.setIfInBounds_toArray, List.set_cons_zero, List.set_cons_succ, i64_w, i32_w]
           rfl
          refine one_ (i := 13) (N := some 83) #[true, true, true, true, true, true, true, true, true, true, true, true, true, true, true, false, false, false, false] rfl rfl (one_of HT_.out (by kernel_rfl)) (by decide) (fun K hK => ?_)
          refine goes_ Try.func27 (by kernel_rfl) rfl #[.agg #[.int .u32 t132, .int .u32 t133, .slice Ao61 t134.length co61, .slice Ao62 t137.length co62]] (by rfl) rfl rfl (by (try simp only [List.map_toArray, List.map_cons, List.map_nil]); first | done | rfl | (simp only [List.length_drop, List.length_take]; rfl)) ?_
          with_reducible refine (impl_EncodeSnap.calls t132 t133 _ _ t134 _ _ t137 t150 _ ?side1 ?side2 ?side3 ?side4 A52.out).mono ?_
          (case side1 => repeat (first | exact (Kd.R_reads' HO136.out).2.2 | (with_reducible refine Kd.C_alloc ?_ _) | (with_reducible refine Kd.C_drewN ?_ _) | (with_reducible refine Kd.C_drew ?_)))
          (case side2 => exact (Kd.R_reads' HO136.out).2.1)
          (case side3 => repeat (first | exact (Kd.R_reads' HO139.out).2.2 | (with_reducible refine Kd.C_alloc ?_ _) | (with_reducible refine Kd.C_drewN ?_ _) | (with_reducible refine Kd.C_drew ?_)))
          (case side4 => exact (Kd.R_reads' HO139.out).2.1)
          rintro e w66 ⟨v151, rfl, ho0, hb⟩
          refine ⟨_, rfl, ?_⟩
          have n0_ := Aside0.mk (Kd.R_below (by (with_reducible repeat (first | apply Kd.R_alloc | apply Kd.R_drewN | apply Kd.R_drew)); exact HO_110002.out) hb)
          have n1_ := Aside0.mk (Kd.R_below (by (with_reducible repeat (first | apply Kd.R_alloc | apply Kd.R_drewN | apply Kd.R_drew)); exact HO_110003.out) hb)
          have n2_ := Aside0.mk (Kd.R_below (by (with_reducible repeat (first | apply Kd.R_alloc | apply Kd.R_drewN | apply Kd.R_drew)); exact HO_126003.out) hb)
          have n3_ := Aside0.mk (Kd.R_below (by (with_reducible repeat (first | apply Kd.R_alloc | apply Kd.R_drewN | apply Kd.R_drew)); exact HO_126004.out) hb)
          have n4_ := Aside0.mk (Kd.R_elder' (by (with_reducible repeat (first | apply Kd.R_alloc | apply Kd.R_drewN | apply Kd.R_drew)); exact HO130.out) (Kd.R_base ho0) hb)
          have n5_ := Aside0.mk (Kd.R_below (by (with_reducible repeat (first | apply Kd.R_alloc | apply Kd.R_drewN | apply Kd.R_drew)); exact HO136.out) hb)
          have n6_ := Aside0.mk (Kd.R_below (by (with_reducible repeat (first | apply Kd.R_alloc | apply Kd.R_drewN | apply Kd.R_drew)); exact HO139.out) hb)
          have n7_ := Aside0.mk (Kd.R_below (by (with_reducible repeat (first | apply Kd.R_alloc | apply Kd.R_drewN | apply Kd.R_drew)); exact HO146.out) hb)
          have n8_ := Aside0.mk (Kd.R_below (by (with_reducible repeat (first | apply Kd.R_alloc | apply Kd.R_drewN | apply Kd.R_drew)); exact HO149.out) hb)
          have n9_ := Aside0.mk (Kd.R_lower (Kd.R_new' ho0 (Kd.R_lt (by (with_reducible repeat (first | apply Kd.R_alloc | apply Kd.R_drewN | apply Kd.R_drew)); exact HO130.out))) (below_size (by repeat (first | (with_reducible first | exact HB.out | apply below_alloc | apply pw_below_drewN | apply below_drew1 | refine below_set ?_ GE109.out | refine below_set ?_ GE125.out | refine below_set ?_ GE140.out) | exact HB.out))))
          have n10_ := Aside0.mk (blk_below (g := gb109) (o := .cells #[.int .u32 t101, .int .u32 t102, .slice Ao15 t103.length co15, .slice Ao16 t106.length co16] 44 (0, 0)) (by (with_reducible repeat (first | refine blk_drewN ?_ _ | refine blk_drew ?_ | refine blk_alloc ?_ _)); exact BK109.out) hb)
          have n11_ := Aside0.mk (blk_below (g := gb125) (o := .cells #[.bool t116, .int .u32 t117, .int .u32 t118, .slice Ao26 t119.length co26, .slice Ao27 t122.length co27] 50 (0, 0)) (by (with_reducible repeat (first | refine blk_drewN ?_ _ | refine blk_drew ?_ | refine blk_alloc ?_ _)); exact BK125.out) hb)
          have n12_ := Aside0.mk (blk_below (g := gb140) (o := .cells #[.bool true, .int .u32 t132, .int .u32 t133, .slice Ao61 t134.length co61, .slice Ao62 t137.length co62] 50 (0, 0)) (by (with_reducible repeat (first | refine blk_drewN ?_ _ | refine blk_drew ?_ | refine blk_alloc ?_ _)); exact BK140.out) hb)
          have n13_ := Aside0.mk (below_step (by repeat (first | (with_reducible first | exact HB.out | apply below_alloc | apply pw_below_drewN | apply below_drew1 | refine below_set ?_ GE109.out | refine below_set ?_ GE125.out | refine below_set ?_ GE140.out) | exact HB.out)) hb)
          clear HO_110002
          clear HO_110003
          clear HO_126003
          clear HO_126004
          clear HO130
          clear HO136
          clear HO139
          clear HO146
          clear HO149
          clear BK109
          clear BK125
          clear BK140
          clear HB
          have HO_110002 := n0_
          have HO_110003 := n1_
          have HO_126003 := n2_
          have HO_126004 := n3_
          have HO130 := n4_
          have HO136 := n5_
          have HO139 := n6_
          have HO146 := n7_
          have HO149 := n8_
          have HO152 := n9_
          have BK109 := n10_
          have BK125 := n11_
          have BK140 := n12_
          have HB := n13_
          clear n0_ n1_ n2_ n3_ n4_ n5_ n6_ n7_ n8_ n9_ n10_ n11_ n12_ n13_
          (try clear hb)
          (try clear hb2)
          (try clear hk)
          (try clear hi)
          (try clear ho0)
          obtain ⟨Ao67, co67, eo67⟩ := Kd.R_slice HO152.out
          (first | subst eo67 | (injection eo67 with f1_ f2_ f3_; have f4_ := f1_.symm; have f5_ := f3_.symm; clear f1_ f2_ f3_; subst f4_; subst f5_))
          refine hK.out _ _ ⟨(blk_cell BK140.out 0).trans rfl, (blk_cell BK140.out 1).trans rfl, (blk_cell BK140.out 2).trans rfl, (blk_cell BK140.out 3).trans rfl, (blk_cell BK140.out 4).trans rfl⟩ (fun hHeld => ?_)
          clear hK K
          refine norm_ (a' := ?_) ?_ ?_
          rotate_left
          ·show Act.put _ (some 83) _ = _
           simp only [Act.put, List.setIfInBounds_toArray, List.set_cons_zero, List.set_cons_succ, i64_w, i32_w]
           rfl
          refine one_ (i := 15) (N := some 85) #[true, true, true, true, true, true, true, true, true, true, true, true, true, true, true, true, false, false, false] rfl rfl (one_of HT_.out (by kernel_rfl)) (by decide) (fun K hK => ?_)
          refine goes_ Try.func22 (by kernel_rfl) rfl #[.slice Ao67 t150.length co67, .slice Ao55 t128.length co55] (by rfl) rfl rfl (by (try simp only [List.map_toArray, List.map_cons, List.map_nil]); first | done | rfl | (simp only [List.length_drop, List.length_take]; rfl)) ?_
          with_reducible refine (laws_lwBytes.calls _ _ t150 _ _ t128 true _ ?side1 ?side2 ?side3 ?side4 A53.out).mono ?_
          (case side1 => repeat (first | exact (Kd.R_reads' HO152.out).2.2 | (with_reducible refine Kd.C_alloc ?_ _) | (with_reducible refine Kd.C_drewN ?_ _) | (with_reducible refine Kd.C_drew ?_)))
          (case side2 => exact (Kd.R_reads' HO152.out).2.1)
          (case side3 => repeat (first | exact (Kd.R_reads' HO130.out).2.2 | (with_reducible refine Kd.C_alloc ?_ _) | (with_reducible refine Kd.C_drewN ?_ _) | (with_reducible refine Kd.C_drew ?_)))
          (case side4 => exact (Kd.R_reads' HO130.out).2.1)
          rintro e w' ⟨rfl, ⟨nd, rfl⟩⟩
          refine ⟨_, rfl, ?_⟩
          refine hK.out _ _ ⟨(blk_cell BK140.out 0).trans rfl, (blk_cell BK140.out 1).trans rfl, (blk_cell BK140.out 2).trans rfl, (blk_cell BK140.out 3).trans rfl, (blk_cell BK140.out 4).trans rfl⟩ (fun hHeld => ?_)
          clear hK K
          refine norm_ (a' := ?_) ?_ ?_
          rotate_left
          ·show Act.put _ (some 85) _ = _
           simp only [Act.put, List.setIfInBounds_toArray, List.set_cons_zero, List.set_cons_succ, i64_w, i32_w]
           rfl
          refine pure_ (i := 16) (N := some 86) (v := ?_) (a' := ?_) #[true, true, true, true, true, true, true, true, true, true, true, true, true, true, true, true, true, false, false] rfl rfl (any_of HT_.out (by kernel_rfl)) (fun _ _ _ h => h) (Or.inl ⟨by rfl, ?_⟩) ?_ ?_
          rotate_left
          ·intro w'
           go_simp
           with_reducible rfl
          rotate_left
          ·simp only [Act.put, List.setIfInBounds_toArray, List.set_cons_zero, List.set_cons_succ, i64_w, i32_w]
           rfl
          refine pure_ (i := 17) (N := some 87) (v := ?_) (a' := ?_) #[true, true, true, true, true, true, true, true, true, true, true, true, true, true, true, true, true, true, false] rfl rfl (any_of HT_.out (by kernel_rfl)) (fun _ _ _ h => h) (Or.inl ⟨by rfl, ?_⟩) ?_ ?_
          rotate_left
          ·intro w'
           go_simp
           with_reducible rfl
          rotate_left
          ·simp only [Act.put, List.setIfInBounds_toArray, List.set_cons_zero, List.set_cons_succ, i64_w, i32_w]
           rfl
          refine pure_ (i := 18) (N := some 4) (v := ?_) (a' := ?_) #[true, true, true, true, true, true, true, true, true, true, true, true, true, true, true, true, true, true, true] rfl rfl (any_of HT_.out (by kernel_rfl)) (fun _ _ _ h => h) (Or.inl ⟨by rfl, ?_⟩) ?_ ?_
          rotate_left
          ·intro w'
           go_simp
           with_reducible rfl
          rotate_left
          ·simp only [Act.put, List.setIfInBounds_toArray, List.set_cons_zero, List.set_cons_succ, i64_w, i32_w]
           rfl
          refine done_ (done_of HT_.out (by kernel_rfl)) ?_
          try go_wp2
          go_ret
          exact ⟨by first | rfl | (simp [errW_none, errW_some] <;> rfl) | (simp [*, errW_none, errW_some] <;> rfl), by repeat (first | (with_reducible first | exact HB.out | apply below_alloc | apply pw_below_drewN | apply below_drew1 | refine below_set ?_ GE109.out | refine below_set ?_ GE125.out | refine below_set ?_ GE140.out) | exact HB.out)⟩
         ·replace c51 := Bool.eq_false_iff.mpr c51
          subst c51
          have H1 : (some true) = some true := rfl
          clear H
          have H := H1
          clear H1
          have hS_ := Option.some.inj H
          clear hS_
          try go_wp2_with (first | ((with_reducible refine gate_callee (f := 37) rfl ?_); refine goesL_ (some 67) rfl rfl Try.func37 (by kernel_rfl) rfl #[.slice A1 l1.length c1] rfl (by (try simp only [List.map_toArray, List.map_cons, List.map_nil]); first | done | rfl | (simp only [List.length_drop, List.length_take]; rfl)) ?_; (with_reducible refine (spec_DrawDecodeSnap.calls kj10 _ _ l1 t128 _ ?side1 ?side2 A47.out).mono ?_); (case side1 => repeat (first | exact (Kd.C_below HR1.out HB.out) | (with_reducible refine Kd.C_alloc ?_ _) | (with_reducible refine Kd.C_drewN ?_ _) | (with_reducible refine Kd.C_drew ?_))); (case side2 => exact HC1.out); rintro e w68 ⟨v129, rfl, ho0, hb⟩; refine ⟨_, rfl, ?_⟩; have n0_ := Aside0.mk (Kd.R_below (by (with_reducible repeat (first | apply Kd.R_alloc | apply Kd.R_drewN | apply Kd.R_drew)); exact HO_110002.out) hb); have n1_ := Aside0.mk (Kd.R_below (by (with_reducible repeat (first | apply Kd.R_alloc | apply Kd.R_drewN | apply Kd.R_drew)); exact HO_110003.out) hb); have n2_ := Aside0.mk (Kd.R_below (by (with_reducible repeat (first | apply Kd.R_alloc | apply Kd.R_drewN | apply Kd.R_drew)); exact HO_126003.out) hb); have n3_ := Aside0.mk (Kd.R_below (by (with_reducible repeat (first | apply Kd.R_alloc | apply Kd.R_drewN | apply Kd.R_drew)); exact HO_126004.out) hb); have n4_ := Aside0.mk (Kd.R_lower ho0 (below_size (by repeat (first | (with_reducible first | exact HB.out | apply below_alloc | apply pw_below_drewN | apply below_drew1 | refine below_set ?_ GE109.out | refine below_set ?_ GE125.out) | exact HB.out)))); have n5_ := Aside0.mk (blk_below (g := gb109) (o := .cells #[.int .u32 t101, .int .u32 t102, .slice Ao15 t103.length co15, .slice Ao16 t106.length co16] 44 (0, 0)) (by (with_reducible repeat (first | refine blk_drewN ?_ _ | refine blk_drew ?_ | refine blk_alloc ?_ _)); exact BK109.out) hb); have n6_ := Aside0.mk (blk_below (g := gb125) (o := .cells #[.bool t116, .int .u32 t117, .int .u32 t118, .slice Ao26 t119.length co26, .slice Ao27 t122.length co27] 50 (0, 0)) (by (with_reducible repeat (first | refine blk_drewN ?_ _ | refine blk_drew ?_ | refine blk_alloc ?_ _)); exact BK125.out) hb); have n7_ := Aside0.mk (below_step (by repeat (first | (with_reducible first | exact HB.out | apply below_alloc | apply pw_below_drewN | apply below_drew1 | refine below_set ?_ GE109.out | refine below_set ?_ GE125.out) | exact HB.out)) hb); clear HO_110002; clear HO_110003; clear HO_126003; clear HO_126004; clear BK109; clear BK125; clear HB; have HO_110002 := n0_; have HO_110003 := n1_; have HO_126003 := n2_; have HO_126004 := n3_; have HO130 := n4_; have BK109 := n5_; have BK125 := n6_; have HB := n7_; clear n0_ n1_ n2_ n3_ n4_ n5_ n6_ n7_; (try clear hb); (try clear hb2); (try clear hk); (try clear hi); (try clear ho0); obtain ⟨Ao69, co69, eo69⟩ := Kd.R_slice HO130.out; subst eo69) | ((with_reducible refine gate_callee (f := 31) rfl ?_); refine goesL_ (some 69) rfl rfl Try.func31 (by kernel_rfl) rfl #[.slice Ao69 t128.length co69] rfl (by (try simp only [List.map_toArray, List.map_cons, List.map_nil]); first | done | rfl | (simp only [List.length_drop, List.length_take]; rfl)) ?_; (with_reducible refine (impl_DecodeSnap.calls _ _ t128 false t132 t133 t134 t137 _ ?side1 ?side2 A48.out).mono ?_); (case side1 => repeat (first | exact (Kd.R_reads' HO130.out).2.2 | (with_reducible refine Kd.C_alloc ?_ _) | (with_reducible refine Kd.C_drewN ?_ _) | (with_reducible refine Kd.C_drew ?_))); (case side2 => exact (Kd.R_reads' HO130.out).2.1); rintro e w70 ⟨v135, v138, rfl, ho0, ho1, hb⟩; refine ⟨_, rfl, ?_⟩; have n0_ := Aside0.mk (Kd.R_mono (Kd.R_told (Kd.R_told (Kd.R_old (by (with_reducible repeat (first | apply Kd.R_alloc | apply Kd.R_drewN | apply Kd.R_drew)); exact HO_110002.out) hb) (Kd.R_base ho0)) (Kd.R_base ho1)) (fun _ h_ => h_.1)); have n1_ := Aside0.mk (Kd.R_mono (Kd.R_told (Kd.R_told (Kd.R_old (by (with_reducible repeat (first | apply Kd.R_alloc | apply Kd.R_drewN | apply Kd.R_drew)); exact HO_110003.out) hb) (Kd.R_base ho0)) (Kd.R_base ho1)) (fun _ h_ => h_.1)); have n2_ := Aside0.mk (Kd.R_mono (Kd.R_told (Kd.R_told (Kd.R_old (by (with_reducible repeat (first | apply Kd.R_alloc | apply Kd.R_drewN | apply Kd.R_drew)); exact HO_126003.out) hb) (Kd.R_base ho0)) (Kd.R_base ho1)) (fun _ h_ => h_.1)); have n3_ := Aside0.mk (Kd.R_mono (Kd.R_told (Kd.R_told (Kd.R_old (by (with_reducible repeat (first | apply Kd.R_alloc | apply Kd.R_drewN | apply Kd.R_drew)); exact HO_126004.out) hb) (Kd.R_base ho0)) (Kd.R_base ho1)) (fun _ h_ => h_.1)); have n4_ := Aside0.mk (Kd.R_below (by (with_reducible repeat (first | apply Kd.R_alloc | apply Kd.R_drewN | apply Kd.R_drew)); exact HO130.out) hb); have n5_ := Aside0.mk (Kd.R_lower (Kd.R_new' (Kd.R_new' (Kd.R_new' (Kd.R_new' ho0 (Kd.R_lt (by (with_reducible repeat (first | apply Kd.R_alloc | apply Kd.R_drewN | apply Kd.R_drew)); exact HO_110002.out))) (Kd.R_lt (by (with_reducible repeat (first | apply Kd.R_alloc | apply Kd.R_drewN | apply Kd.R_drew)); exact HO_110003.out))) (Kd.R_lt (by (with_reducible repeat (first | apply Kd.R_alloc | apply Kd.R_drewN | apply Kd.R_drew)); exact HO_126003.out))) (Kd.R_lt (by (with_reducible repeat (first | apply Kd.R_alloc | apply Kd.R_drewN | apply Kd.R_drew)); exact HO_126004.out))) (below_size (by repeat (first | (with_reducible first | exact HB.out | apply below_alloc | apply pw_below_drewN | apply below_drew1 | refine below_set ?_ GE109.out | refine below_set ?_ GE125.out) | exact HB.out)))); have n6_ := Aside0.mk (Kd.R_lower (Kd.R_new' (Kd.R_new' (Kd.R_new' (Kd.R_new' ho1 (Kd.R_lt (by (with_reducible repeat (first | apply Kd.R_alloc | apply Kd.R_drewN | apply Kd.R_drew)); exact HO_110002.out))) (Kd.R_lt (by (with_reducible repeat (first | apply Kd.R_alloc | apply Kd.R_drewN | apply Kd.R_drew)); exact HO_110003.out))) (Kd.R_lt (by (with_reducible repeat (first | apply Kd.R_alloc | apply Kd.R_drewN | apply Kd.R_drew)); exact HO_126003.out))) (Kd.R_lt (by (with_reducible repeat (first | apply Kd.R_alloc | apply Kd.R_drewN | apply Kd.R_drew)); exact HO_126004.out))) (below_size (by repeat (first | (with_reducible first | exact HB.out | apply below_alloc | apply pw_below_drewN | apply below_drew1 | refine below_set ?_ GE109.out | refine below_set ?_ GE125.out) | exact HB.out)))); have n7_ := Aside0.mk (blk_below (g := gb109) (o := .cells #[.int .u32 t101, .int .u32 t102, .slice Ao15 t103.length co15, .slice Ao16 t106.length co16] 44 (0, 0)) (by (with_reducible repeat (first | refine blk_drewN ?_ _ | refine blk_drew ?_ | refine blk_alloc ?_ _)); exact BK109.out) hb); have n8_ := Aside0.mk (blk_below (g := gb125) (o := .cells #[.bool t116, .int .u32 t117, .int .u32 t118, .slice Ao26 t119.length co26, .slice Ao27 t122.length co27] 50 (0, 0)) (by (with_reducible repeat (first | refine blk_drewN ?_ _ | refine blk_drew ?_ | refine blk_alloc ?_ _)); exact BK125.out) hb); have n9_ := Aside0.mk (below_step (by repeat (first | (with_reducible first | exact HB.out | apply below_alloc | apply pw_below_drewN | apply below_drew1 | refine below_set ?_ GE109.out | refine below_set ?_ GE125.out) | exact HB.out)) hb); clear HO_110002; clear HO_110003; clear HO_126003; clear HO_126004; clear HO130; clear BK109; clear BK125; clear HB; have HO_110002 := n0_; have HO_110003 := n1_; have HO_126003 := n2_; have HO_126004 := n3_; have HO130 := n4_; have HO136 := n5_; have HO139 := n6_; have BK109 := n7_; have BK125 := n8_; have HB := n9_; clear n0_ n1_ n2_ n3_ n4_ n5_ n6_ n7_ n8_ n9_; (try clear hb); (try clear hb2); (try clear hk); (try clear hi); (try clear ho0); (try clear ho1)) | ((with_reducible refine gate_dst (N := 9) rfl ?_); (try (refine gate_guard (by rfl) ?_; dsimp only)); refine box_event ?hg (N := 9) ?hd (cs := #[.bool false, .int .u32 0, .int .u32 0, .slice none 0 0, .slice none 0 0]) (t := 50) ?hr ?_; (case hd => rfl); (case hg => rfl); (case hr => first | (go_simp; done) | (go_simp; rfl)); intro gb140 hg w71 hbox hb; have n0_ := Aside0.mk (Kd.R_below (by (with_reducible repeat (first | apply Kd.R_alloc | apply Kd.R_drewN | apply Kd.R_drew)); exact HO_110002.out) hb); have n1_ := Aside0.mk (Kd.R_below (by (with_reducible repeat (first | apply Kd.R_alloc | apply Kd.R_drewN | apply Kd.R_drew)); exact HO_110003.out) hb); have n2_ := Aside0.mk (Kd.R_below (by (with_reducible repeat (first | apply Kd.R_alloc | apply Kd.R_drewN | apply Kd.R_drew)); exact HO_126003.out) hb); have n3_ := Aside0.mk (Kd.R_below (by (with_reducible repeat (first | apply Kd.R_alloc | apply Kd.R_drewN | apply Kd.R_drew)); exact HO_126004.out) hb); have n4_ := Aside0.mk (Kd.R_below (by (with_reducible repeat (first | apply Kd.R_alloc | apply Kd.R_drewN | apply Kd.R_drew)); exact HO130.out) hb); have n5_ := Aside0.mk (Kd.R_below (by (with_reducible repeat (first | apply Kd.R_alloc | apply Kd.R_drewN | apply Kd.R_drew)); exact HO136.out) hb); have n6_ := Aside0.mk (Kd.R_below (by (with_reducible repeat (first | apply Kd.R_alloc | apply Kd.R_drewN | apply Kd.R_drew)); exact HO139.out) hb); have n7_ := Aside0.mk (blk_below (g := gb109) (o := .cells #[.int .u32 t101, .int .u32 t102, .slice Ao15 t103.length co15, .slice Ao16 t106.length co16] 44 (0, 0)) (by (with_reducible repeat (first | refine blk_drewN ?_ _ | refine blk_drew ?_ | refine blk_alloc ?_ _)); exact BK109.out) hb); have n8_ := Aside0.mk (blk_below (g := gb125) (o := .cells #[.bool t116, .int .u32 t117, .int .u32 t118, .slice Ao26 t119.length co26, .slice Ao27 t122.length co27] 50 (0, 0)) (by (with_reducible repeat (first | refine blk_drewN ?_ _ | refine blk_drew ?_ | refine blk_alloc ?_ _)); exact BK125.out) hb); have n9_ := Aside0.mk (below_step (by repeat (first | (with_reducible first | exact HB.out | apply below_alloc | apply pw_below_drewN | apply below_drew1 | refine below_set ?_ GE109.out | refine below_set ?_ GE125.out) | exact HB.out)) hb); have n10_ := Aside0.mk (hbox); have n11_ := Aside0.mk ((by rw [hg]; exact (below_size (by repeat (first | (with_reducible first | exact HB.out | apply below_alloc | apply pw_below_drewN | apply below_drew1 | refine below_set ?_ GE109.out | refine below_set ?_ GE125.out) | exact HB.out))) : w.heap.size ≤ gb140)); have n12_ := Aside0.mk ((by rw [hg]; exact (below_size (by repeat (first | (with_reducible first | exact HB.out | apply below_alloc | apply pw_below_drewN | apply below_drew1 | refine below_set ?_ GE109.out | refine below_set ?_ GE125.out) | exact HB.out))) : w.heap.size ≤ gb140)); have n13_ := Aside0.mk ((by rw [hg]; exact Nat.ne_of_lt (blk_lt (g := gb109) (o := .cells #[.int .u32 t101, .int .u32 t102, .slice Ao15 t103.length co15, .slice Ao16 t106.length co16] 44 (0, 0)) (by (with_reducible repeat (first | refine blk_drewN ?_ _ | refine blk_drew ?_ | refine blk_alloc ?_ _)); exact BK109.out)) : gb109 ≠ gb140)); have n14_ := Aside0.mk ((by rw [hg]; exact Nat.ne_of_gt (blk_lt (g := gb109) (o := .cells #[.int .u32 t101, .int .u32 t102, .slice Ao15 t103.length co15, .slice Ao16 t106.length co16] 44 (0, 0)) (by (with_reducible repeat (first | refine blk_drewN ?_ _ | refine blk_drew ?_ | refine blk_alloc ?_ _)); exact BK109.out)) : gb140 ≠ gb109)); have n15_ := Aside0.mk ((by rw [hg]; exact Nat.ne_of_lt (blk_lt (g := gb125) (o := .cells #[.bool t116, .int .u32 t117, .int .u32 t118, .slice Ao26 t119.length co26, .slice Ao27 t122.length co27] 50 (0, 0)) (by (with_reducible repeat (first | refine blk_drewN ?_ _ | refine blk_drew ?_ | refine blk_alloc ?_ _)); exact BK125.out)) : gb125 ≠ gb140)); have n16_ := Aside0.mk ((by rw [hg]; exact Nat.ne_of_gt (blk_lt (g := gb125) (o := .cells #[.bool t116, .int .u32 t117, .int .u32 t118, .slice Ao26 t119.length co26, .slice Ao27 t122.length co27] 50 (0, 0)) (by (with_reducible repeat (first | refine blk_drewN ?_ _ | refine blk_drew ?_ | refine blk_alloc ?_ _)); exact BK125.out)) : gb140 ≠ gb125)); clear HO_110002; clear HO_110003; clear HO_126003; clear HO_126004; clear HO130; clear HO136; clear HO139; clear BK109; clear BK125; clear HB; have HO_110002 := n0_; have HO_110003 := n1_; have HO_126003 := n2_; have HO_126004 := n3_; have HO130 := n4_; have HO136 := n5_; have HO139 := n6_; have BK109 := n7_; have BK125 := n8_; have HB := n9_; have BK140 := n10_; have GW140 := n11_; have GE140 := n12_; have NB109_140 := n13_; have NB140_109 := n14_; have NB125_140 := n15_; have NB140_125 := n16_; clear n0_ n1_ n2_ n3_ n4_ n5_ n6_ n7_ n8_ n9_ n10_ n11_ n12_ n13_ n14_ n15_ n16_; clear hb hbox hg; have hnb72 := NB140_109.out; have hnc72 := NB109_140.out; have hnb73 := NB140_125.out; have hnc73 := NB125_140.out; have hcz74_0 : w71.cell? ⟨gb140, 0, none⟩ = some (.bool false) := (blk_cell BK140.out 0).trans rfl; have hcz74_1 : w71.cell? ⟨gb140, 1, none⟩ = some (.int .u32 0) := (blk_cell BK140.out 1).trans rfl; have hcz74_2 : w71.cell? ⟨gb140, 2, none⟩ = some (.int .u32 0) := (blk_cell BK140.out 2).trans rfl; have hcz74_3 : w71.cell? ⟨gb140, 3, none⟩ = some (.slice none 0 0) := (blk_cell BK140.out 3).trans rfl; have hcz74_4 : w71.cell? ⟨gb140, 4, none⟩ = some (.slice none 0 0) := (blk_cell BK140.out 4).trans rfl; have hfz74_0 := blk_frozen BK140.out 0; have hfz74_1 := blk_frozen BK140.out 1; have hfz74_2 := blk_frozen BK140.out 2; have hfz74_3 := blk_frozen BK140.out 3; have hfz74_4 := blk_frozen BK140.out 4; obtain ⟨Ao75, co75, eo75⟩ := Kd.R_slice HO136.out; subst eo75; obtain ⟨Ao76, co76, eo76⟩ := Kd.R_slice HO139.out; subst eo76))
          have n0_ : Aside0 (Kd.R (Kd.int .i64) 2 (((((w71.setCell ⟨gb140, 0, none⟩ (.bool false)).setCell ⟨gb140, 1, none⟩ (.int .u32 t132)).setCell ⟨gb140, 2, none⟩ (.int .u32 t133)).setCell ⟨gb140, 3, none⟩ (.slice Ao75 t134.length co75)).setCell ⟨gb140, 4, none⟩ (.slice Ao76 t137.length co76)) w.heap.size (fun k_ => some k_ ≠ (.slice Ao16 t106.length co16 : Value).ownBlock ∧ some k_ ≠ (.slice Ao26 t119.length co26 : Value).ownBlock ∧ some k_ ≠ (.slice Ao27 t122.length co27 : Value).ownBlock ∧ some k_ ≠ (.slice Ao75 t134.length co75 : Value).ownBlock ∧ some k_ ≠ (.slice Ao76 t137.length co76 : Value).ownBlock) (.slice Ao15 t103.length co15) t103) := ⟨by (with_reducible repeat (first | apply Kd.R_alloc | apply Kd.R_drewN | apply Kd.R_drew)); exact Kd.R_mono (Kd.R_far (p := ⟨gb140, 4, none⟩) (Kd.R_far (p := ⟨gb140, 3, none⟩) (Kd.R_far (p := ⟨gb140, 2, none⟩) (Kd.R_far (p := ⟨gb140, 1, none⟩) (Kd.R_far (p := ⟨gb140, 0, none⟩) (Kd.R_types HO_110002.out BK140.out (by decide)) (fun _ hk => hk.2) (.bool false)) (fun _ hk => hk.2) (.int .u32 t132)) (fun _ hk => hk.2) (.int .u32 t133)) (fun _ hk => hk.2) (.slice Ao75 t134.length co75)) (fun _ hk => hk.2) (.slice Ao76 t137.length co76)) (fun _ hk => ⟨hk.1.1.1.1, ⟨hk.1.1.1.2.1, ⟨hk.1.1.1.2.2, ⟨hk.1.1.2, hk.1.2⟩⟩⟩⟩)⟩
          have n1_ : Aside0 (Kd.R (Kd.int .i64) 2 (((((w71.setCell ⟨gb140, 0, none⟩ (.bool false)).setCell ⟨gb140, 1, none⟩ (.int .u32 t132)).setCell ⟨gb140, 2, none⟩ (.int .u32 t133)).setCell ⟨gb140, 3, none⟩ (.slice Ao75 t134.length co75)).setCell ⟨gb140, 4, none⟩ (.slice Ao76 t137.length co76)) w.heap.size (fun k_ => some k_ ≠ (.slice Ao15 t103.length co15 : Value).ownBlock ∧ some k_ ≠ (.slice Ao26 t119.length co26 : Value).ownBlock ∧ some k_ ≠ (.slice Ao27 t122.length co27 : Value).ownBlock ∧ some k_ ≠ (.slice Ao75 t134.length co75 : Value).ownBlock ∧ some k_ ≠ (.slice Ao76 t137.length co76 : Value).ownBlock) (.slice Ao16 t106.length co16) t106) := ⟨by (with_reducible repeat (first | apply Kd.R_alloc | apply Kd.R_drewN | apply Kd.R_drew)); exact Kd.R_mono (Kd.R_far (p := ⟨gb140, 4, none⟩) (Kd.R_far (p := ⟨gb140, 3, none⟩) (Kd.R_far (p := ⟨gb140, 2, none⟩) (Kd.R_far (p := ⟨gb140, 1, none⟩) (Kd.R_far (p := ⟨gb140, 0, none⟩) (Kd.R_types HO_110003.out BK140.out (by decide)) (fun _ hk => hk.2) (.bool false)) (fun _ hk => hk.2) (.int .u32 t132)) (fun _ hk => hk.2) (.int .u32 t133)) (fun _ hk => hk.2) (.slice Ao75 t134.length co75)) (fun _ hk => hk.2) (.slice Ao76 t137.length co76)) (fun _ hk => ⟨hk.1.1.1.1, ⟨hk.1.1.1.2.1, ⟨hk.1.1.1.2.2, ⟨hk.1.1.2, hk.1.2⟩⟩⟩⟩)⟩
          have n2_ : Aside0 (Kd.R (Kd.int .i64) 2 (((((w71.setCell ⟨gb140, 0, none⟩ (.bool false)).setCell ⟨gb140, 1, none⟩ (.int .u32 t132)).setCell ⟨gb140, 2, none⟩ (.int .u32 t133)).setCell ⟨gb140, 3, none⟩ (.slice Ao75 t134.length co75)).setCell ⟨gb140, 4, none⟩ (.slice Ao76 t137.length co76)) w.heap.size (fun k_ => some k_ ≠ (.slice Ao15 t103.length co15 : Value).ownBlock ∧ some k_ ≠ (.slice Ao16 t106.length co16 : Value).ownBlock ∧ some k_ ≠ (.slice Ao27 t122.length co27 : Value).ownBlock ∧ some k_ ≠ (.slice Ao75 t134.length co75 : Value).ownBlock ∧ some k_ ≠ (.slice Ao76 t137.length co76 : Value).ownBlock) (.slice Ao26 t119.length co26) t119) := ⟨by (with_reducible repeat (first | apply Kd.R_alloc | apply Kd.R_drewN | apply Kd.R_drew)); exact Kd.R_mono (Kd.R_far (p := ⟨gb140, 4, none⟩) (Kd.R_far (p := ⟨gb140, 3, none⟩) (Kd.R_far (p := ⟨gb140, 2, none⟩) (Kd.R_far (p := ⟨gb140, 1, none⟩) (Kd.R_far (p := ⟨gb140, 0, none⟩) (Kd.R_types HO_126003.out BK140.out (by decide)) (fun _ hk => hk.2) (.bool false)) (fun _ hk => hk.2) (.int .u32 t132)) (fun _ hk => hk.2) (.int .u32 t133)) (fun _ hk => hk.2) (.slice Ao75 t134.length co75)) (fun _ hk => hk.2) (.slice Ao76 t137.length co76)) (fun _ hk => ⟨hk.1.1.1.1, ⟨hk.1.1.1.2.1, ⟨hk.1.1.1.2.2, ⟨hk.1.1.2, hk.1.2⟩⟩⟩⟩)⟩
          have n3_ : Aside0 (Kd.R (Kd.int .i64) 2 (((((w71.setCell ⟨gb140, 0, none⟩ (.bool false)).setCell ⟨gb140, 1, none⟩ (.int .u32 t132)).setCell ⟨gb140, 2, none⟩ (.int .u32 t133)).setCell ⟨gb140, 3, none⟩ (.slice Ao75 t134.length co75)).setCell ⟨gb140, 4, none⟩ (.slice Ao76 t137.length co76)) w.heap.size (fun k_ => some k_ ≠ (.slice Ao15 t103.length co15 : Value).ownBlock ∧ some k_ ≠ (.slice Ao16 t106.length co16 : Value).ownBlock ∧ some k_ ≠ (.slice Ao26 t119.length co26 : Value).ownBlock ∧ some k_ ≠ (.slice Ao75 t134.length co75 : Value).ownBlock ∧ some k_ ≠ (.slice Ao76 t137.length co76 : Value).ownBlock) (.slice Ao27 t122.length co27) t122) := ⟨by (with_reducible repeat (first | apply Kd.R_alloc | apply Kd.R_drewN | apply Kd.R_drew)); exact Kd.R_mono (Kd.R_far (p := ⟨gb140, 4, none⟩) (Kd.R_far (p := ⟨gb140, 3, none⟩) (Kd.R_far (p := ⟨gb140, 2, none⟩) (Kd.R_far (p := ⟨gb140, 1, none⟩) (Kd.R_far (p := ⟨gb140, 0, none⟩) (Kd.R_types HO_126004.out BK140.out (by decide)) (fun _ hk => hk.2) (.bool false)) (fun _ hk => hk.2) (.int .u32 t132)) (fun _ hk => hk.2) (.int .u32 t133)) (fun _ hk => hk.2) (.slice Ao75 t134.length co75)) (fun _ hk => hk.2) (.slice Ao76 t137.length co76)) (fun _ hk => ⟨hk.1.1.1.1, ⟨hk.1.1.1.2.1, ⟨hk.1.1.1.2.2, ⟨hk.1.1.2, hk.1.2⟩⟩⟩⟩)⟩
          have n4_ : Aside0 (Kd.R (Kd.int .u8) 5 (((((w71.setCell ⟨gb140, 0, none⟩ (.bool false)).setCell ⟨gb140, 1, none⟩ (.int .u32 t132)).setCell ⟨gb140, 2, none⟩ (.int .u32 t133)).setCell ⟨gb140, 3, none⟩ (.slice Ao75 t134.length co75)).setCell ⟨gb140, 4, none⟩ (.slice Ao76 t137.length co76)) w.heap.size (fun _ => True) (.slice Ao69 t128.length co69) t128) := ⟨by (with_reducible repeat (first | apply Kd.R_alloc | apply Kd.R_drewN | apply Kd.R_drew)); exact Kd.R_mono (Kd.R_far (p := ⟨gb140, 4, none⟩) (Kd.R_far (p := ⟨gb140, 3, none⟩) (Kd.R_far (p := ⟨gb140, 2, none⟩) (Kd.R_far (p := ⟨gb140, 1, none⟩) (Kd.R_far (p := ⟨gb140, 0, none⟩) (Kd.R_types HO130.out BK140.out (by decide)) (fun _ hk => hk.2) (.bool false)) (fun _ hk => hk.2) (.int .u32 t132)) (fun _ hk => hk.2) (.int .u32 t133)) (fun _ hk => hk.2) (.slice Ao75 t134.length co75)) (fun _ hk => hk.2) (.slice Ao76 t137.length co76)) (fun _ hk => trivial)⟩
          have n5_ : Aside0 (Kd.R (Kd.int .i64) 2 (((((w71.setCell ⟨gb140, 0, none⟩ (.bool false)).setCell ⟨gb140, 1, none⟩ (.int .u32 t132)).setCell ⟨gb140, 2, none⟩ (.int .u32 t133)).setCell ⟨gb140, 3, none⟩ (.slice Ao75 t134.length co75)).setCell ⟨gb140, 4, none⟩ (.slice Ao76 t137.length co76)) w.heap.size (fun k_ => some k_ ≠ (.slice Ao15 t103.length co15 : Value).ownBlock ∧ some k_ ≠ (.slice Ao16 t106.length co16 : Value).ownBlock ∧ some k_ ≠ (.slice Ao26 t119.length co26 : Value).ownBlock ∧ some k_ ≠ (.slice Ao27 t122.length co27 : Value).ownBlock ∧ some k_ ≠ (.slice Ao76 t137.length co76 : Value).ownBlock) (.slice Ao75 t134.length co75) t134) := ⟨by (with_reducible repeat (first | apply Kd.R_alloc | apply Kd.R_drewN | apply Kd.R_drew)); exact Kd.R_mono (Kd.R_far (p := ⟨gb140, 4, none⟩) (Kd.R_far (p := ⟨gb140, 3, none⟩) (Kd.R_far (p := ⟨gb140, 2, none⟩) (Kd.R_far (p := ⟨gb140, 1, none⟩) (Kd.R_far (p := ⟨gb140, 0, none⟩) (Kd.R_types HO136.out BK140.out (by decide)) (fun _ hk => hk.2) (.bool false)) (fun _ hk => hk.2) (.int .u32 t132)) (fun _ hk => hk.2) (.int .u32 t133)) (fun _ hk => hk.2) (.slice Ao75 t134.length co75)) (fun _ hk => hk.2) (.slice Ao76 t137.length co76)) (fun _ hk => ⟨hk.1.1.1.1.2, ⟨hk.1.1.1.2, ⟨hk.1.1.2, ⟨hk.1.2, hk.1.1.1.1.1⟩⟩⟩⟩)⟩
          have n6_ : Aside0 (Kd.R (Kd.int .i64) 2 (((((w71.setCell ⟨gb140, 0, none⟩ (.bool false)).setCell ⟨gb140, 1, none⟩ (.int .u32 t132)).setCell ⟨gb140, 2, none⟩ (.int .u32 t133)).setCell ⟨gb140, 3, none⟩ (.slice Ao75 t134.length co75)).setCell ⟨gb140, 4, none⟩ (.slice Ao76 t137.length co76)) w.heap.size (fun k_ => some k_ ≠ (.slice Ao15 t103.length co15 : Value).ownBlock ∧ some k_ ≠ (.slice Ao16 t106.length co16 : Value).ownBlock ∧ some k_ ≠ (.slice Ao26 t119.length co26 : Value).ownBlock ∧ some k_ ≠ (.slice Ao27 t122.length co27 : Value).ownBlock ∧ some k_ ≠ (.slice Ao75 t134.length co75 : Value).ownBlock) (.slice Ao76 t137.length co76) t137) := ⟨by (with_reducible repeat (first | apply Kd.R_alloc | apply Kd.R_drewN | apply Kd.R_drew)); exact Kd.R_mono (Kd.R_far (p := ⟨gb140, 4, none⟩) (Kd.R_far (p := ⟨gb140, 3, none⟩) (Kd.R_far (p := ⟨gb140, 2, none⟩) (Kd.R_far (p := ⟨gb140, 1, none⟩) (Kd.R_far (p := ⟨gb140, 0, none⟩) (Kd.R_types HO139.out BK140.out (by decide)) (fun _ hk => hk.2) (.bool false)) (fun _ hk => hk.2) (.int .u32 t132)) (fun _ hk => hk.2) (.int .u32 t133)) (fun _ hk => hk.2) (.slice Ao75 t134.length co75)) (fun _ hk => hk.2) (.slice Ao76 t137.length co76)) (fun _ hk => ⟨hk.1.1.1.1.2, ⟨hk.1.1.1.2, ⟨hk.1.1.2, ⟨hk.1.2, hk.1.1.1.1.1⟩⟩⟩⟩)⟩
          have n7_ : Aside0 ((((((w71.setCell ⟨gb140, 0, none⟩ (.bool false)).setCell ⟨gb140, 1, none⟩ (.int .u32 t132)).setCell ⟨gb140, 2, none⟩ (.int .u32 t133)).setCell ⟨gb140, 3, none⟩ (.slice Ao75 t134.length co75)).setCell ⟨gb140, 4, none⟩ (.slice Ao76 t137.length co76)).heap[gb109]? = some (.cells #[.int .u32 t101, .int .u32 t102, .slice Ao15 t103.length co15, .slice Ao16 t106.length co16] 44 (0, 0))) := ⟨by (with_reducible repeat (first | refine blk_drewN ?_ _ | refine blk_drew ?_ | refine blk_alloc ?_ _)); refine blk_far ?_ NB109_140.out _; (with_reducible repeat (first | refine blk_drewN ?_ _ | refine blk_drew ?_ | refine blk_alloc ?_ _)); refine blk_far ?_ NB109_140.out _; (with_reducible repeat (first | refine blk_drewN ?_ _ | refine blk_drew ?_ | refine blk_alloc ?_ _)); refine blk_far ?_ NB109_140.out _; (with_reducible repeat (first | refine blk_drewN ?_ _ | refine blk_drew ?_ | refine blk_alloc ?_ _)); refine blk_far ?_ NB109_140.out _; (with_reducible repeat (first | refine blk_drewN ?_ _ | refine blk_drew ?_ | refine blk_alloc ?_ _)); refine blk_far ?_ NB109_140.out _; (with_reducible repeat (first | refine blk_drewN ?_ _ | refine blk_drew ?_ | refine blk_alloc ?_ _)); exact BK109.out⟩
          have n8_ : Aside0 ((((((w71.setCell ⟨gb140, 0, none⟩ (.bool false)).setCell ⟨gb140, 1, none⟩ (.int .u32 t132)).setCell ⟨gb140, 2, none⟩ (.int .u32 t133)).setCell ⟨gb140, 3, none⟩ (.slice Ao75 t134.length co75)).setCell ⟨gb140, 4, none⟩ (.slice Ao76 t137.length co76)).heap[gb125]? = some (.cells #[.bool t116, .int .u32 t117, .int .u32 t118, .slice Ao26 t119.length co26, .slice Ao27 t122.length co27] 50 (0, 0))) := ⟨by (with_reducible repeat (first | refine blk_drewN ?_ _ | refine blk_drew ?_ | refine blk_alloc ?_ _)); refine blk_far ?_ NB125_140.out _; (with_reducible repeat (first | refine blk_drewN ?_ _ | refine blk_drew ?_ | refine blk_alloc ?_ _)); refine blk_far ?_ NB125_140.out _; (with_reducible repeat (first | refine blk_drewN ?_ _ | refine blk_drew ?_ | refine blk_alloc ?_ _)); refine blk_far ?_ NB125_140.out _; (with_reducible repeat (first | refine blk_drewN ?_ _ | refine blk_drew ?_ | refine blk_alloc ?_ _)); refine blk_far ?_ NB125_140.out _; (with_reducible repeat (first | refine blk_drewN ?_ _ | refine blk_drew ?_ | refine blk_alloc ?_ _)); refine blk_far ?_ NB125_140.out _; (with_reducible repeat (first | refine blk_drewN ?_ _ | refine blk_drew ?_ | refine blk_alloc ?_ _)); exact BK125.out⟩
          have n9_ : Aside0 ((((((w71.setCell ⟨gb140, 0, none⟩ (.bool false)).setCell ⟨gb140, 1, none⟩ (.int .u32 t132)).setCell ⟨gb140, 2, none⟩ (.int .u32 t133)).setCell ⟨gb140, 3, none⟩ (.slice Ao75 t134.length co75)).setCell ⟨gb140, 4, none⟩ (.slice Ao76 t137.length co76)).heap[gb140]? = some (.cells #[.bool false, .int .u32 t132, .int .u32 t133, .slice Ao75 t134.length co75, .slice Ao76 t137.length co76] 50 (0, 0))) := ⟨by (with_reducible repeat (first | refine blk_drewN ?_ _ | refine blk_drew ?_ | refine blk_alloc ?_ _)); refine blk_put (cs := #[.bool false, .int .u32 t132, .int .u32 t133, .slice Ao75 t134.length co75, .slice none 0 0]) ?_ 4 _ rfl; (with_reducible repeat (first | refine blk_drewN ?_ _ | refine blk_drew ?_ | refine blk_alloc ?_ _)); refine blk_put (cs := #[.bool false, .int .u32 t132, .int .u32 t133, .slice none 0 0, .slice none 0 0]) ?_ 3 _ rfl; (with_reducible repeat (first | refine blk_drewN ?_ _ | refine blk_drew ?_ | refine blk_alloc ?_ _)); refine blk_put (cs := #[.bool false, .int .u32 t132, .int .u32 0, .slice none 0 0, .slice none 0 0]) ?_ 2 _ rfl; (with_reducible repeat (first | refine blk_drewN ?_ _ | refine blk_drew ?_ | refine blk_alloc ?_ _)); refine blk_put (cs := #[.bool false, .int .u32 0, .int .u32 0, .slice none 0 0, .slice none 0 0]) ?_ 1 _ rfl; (with_reducible repeat (first | refine blk_drewN ?_ _ | refine blk_drew ?_ | refine blk_alloc ?_ _)); refine blk_put (cs := #[.bool false, .int .u32 0, .int .u32 0, .slice none 0 0, .slice none 0 0]) ?_ 0 _ rfl; (with_reducible repeat (first | refine blk_drewN ?_ _ | refine blk_drew ?_ | refine blk_alloc ?_ _)); exact BK140.out⟩
          have n10_ : Aside0 (Below w.heap.size w (((((w71.setCell ⟨gb140, 0, none⟩ (.bool false)).setCell ⟨gb140, 1, none⟩ (.int .u32 t132)).setCell ⟨gb140, 2, none⟩ (.int .u32 t133)).setCell ⟨gb140, 3, none⟩ (.slice Ao75 t134.length co75)).setCell ⟨gb140, 4, none⟩ (.slice Ao76 t137.length co76))) := ⟨by repeat (first | (with_reducible first | exact HB.out | apply below_alloc | apply pw_below_drewN | apply below_drew1 | refine below_set ?_ GE109.out | refine below_set ?_ GE125.out | refine below_set ?_ GE140.out) | exact HB.out)⟩
          (try clear HO_110002)
          (try clear HO_110003)
          (try clear HO_126003)
          (try clear HO_126004)
          (try clear HO130)
          (try clear HO136)
          (try clear HO139)
          (try clear BK109)
          (try clear BK125)
          (try clear BK140)
          (try clear HB)
          generalize (((((w71.setCell ⟨gb140, 0, none⟩ (.bool false)).setCell ⟨gb140, 1, none⟩ (.int .u32 t132)).setCell ⟨gb140, 2, none⟩ (.int .u32 t133)).setCell ⟨gb140, 3, none⟩ (.slice Ao75 t134.length co75)).setCell ⟨gb140, 4, none⟩ (.slice Ao76 t137.length co76)) = w77 at n0_ n1_ n2_ n3_ n4_ n5_ n6_ n7_ n8_ n9_ n10_ ⊢
          have HO_110002 := n0_
          have HO_110003 := n1_
          have HO_126003 := n2_
          have HO_126004 := n3_
          have HO130 := n4_
          have HO136 := n5_
          have HO139 := n6_
          have BK109 := n7_
          have BK125 := n8_
          have BK140 := n9_
          have HB := n10_
          clear n0_ n1_ n2_ n3_ n4_ n5_ n6_ n7_ n8_ n9_ n10_
          have n0_ := Aside0.mk (Kd.R_drew HO_110002.out)
          have n1_ := Aside0.mk (Kd.R_drew HO_110003.out)
          have n2_ := Aside0.mk (Kd.R_drew HO_126003.out)
          have n3_ := Aside0.mk (Kd.R_drew HO_126004.out)
          have n4_ := Aside0.mk (Kd.R_drew HO130.out)
          have n5_ := Aside0.mk (Kd.R_drew HO136.out)
          have n6_ := Aside0.mk (Kd.R_drew HO139.out)
          have n7_ := Aside0.mk (blk_drew BK109.out)
          have n8_ := Aside0.mk (blk_drew BK125.out)
          have n9_ := Aside0.mk (blk_drew BK140.out)
          have n10_ := Aside0.mk (below_drew1 HB.out)
          clear HO_110002
          clear HO_110003
          clear HO_126003
          clear HO_126004
          clear HO130
          clear HO136
          clear HO139
          clear BK109
          clear BK125
          clear BK140
          clear HB
          have HO_110002 := n0_
          have HO_110003 := n1_
          have HO_126003 := n2_
          have HO_126004 := n3_
          have HO130 := n4_
          have HO136 := n5_
          have HO139 := n6_
          have BK109 := n7_
          have BK125 := n8_
          have BK140 := n9_
          have HB := n10_
          clear n0_ n1_ n2_ n3_ n4_ n5_ n6_ n7_ n8_ n9_ n10_
          refine start_ (n := 19) (S := fun w' => w'.cell? ⟨gb140, 0, none⟩ = some (.bool false) ∧ w'.cell? ⟨gb140, 1, none⟩ = some (.int .u32 t132) ∧ w'.cell? ⟨gb140, 2, none⟩ = some (.int .u32 t133) ∧ w'.cell? ⟨gb140, 3, none⟩ = some (.slice Ao75 t134.length co75) ∧ w'.cell? ⟨gb140, 4, none⟩ = some (.slice Ao76 t137.length co76)) (ds := []) #[false, false, false, false, false, false, false, false, false, false, false, false, false, false, false, false, false, false, false] (by kernel_rfl) rfl rfl ⟨(blk_cell BK140.out 0).trans rfl, (blk_cell BK140.out 1).trans rfl, (blk_cell BK140.out 2).trans rfl, (blk_cell BK140.out 3).trans rfl, (blk_cell BK140.out 4).trans rfl⟩ (fun hHeld => ?_); refine with_tabW laws_FnSnap.tab12 laws_FnSnap.bits12 (fun HT_ HW_ => ?_)
          generalize w77.drew = w78 at HO_110002 HO_110003 HO_126003 HO_126004 HO130 HO136 HO139 BK109 BK125 BK140 HB hHeld ⊢
          refine pure_ (i := 0) (N := some 70) (v := ?_) (a' := ?_) #[true, false, false, false, false, false, false, false, false, false, false, false, false, false, false, false, false, false, false] rfl rfl (any_of HT_.out (by kernel_rfl)) (fun _ _ _ h => h) (Or.inl ⟨by rfl, ?_⟩) ?_ ?_
          rotate_left
          ·intro w'
           go_simp
           with_reducible rfl
          rotate_left
          ·simp only [Act.put, List.setIfInBounds_toArray, List.set_cons_zero, List.set_cons_succ, i64_w, i32_w]
           rfl
          refine pure_ (i := 2) (N := some 72) (v := ?_) (a' := ?_) #[true, false, true, false, false, false, false, false, false, false, false, false, false, false, false, false, false, false, false] rfl rfl (any_of HT_.out (by kernel_rfl)) (fun _ _ _ h => h) (Or.inl ⟨by rfl, ?_⟩) ?_ ?_
          rotate_left
          ·intro w'
           go_simp
           with_reducible rfl
          rotate_left
          ·simp only [Act.put, List.setIfInBounds_toArray, List.set_cons_zero, List.set_cons_succ, i64_w, i32_w]
           rfl
          refine take_ (i := 1) (N := some 71) (v := ?_) (a' := ?_) #[true, true, true, false, false, false, false, false, false, false, false, false, false, false, false, false, false, false, false] rfl rfl (take_ofW HT_.out HW_.out (by kernel_rfl)) (fun _ _ _ h => h) (Or.inl ⟨by rfl, ?_⟩) hHeld ?_ ?_
          rotate_left
          ·rintro w' ⟨s0, s1, s2, s3, s4⟩
           go_simp
           with_reducible rfl
          rotate_left
          ·simp only [Act.put, List.setIfInBounds_toArray, List.set_cons_zero, List.set_cons_succ, i64_w, i32_w]
           rfl
          refine one_ (i := 3) (N := some 73) #[true, true, true, true, false, false, false, false, false, false, false, false, false, false, false, false, false, false, false] rfl rfl (one_of HT_.out (by kernel_rfl)) (by decide) (fun K hK => ?_)
          refine goes_ Try.func30 (by kernel_rfl) rfl #[.slice Ao69 t128.length co69] (by rfl) rfl rfl (by (try simp only [List.map_toArray, List.map_cons, List.map_nil]); first | done | rfl | (simp only [List.length_drop, List.length_take]; rfl)) ?_
          with_reducible refine (spec_DecodeSnap.calls kj10 _ _ t128 t141 t142 t143 t144 t147 _ ?side1 ?side2 A49.out).mono ?_
          (case side1 => repeat (first | exact (Kd.R_reads' HO130.out).2.2 | (with_reducible refine Kd.C_alloc ?_ _) | (with_reducible refine Kd.C_drewN ?_ _) | (with_reducible refine Kd.C_drew ?_)))
          (case side2 => exact (Kd.R_reads' HO130.out).2.1)
          rintro e w79 ⟨v145, v148, rfl, ho0, ho1, hb⟩
          obtain ⟨Ax0_, cx0_, e_⟩ := Kd.R_slice ho0
          subst e_
          obtain ⟨Ax1_, cx1_, e_⟩ := Kd.R_slice ho1
          subst e_
          have hfd_ := laws_FnSnap.fld t141 t142 t143 Ax0_ Ax1_ t144.length t147.length cx0_ cx1_
          refine ⟨_, rfl, ?_⟩
          have n0_ := Aside0.mk (Kd.R_mono (Kd.R_told (Kd.R_told (Kd.R_old (by (with_reducible repeat (first | apply Kd.R_alloc | apply Kd.R_drewN | apply Kd.R_drew)); exact HO_110002.out) hb) (Kd.R_base ho0)) (Kd.R_base ho1)) (fun _ h_ => h_.1))
          have n1_ := Aside0.mk (Kd.R_mono (Kd.R_told (Kd.R_told (Kd.R_old (by (with_reducible repeat (first | apply Kd.R_alloc | apply Kd.R_drewN | apply Kd.R_drew)); exact HO_110003.out) hb) (Kd.R_base ho0)) (Kd.R_base ho1)) (fun _ h_ => h_.1))
          have n2_ := Aside0.mk (Kd.R_mono (Kd.R_told (Kd.R_told (Kd.R_old (by (with_reducible repeat (first | apply Kd.R_alloc | apply Kd.R_drewN | apply Kd.R_drew)); exact HO_126003.out) hb) (Kd.R_base ho0)) (Kd.R_base ho1)) (fun _ h_ => h_.1))
          have n3_ := Aside0.mk (Kd.R_mono (Kd.R_told (Kd.R_told (Kd.R_old (by (with_reducible repeat (first | apply Kd.R_alloc | apply Kd.R_drewN | apply Kd.R_drew)); exact HO_126004.out) hb) (Kd.R_base ho0)) (Kd.R_base ho1)) (fun _ h_ => h_.1))
          have n4_ := Aside0.mk (Kd.R_below (by (with_reducible repeat (first | apply Kd.R_alloc | apply Kd.R_drewN | apply Kd.R_drew)); exact HO130.out) hb)
          have n5_ := Aside0.mk (Kd.R_mono (Kd.R_told (Kd.R_told (Kd.R_old (by (with_reducible repeat (first | apply Kd.R_alloc | apply Kd.R_drewN | apply Kd.R_drew)); exact HO136.out) hb) (Kd.R_base ho0)) (Kd.R_base ho1)) (fun _ h_ => h_.1))
          have n6_ := Aside0.mk (Kd.R_mono (Kd.R_told (Kd.R_told (Kd.R_old (by (with_reducible repeat (first | apply Kd.R_alloc | apply Kd.R_drewN | apply Kd.R_drew)); exact HO139.out) hb) (Kd.R_base ho0)) (Kd.R_base ho1)) (fun _ h_ => h_.1))
          have n7_ := Aside0.mk (Kd.R_lower (Kd.R_new' (Kd.R_new' (Kd.R_new' (Kd.R_new' (Kd.R_new' (Kd.R_new' ho0 (Kd.R_lt (by (with_reducible repeat (first | apply Kd.R_alloc | apply Kd.R_drewN | apply Kd.R_drew)); exact HO_110002.out))) (Kd.R_lt (by (with_reducible repeat (first | apply Kd.R_alloc | apply Kd.R_drewN | apply Kd.R_drew)); exact HO_110003.out))) (Kd.R_lt (by (with_reducible repeat (first | apply Kd.R_alloc | apply Kd.R_drewN | apply Kd.R_drew)); exact HO_126003.out))) (Kd.R_lt (by (with_reducible repeat (first | apply Kd.R_alloc | apply Kd.R_drewN | apply Kd.R_drew)); exact HO_126004.out))) (Kd.R_lt (by (with_reducible repeat (first | apply Kd.R_alloc | apply Kd.R_drewN | apply Kd.R_drew)); exact HO136.out))) (Kd.R_lt (by (with_reducible repeat (first | apply Kd.R_alloc | apply Kd.R_drewN | apply Kd.R_drew)); exact HO139.out))) (below_size (by repeat (first | (with_reducible first | exact HB.out | apply below_alloc | apply pw_below_drewN | apply below_drew1 | refine below_set ?_ GE109.out | refine below_set ?_ GE125.out | refine below_set ?_ GE140.out) | exact HB.out))))
          have n8_ := Aside0.mk (Kd.R_lower (Kd.R_new' (Kd.R_new' (Kd.R_new' (Kd.R_new' (Kd.R_new' (Kd.R_new' ho1 (Kd.R_lt (by (with_reducible repeat (first | apply Kd.R_alloc | apply Kd.R_drewN | apply Kd.R_drew)); exact HO_110002.out))) (Kd.R_lt (by (with_reducible repeat (first | apply Kd.R_alloc | apply Kd.R_drewN | apply Kd.R_drew)); exact HO_110003.out))) (Kd.R_lt (by (with_reducible repeat (first | apply Kd.R_alloc | apply Kd.R_drewN | apply Kd.R_drew)); exact HO_126003.out))) (Kd.R_lt (by (with_reducible repeat (first | apply Kd.R_alloc | apply Kd.R_drewN | apply Kd.R_drew)); exact HO_126004.out))) (Kd.R_lt (by (with_reducible repeat (first | apply Kd.R_alloc | apply Kd.R_drewN | apply Kd.R_drew)); exact HO136.out))) (Kd.R_lt (by (with_reducible repeat (first | apply Kd.R_alloc | apply Kd.R_drewN | apply Kd.R_drew)); exact HO139.out))) (below_size (by repeat (first | (with_reducible first | exact HB.out | apply below_alloc | apply pw_below_drewN | apply below_drew1 | refine below_set ?_ GE109.out | refine below_set ?_ GE125.out | refine below_set ?_ GE140.out) | exact HB.out))))
          have n9_ := Aside0.mk (blk_below (g := gb109) (o := .cells #[.int .u32 t101, .int .u32 t102, .slice Ao15 t103.length co15, .slice Ao16 t106.length co16] 44 (0, 0)) (by (with_reducible repeat (first | refine blk_drewN ?_ _ | refine blk_drew ?_ | refine blk_alloc ?_ _)); exact BK109.out) hb)
          have n10_ := Aside0.mk (blk_below (g := gb125) (o := .cells #[.bool t116, .int .u32 t117, .int .u32 t118, .slice Ao26 t119.length co26, .slice Ao27 t122.length co27] 50 (0, 0)) (by (with_reducible repeat (first | refine blk_drewN ?_ _ | refine blk_drew ?_ | refine blk_alloc ?_ _)); exact BK125.out) hb)
          have n11_ := Aside0.mk (blk_below (g := gb140) (o := .cells #[.bool false, .int .u32 t132, .int .u32 t133, .slice Ao75 t134.length co75, .slice Ao76 t137.length co76] 50 (0, 0)) (by (with_reducible repeat (first | refine blk_drewN ?_ _ | refine blk_drew ?_ | refine blk_alloc ?_ _)); exact BK140.out) hb)
          have n12_ := Aside0.mk (below_step (by repeat (first | (with_reducible first | exact HB.out | apply below_alloc | apply pw_below_drewN | apply below_drew1 | refine below_set ?_ GE109.out | refine below_set ?_ GE125.out | refine below_set ?_ GE140.out) | exact HB.out)) hb)
          clear HO_110002
          clear HO_110003
          clear HO_126003
          clear HO_126004
          clear HO130
          clear HO136
          clear HO139
          clear BK109
          clear BK125
          clear BK140
          clear HB
          have HO_110002 := n0_
          have HO_110003 := n1_
          have HO_126003 := n2_
          have HO_126004 := n3_
          have HO130 := n4_
          have HO136 := n5_
          have HO139 := n6_
          have HO146 := n7_
          have HO149 := n8_
          have BK109 := n9_
          have BK125 := n10_
          have BK140 := n11_
          have HB := n12_
          clear n0_ n1_ n2_ n3_ n4_ n5_ n6_ n7_ n8_ n9_ n10_ n11_ n12_
          (try clear hb)
          (try clear hb2)
          (try clear hk)
          (try clear hi)
          (try clear ho0)
          (try clear ho1)
          refine hK.out _ _ ⟨(blk_cell BK140.out 0).trans rfl, (blk_cell BK140.out 1).trans rfl, (blk_cell BK140.out 2).trans rfl, (blk_cell BK140.out 3).trans rfl, (blk_cell BK140.out 4).trans rfl⟩ (fun hHeld => ?_)
          clear hK K
          refine norm_ (a' := ?_) ?_ ?_
          rotate_left
          ·show Act.put _ (some 73) _ = _
           simp only [Act.put, List.setIfInBounds_toArray, List.set_cons_zero, List.set_cons_succ, i64_w, i32_w]
           rfl
          refine pure_ (i := 4) (N := some 74) (v := ?_) (a' := ?_) #[true, true, true, true, true, false, false, false, false, false, false, false, false, false, false, false, false, false, false] rfl rfl (any_of HT_.out (by kernel_rfl)) (fun _ _ _ h => h) (Or.inl ⟨by rfl, ?_⟩) ?_ ?_
          rotate_left
          ·intro w'
           go_simp
           with_reducible rfl
          rotate_left
          ·simp only [Act.put, List.setIfInBounds_toArray, List.set_cons_zero, List.set_cons_succ, i64_w, i32_w]
           rfl
          refine pure_ (i := 5) (N := some 75) (v := ?_) (a' := ?_) #[true, true, true, true, true, true, false, false, false, false, false, false, false, false, false, false, false, false, false] rfl rfl (any_of HT_.out (by kernel_rfl)) (fun _ _ _ h => h) (Or.inl ⟨by rfl, ?_⟩) ?_ ?_
          rotate_left
          ·intro w'
           go_simp
           with_reducible rfl
          rotate_left
          ·simp only [Act.put, List.setIfInBounds_toArray, List.set_cons_zero, List.set_cons_succ, i64_w, i32_w]
           rfl
          refine pure_ (i := 6) (N := some 76) (v := ?_) (a' := ?_) #[true, true, true, true, true, true, true, false, false, false, false, false, false, false, false, false, false, false, false] rfl rfl (any_of HT_.out (by kernel_rfl)) (fun _ _ _ h => h) (Or.inl ⟨by rfl, ?_⟩) ?_ ?_
          rotate_left
          ·intro w'
           go_simp
           with_reducible rfl
          rotate_left
          ·simp only [Act.put, List.setIfInBounds_toArray, List.set_cons_zero, List.set_cons_succ, i64_w, i32_w]
           rfl
          refine pure_ (i := 7) (N := some 77) (v := ?_) (a' := ?_) #[true, true, true, true, true, true, true, true, false, false, false, false, false, false, false, false, false, false, false] rfl rfl (any_of HT_.out (by kernel_rfl)) (fun _ _ _ h => h) (Or.inl ⟨by rfl, ?_⟩) ?_ ?_
          rotate_left
          ·intro w'
           go_simp
           with_reducible rfl
          rotate_left
          ·simp only [Act.put, List.setIfInBounds_toArray, List.set_cons_zero, List.set_cons_succ, i64_w, i32_w]
           rfl
          refine take_ (i := 8) (N := some 78) (v := ?_) (a' := ?_) #[true, true, true, true, true, true, true, true, true, false, false, false, false, false, false, false, false, false, false] rfl rfl (take_ofW HT_.out HW_.out (by kernel_rfl)) (fun _ _ _ h => h) (Or.inl ⟨by rfl, ?_⟩) hHeld ?_ ?_
          rotate_left
          ·rintro w' ⟨s0, s1, s2, s3, s4⟩
           go_simp
           with_reducible rfl
          rotate_left
          ·simp only [Act.put, List.setIfInBounds_toArray, List.set_cons_zero, List.set_cons_succ, i64_w, i32_w]
           rfl
          refine pure_ (i := 9) (N := some 79) (v := ?_) (a' := ?_) #[true, true, true, true, true, true, true, true, true, true, false, false, false, false, false, false, false, false, false] rfl rfl (any_of HT_.out (by kernel_rfl)) (fun _ _ _ h => h) (Or.inl ⟨by rfl, ?_⟩) ?_ ?_
          rotate_left
          ·intro w'
           go_simp
           with_reducible rfl
          rotate_left
          ·simp only [Act.put, List.setIfInBounds_toArray, List.set_cons_zero, List.set_cons_succ, i64_w, i32_w]
           rfl
          refine pure_ (i := 10) (N := some 80) (v := ?_) (a' := ?_) #[true, true, true, true, true, true, true, true, true, true, true, false, false, false, false, false, false, false, false] rfl rfl (any_of HT_.out (by kernel_rfl)) (fun _ _ _ h => h) (Or.inl ⟨by rfl, ?_⟩) ?_ ?_
          rotate_left
          ·intro w'
           go_simp
           with_reducible rfl
          rotate_left
          ·simp only [Act.put, List.setIfInBounds_toArray, List.set_cons_zero, List.set_cons_succ, i64_w, i32_w]
           rfl
          refine pure_ (i := 11) (N := some 81) (v := undef) (a' := ?_) #[true, true, true, true, true, true, true, true, true, true, true, true, false, false, false, false, false, false, false] rfl rfl (any_of HT_.out (by kernel_rfl)) (fun _ _ _ h => h) (Or.inr ⟨by rfl, rfl⟩) ?_ ?_
          rotate_left
          ·simp only [Act.put, List.setIfInBounds_toArray, List.set_cons_zero, List.set_cons_succ, i64_w, i32_w]
           rfl
          refine pure_ (i := 12) (N := some 82) (v := undef) (a' := ?_) #[true, true, true, true, true, true, true, true, true, true, true, true, true, false, false, false, false, false, false] rfl rfl (any_of HT_.out (by kernel_rfl)) (fun _ _ _ h => h) (Or.inr ⟨by rfl, rfl⟩) ?_ ?_
          rotate_left
          ·simp only [Act.put, List.setIfInBounds_toArray, List.set_cons_zero, List.set_cons_succ, i64_w, i32_w]
           rfl
          refine pure_ (i := 13) (N := some 83) (v := undef) (a' := ?_) #[true, true, true, true, true, true, true, true, true, true, true, true, true, true, false, false, false, false, false] rfl rfl (any_of HT_.out (by kernel_rfl)) (fun _ _ _ h => h) (Or.inr ⟨by rfl, rfl⟩) ?_ ?_
          rotate_left
          ·simp only [Act.put, List.setIfInBounds_toArray, List.set_cons_zero, List.set_cons_succ, i64_w, i32_w]
           rfl
          refine pure_ (i := 14) (N := some 84) (v := undef) (a' := ?_) #[true, true, true, true, true, true, true, true, true, true, true, true, true, true, true, false, false, false, false] rfl rfl (any_of HT_.out (by kernel_rfl)) (fun _ _ _ h => h) (Or.inr ⟨by rfl, rfl⟩) ?_ ?_
          rotate_left
          ·simp only [Act.put, List.setIfInBounds_toArray, List.set_cons_zero, List.set_cons_succ, i64_w, i32_w]
           rfl
          refine pure_ (i := 15) (N := some 85) (v := undef) (a' := ?_) #[true, true, true, true, true, true, true, true, true, true, true, true, true, true, true, true, false, false, false] rfl rfl (any_of HT_.out (by kernel_rfl)) (fun _ _ _ h => h) (Or.inr ⟨by rfl, rfl⟩) ?_ ?_
          rotate_left
          ·simp only [Act.put, List.setIfInBounds_toArray, List.set_cons_zero, List.set_cons_succ, i64_w, i32_w]
           rfl
          refine pure_ (i := 16) (N := some 86) (v := ?_) (a' := ?_) #[true, true, true, true, true, true, true, true, true, true, true, true, true, true, true, true, true, false, false] rfl rfl (any_of HT_.out (by kernel_rfl)) (fun _ _ _ h => h) (Or.inl ⟨by rfl, ?_⟩) ?_ ?_
          rotate_left
          ·intro w'
           go_simp
           with_reducible rfl
          rotate_left
          ·simp only [Act.put, List.setIfInBounds_toArray, List.set_cons_zero, List.set_cons_succ, i64_w, i32_w]
           rfl
          refine pure_ (i := 17) (N := some 87) (v := ?_) (a' := ?_) #[true, true, true, true, true, true, true, true, true, true, true, true, true, true, true, true, true, true, false] rfl rfl (any_of HT_.out (by kernel_rfl)) (fun _ _ _ h => h) (Or.inl ⟨by rfl, ?_⟩) ?_ ?_
          rotate_left
          ·intro w'
           go_simp
           with_reducible rfl
          rotate_left
          ·simp only [Act.put, List.setIfInBounds_toArray, List.set_cons_zero, List.set_cons_succ, i64_w, i32_w]
           rfl
          refine pure_ (i := 18) (N := some 4) (v := ?_) (a' := ?_) #[true, true, true, true, true, true, true, true, true, true, true, true, true, true, true, true, true, true, true] rfl rfl (any_of HT_.out (by kernel_rfl)) (fun _ _ _ h => h) (Or.inl ⟨by rfl, ?_⟩) ?_ ?_
          rotate_left
          ·intro w'
           go_simp
           with_reducible rfl
          rotate_left
          ·simp only [Act.put, List.setIfInBounds_toArray, List.set_cons_zero, List.set_cons_succ, i64_w, i32_w]
           rfl
          refine done_ (done_of HT_.out (by kernel_rfl)) ?_
          try go_wp2
          go_ret
          exact ⟨by first | rfl | (simp [errW_none, errW_some] <;> rfl) | (simp [*, errW_none, errW_some] <;> rfl), by repeat (first | (with_reducible first | exact HB.out | apply below_alloc | apply pw_below_drewN | apply below_drew1 | refine below_set ?_ GE109.out | refine below_set ?_ GE125.out | refine below_set ?_ GE140.out) | exact HB.out)⟩
        ·rw [if_neg c50] at H
         have c50b0 : (t131 == t141) = false := by simpa using c50
         (try (have c50b1 : decide (t131 = t141) = false := by simpa using c50))
         (try (have c50b2 : (t131 == t141) = false := by simpa using c50))
         (try (have c50b3 : ¬ (t131 = t141) := by simpa using c50))
         clear c50
         exact absurd H (by simp)
end Go.Proofs.Ytgfadfahbhcllaa.Q
end
section
namespace Go.Proofs.Ytgfadfahbhcllaa.O
open Go.RowKit Go.Proofs.YtgfadfahbhcllaaW.PrintWords
def Opens {α : Type} (P : Program) (t : TypeId) (d : Kd α) (ok : α → Prop) : Prop :=
 ∀ (H : Type) (enc : TypeId × Value → H) (w : World) (fuel : Nat) (cs : List Value) (y : DataW H × List MemPlace),
  DataW.trod enc P w 0 (fun _ => true) true fuel t cs = some y → ∃ x, d.K w x cs ∧ ok x
section
variable {α β : Type} {P : Program} {t e : TypeId} {d : Kd α} {ok : α → Prop}
theorem opens_int {k : IntKind} (ht : P.underlying t = some (.int k)) : Opens P t (Kd.int k) (fun n => (Lit.int k n).wf = true) := by
 intro H enc w fuel cs y h
 obtain ⟨n, rfl, _, hw⟩ := DataW.trod_int ht h
 exact ⟨n, rfl, hw⟩
theorem list_of {p : Nat → α → Prop} : ∀ n, (∀ i, i < n → ∃ x, p i x) → ∃ xs : List α, xs.length = n ∧ ∀ i x, xs[i]? = some x → p i x
 | 0, _ => ⟨[], rfl, by simp⟩
 | n + 1, h => by
  obtain ⟨xs, hl, hp⟩ := list_of n (fun i hi => h i (by omega))
  obtain ⟨x, hx⟩ := h n (by omega)
  refine ⟨xs ++ [x], by simp [hl], fun i z hz => ?_⟩
  by_cases hi : i < n
  ·rw [List.getElem?_append_left (by omega)] at hz
   exact hp i z hz
  ·have : i < n + 1 := by
    have := (List.getElem?_eq_some_iff.1 hz).1
    simp [hl] at this
    exact this
   obtain rfl : i = n := by omega
   rw [List.getElem?_append_right (by omega)] at hz
   simp [hl] at hz
   exact hz ▸ hx
theorem opens_slice (ht : P.underlying t = some (.slice e)) (hc : P.cellsOf e = d.sz) (he : Opens P e d ok) :
  Opens P t (Kd.slice e d) (fun xs => xs.length ≤ 9223372036854775807 ∧ ∀ x ∈ xs, ok x) := by
 intro H enc w fuel cs y h
 rcases DataW.trod_slice ht h with ⟨rfl, _⟩ | ⟨a, len, cap, elems, rest, n, _, rfl, _, _, hl, hm, hlen, hel, _, _⟩
 ·exact ⟨[], ⟨none, 0, rfl, Nat.le_refl _, Kd.C_nil d w⟩, by simp, by simp⟩
 ·have each : ∀ i, i < len → ∃ x, ∃ c, w.cells? 0 (a.add (i * d.sz)) d.sz = some c ∧ d.K w x c ∧ ok x := by
   intro i hi
   have h1 := hel i hi
   rw [hc, List.getElem?_eq_getElem (by omega)] at h1
   obtain ⟨c, h2, h3⟩ := Option.bind_eq_some_iff.1 h1
   obtain ⟨x, hx, hok⟩ := he H enc w n c _ h3
   exact ⟨x, c, h2, hx, hok⟩
  obtain ⟨xs, hxl, hxs⟩ := list_of len each
  refine ⟨xs, ⟨some a, cap, by rw [hxl], by omega, ?_⟩, by unfold maxLen at hm; omega, fun x hx => ?_⟩
  ·refine ⟨rfl, by unfold maxLen at hm; omega, fun _ => ⟨a, rfl, fun j p hp => ?_⟩⟩
   obtain ⟨c, h2, h3, _⟩ := hxs j p hp
   refine ⟨c, d.K_len h3, h3, fun i u hu => ?_⟩
   have hi : i < c.length := (List.getElem?_eq_some_iff.1 hu).1
   have h4 := World.cells?_some h2
   rw [d.K_len h3] at hi
   rw [← Addr.add_add, (h4.2.2 i hi), hu]
  ·obtain ⟨i, hi⟩ := List.getElem?_of_mem hx
   obtain ⟨_, _, _, hok⟩ := hxs i x hi
   exact hok
end
end Go.Proofs.Ytgfadfahbhcllaa.O
end
section
namespace Go.Proofs.Ytgfadfahbhcllaa.Q
open Go.RowKit Go.Proofs.YtgfadfahbhcllaaW.PrintWords Go.Proofs.YtgfadfahbhcllaaW.PrintLast Go.Proofs.Ytgfadfahbhcllaa.O
def laws_FnSnap.Pure : Prop := ∀ (l0 : List Int) (l1 : List Int) , (l0.length ≤ 9223372036854775807 ∧ ∀ z_ ∈ l0, (Lit.int .u8 z_).wf = true) → (l1.length ≤ 9223372036854775807 ∧ ∀ z_ ∈ l1, (Lit.int .u8 z_).wf = true) → ∃ k, laws_FnSnap.f k l0 l1 = some true
end Go.Proofs.Ytgfadfahbhcllaa.Q
end
section
namespace Go.Proofs.Ytgfadfahbhcllaa.P
open Go.RowKit Go.Proofs.YtgfadfahbhcllaaW.PrintWords Go.Proofs.YtgfadfahbhcllaaW.PrintMore Go.Proofs.Ytgfadfahbhcllaa.Q
set_option linter.unusedVariables false
set_option linter.unusedSimpArgs false
theorem snapHead_u8 (g n t : Int) (u xs : List Int) (hn : 0 ≤ n ∧ n ≤ 255) : U8s (snapHead g n t u xs) := by
 have hb : U8s (bitsL u) := by
  intro z hz
  unfold bitsL at hz
  obtain ⟨i, _, rfl⟩ := List.mem_map.1 hz
  exact bitB_range u _
 have hd1 : ∀ i j, U8s (denB xs i j) := by
  intro i j z hz
  unfold denB at hz
  split at hz
  ·exact leB_u8 _ _ z hz
  ·simp only [List.mem_cons, List.not_mem_nil, or_false] at hz
   omega
 have hd : ∀ i a, U8s (denL xs i a) := by
  intro i a z hz
  unfold denL at hz
  simp only [List.mem_append] at hz
  rcases hz with hz | hz | hz | hz | hz | hz | hz | hz <;> exact hd1 _ _ z hz
 intro z hz
 unfold snapHead at hz
 simp only [List.mem_append] at hz
 rcases hz with hz | hz | hz | hz | hz | hz | hz | hz | hz | hz | hz | hz
 ·exact leB_u8 _ _ z hz
 ·simp only [List.mem_cons, List.not_mem_nil, or_false] at hz; omega
 ·simp only [List.mem_cons, List.not_mem_nil, or_false] at hz; omega
 ·exact leB_u8 _ _ z hz
 ·exact hb z hz
 ·exact hd _ _ z hz
 ·exact leB_u8 _ _ z hz
 ·exact leB_u8 _ _ z hz
 ·simp only [List.mem_cons, List.not_mem_nil, or_false] at hz; omega
 ·simp only [List.mem_cons, List.not_mem_nil, or_false] at hz; omega
 ·exact hd _ _ z hz
 ·have := List.eq_of_mem_replicate hz; omega
theorem snapCode_u8 (g t : Int) (xs u : List Int) : U8s (snapCode g t xs u) := by
 intro z hz
 unfold snapCode at hz
 simp only [List.mem_append] at hz
 rcases hz with hz | hz | hz
 ·exact snapHead_u8 _ _ _ _ _ (by omega) z hz
 ·exact leB_u8 _ _ z hz
 ·exact leB_u8 _ _ z hz
theorem encS_u8 (g t : Int) (xs u : List Int) : U8s (encS g t xs u) := by
 unfold encS
 split
 ·exact snapCode_u8 _ _ _ _
 ·exact fun z hz => by cases hz
theorem le2 {l : List Int} (h : U8s l) {i : Nat} (hi : i + 2 ≤ l.length) : le ((l.drop i).take 2) = rd l (i : Int) + 256 * rd l ((i + 1 : Nat) : Int) := by
 have e1 := rd_get (l := l) (i := i) (by omega)
 have e2 := rd_get (l := l) (i := i + 1) (by omega)
 have : (l.drop i).take 2 = [rd l (i : Int), rd l ((i + 1 : Nat) : Int)] := by
  refine List.ext_getElem? (fun j => ?_)
  rw [List.getElem?_take]
  match j with
  | 0 => rw [if_pos (by decide), List.getElem?_drop, Nat.add_zero, e1]; rfl
  | 1 => rw [if_pos (by decide), List.getElem?_drop, e2]; rfl
  | j + 2 => rw [if_neg (by omega)]; rfl
 rw [this]
 simp only [le]
 omega
section
variable {l : List Int}
theorem last_is (hu : U8s l) (hl : l.length = 128) (h16 : sCnt l ≤ 16) : ((strOfNums (encS (sGen l) (sTail l) (sDeny l (sCnt l).toNat) (sUsed l 256))).toList = (strOfNums l).toList) ↔ isSnap l = true := by
 unfold isSnap
 rw [decide_eq_true h16, Bool.true_and]
 constructor
 ·intro he
  have e := str_inj (encS_u8 _ _ _ _) hu he
  unfold encS at e
  cases hg : goodSnap (sGen l) (sTail l) (sDeny l (sCnt l).toNat) (sUsed l 256) with
  | false =>
   rw [hg, if_neg (by decide)] at e
   rw [← e] at hl
   cases hl
  | true =>
   rw [hg, if_pos rfl] at e
   rw [decide_eq_true e]
   rfl
 ·intro h
  rw [Bool.and_eq_true] at h
  unfold encS
  rw [if_pos h.1, of_decide_eq_true h.2]
theorem used_ev (hu : U8s l) (hl : l.length = 128) (h16 : sCnt l ≤ 16) : ∀ (m v : Nat), v + m = 256 → Ev (fun k => spec_DecodeSnap.l1 k l (v : Int) (sGen l) (sTail l) (sDeny l (sCnt l).toNat) (sUsed l v)) (decS l)
 | 0, v, hv => by
  obtain rfl : v = 256 := by omega
  have hg := sGen_range hu hl
  have ht := sTail_range hu hl
  have hz : snapSz (sGen l) (sTail l) (sDeny l (sCnt l).toNat) (sUsed l 256) := ⟨hg, ht, by rw [sDeny_length]; omega, Nat.le_trans (sUsed_length l 256) (by decide)⟩
  have hi := last_is hu hl h16
  unfold decS
  by_cases hs : isSnap l = true
  ·rw [if_pos ⟨hl, hs⟩]
   refine Ev.last ⟨0, fun k _ => ?_⟩
   simp only [spec_DecodeSnap.l1]
   rw [if_neg (by omega), show spec_EncodeSnap.f k (sGen l) (sTail l) (sDeny l (sCnt l).toNat) (sUsed l 256) = some (encS (sGen l) (sTail l) (sDeny l (sCnt l).toNat) (sUsed l 256)) from if_pos hz, Option.bind_some, if_pos (hi.2 hs)]
  ·rw [if_neg (fun h => hs h.2)]
   refine Ev.last ⟨0, fun k _ => ?_⟩
   simp only [spec_DecodeSnap.l1]
   rw [if_neg (by omega), show spec_EncodeSnap.f k (sGen l) (sTail l) (sDeny l (sCnt l).toNat) (sUsed l 256) = some (encS (sGen l) (sTail l) (sDeny l (sCnt l).toNat) (sUsed l 256)) from if_pos hz, Option.bind_some, if_neg (fun h => hs (hi.1 h))]
 | m + 1, v, hv => by
  have ih := used_ev hu hl h16 m (v + 1) (by omega)
  have w1 : wrap64 (Int.tdiv (v : Int) 8) = (v : Int) / 8 := by rw [Int.tdiv_eq_ediv_of_nonneg (by omega)]; exact w64 (by omega) (by omega)
  have w2 : wrap64 (12 + (v : Int) / 8) = ((12 + v / 8 : Nat) : Int) := by rw [w64 (by omega) (by omega)]; omega
  have w3 : IntKind.u64.wrap (Int.tmod (v : Int) 8) = ((v % 8 : Nat) : Int) := by rw [Int.tmod_eq_emod_of_nonneg (by omega), IntKind.wrap_u64]; omega
  have w4 : wrap64 ((v : Int) + 1) = ((v + 1 : Nat) : Int) := by rw [w64 (by omega) (by omega)]; rfl
  have hr := rd_get (l := l) (i := 12 + v / 8) (by omega)
  have hb8 := hu.at_ hr
  have hsh : shr .u8 (rd l ((12 + v / 8 : Nat) : Int)) ((v % 8 : Nat) : Int) = rd l ((12 + v / 8 : Nat) : Int) / 2 ^ (v % 8) := by
   have hh := shr_small (k := .u8) (x := rd l ((12 + v / 8 : Nat) : Int)) (y := ((v % 8 : Nat) : Int)) (j := shr .u8 (rd l ((12 + v / 8 : Nat) : Int)) ((v % 8 : Nat) : Int)) rfl (by show ((v % 8 : Nat) : Int) ≤ 8; omega)
   rw [← hh, Int.toNat_natCast]
  have hn : 0 ≤ rd l ((12 + v / 8 : Nat) : Int) / 2 ^ (v % 8) := Int.ediv_nonneg hb8.1 (Int.le_of_lt (Int.pow_pos (by decide)))
  have W1 := Aside0.mk w1
  have W2 := Aside0.mk w2
  have W3 := Aside0.mk w3
  have W4 := Aside0.mk w4
  have HSh := Aside0.mk hsh
  clear w1 w2 w3 w4 hsh
  refine Ev.step (g := fun k => spec_DecodeSnap.l1 k l ((v + 1 : Nat) : Int) (sGen l) (sTail l) (sDeny l (sCnt l).toNat) (sUsed l (v + 1))) ⟨0, fun k _ => ?_⟩ ih
  simp only [spec_DecodeSnap.l1]
  rw [if_pos (by omega), W1.out, W2.out, W3.out, W4.out, if_pos (by omega), if_pos (by omega), if_pos (by omega), HSh.out, Int.tmod_eq_emod_of_nonneg hn]
  cases hbo : bitOf l v with
  | true =>
   rw [if_pos (of_decide_eq_true hbo), if_pos (by have := sUsed_length l v; omega), sUsed_on hbo]
  | false =>
   rw [if_neg (of_decide_eq_false hbo), sUsed_off hbo]
theorem deny_ev (hu : U8s l) (hl : l.length = 128) (h16 : sCnt l ≤ 16) : ∀ (m i : Nat), (i : Int) + m = sCnt l → Ev (fun k => spec_DecodeSnap.l0 k l (i : Int) (sGen l) (sTail l) (sDeny l i)) (decS l)
 | 0, i, hi => by
  have e6 : rd l 6 = sCnt l := rd_at (i := 6) (sCnt_at hl)
  have hc := hu.at_ (sCnt_at hl)
  have ht := used_ev hu hl h16 256 0 rfl
  rw [show (sCnt l).toNat = i from by omega] at ht
  refine Ev.step (g := fun k => spec_DecodeSnap.l1 k l ((0 : Nat) : Int) (sGen l) (sTail l) (sDeny l i) (sUsed l 0)) ⟨0, fun k _ => ?_⟩ ht
  simp only [spec_DecodeSnap.l0]
  rw [if_pos (by omega), e6, w64 (n := sCnt l) (by omega) (by omega), if_neg (by omega)]
  rfl
 | m + 1, i, hi => by
  have e6 : rd l 6 = sCnt l := rd_at (i := 6) (sCnt_at hl)
  have hc := hu.at_ (sCnt_at hl)
  have ih := deny_ev hu hl h16 m (i + 1) (by omega)
  have hi16 : i < 16 := by omega
  have hf := denAt_fit hi16
  have r1 := hu.at_ (rd_get (l := l) (i := denAt i) (by omega))
  have r2 := hu.at_ (rd_get (l := l) (i := denAt i + 1) (by omega))
  have hd : sDen1 l i = rd l ((denAt i : Nat) : Int) + 256 * rd l ((denAt i + 1 : Nat) : Int) := le2 hu (by omega)
  have w4 : wrap64 ((i : Int) + 1) = ((i + 1 : Nat) : Int) := by rw [w64 (by omega) (by omega)]; rfl
  have hv : wrap64 (wrap64 (rd l ((denAt i : Nat) : Int)) + wrap64 (256 * wrap64 (rd l ((denAt i + 1 : Nat) : Int)))) = sDen1 l i := by
   rw [w64 (n := rd l ((denAt i : Nat) : Int)) (by omega) (by omega), w64 (n := rd l ((denAt i + 1 : Nat) : Int)) (by omega) (by omega), w64 (n := 256 * rd l ((denAt i + 1 : Nat) : Int)) (by omega) (by omega), w64 (by omega) (by omega), hd]
  have hsl := sDeny_length l i
  have HV := Aside0.mk hv
  have W4 := Aside0.mk w4
  clear hv w4 hd
  refine Ev.step (g := fun k => spec_DecodeSnap.l0 k l ((i + 1 : Nat) : Int) (sGen l) (sTail l) (sDeny l (i + 1))) ⟨0, fun k _ => ?_⟩ ih
  simp only [spec_DecodeSnap.l0]
  rw [if_pos (by omega), e6, w64 (n := sCnt l) (by omega) (by omega), if_pos (by omega)]
  by_cases h8 : i < 8
  ·have ea : wrap64 (44 + wrap64 (2 * (i : Int))) = ((denAt i : Nat) : Int) := by
    rw [w64 (n := 2 * (i : Int)) (by omega) (by omega), w64 (by omega) (by omega)]; unfold denAt; rw [if_pos h8]; omega
   have EA := Aside0.mk ea
   clear ea
   have eb : wrap64 (((denAt i : Nat) : Int) + 1) = ((denAt i + 1 : Nat) : Int) := by rw [w64 (n := ((denAt i : Nat) : Int) + 1) (by omega) (by omega)]; omega
   have EB := Aside0.mk eb
   clear eb
   rw [if_neg (by omega), EA.out, EB.out, if_pos (by omega), if_pos (by omega), if_pos (by omega), if_pos (by omega), if_pos (by omega), W4.out, HV.out, sDeny_succ]
  ·have ea : wrap64 (72 + wrap64 (2 * wrap64 ((i : Int) - 8))) = ((denAt i : Nat) : Int) := by
    rw [w64 (n := (i : Int) - 8) (by omega) (by omega), w64 (n := 2 * ((i : Int) - 8)) (by omega) (by omega), w64 (by omega) (by omega)]; unfold denAt; rw [if_neg h8]; omega
   have EA := Aside0.mk ea
   clear ea
   have eb : wrap64 (((denAt i : Nat) : Int) + 1) = ((denAt i + 1 : Nat) : Int) := by rw [w64 (n := ((denAt i : Nat) : Int) + 1) (by omega) (by omega)]; omega
   have EB := Aside0.mk eb
   clear eb
   rw [if_pos (by omega), EA.out, EB.out, if_pos (by omega), if_pos (by omega), if_pos (by omega), if_pos (by omega), if_pos (by omega), W4.out, HV.out, sDeny_succ]
theorem decS_no (h : ¬ (l.length = 128 ∧ isSnap l = true)) : decS l = (false, 0, 0, [], []) := if_neg h
theorem spec_decS (hu : U8s l) (hm : l.length ≤ 4611686018427387904) : Ev (fun k => spec_DecodeSnap.f k l) (decS l) := by
 have no : decS l = (false, 0, 0, [], []) → Ev (fun k => spec_DecodeSnap.j0 k l true) (decS l) := fun h => by
  rw [h]
  refine Ev.last ⟨0, fun k _ => ?_⟩
  simp only [spec_DecodeSnap.j0]
  rw [if_pos trivial]
 simp only [spec_DecodeSnap.f]
 by_cases hl : l.length = 128
 case neg => exact Ev.neg (by omega) (no (decS_no (fun h => hl h.1)))
 refine Ev.pos (by omega) (Ev.pos (by omega) ?_)
 have e6 : rd l 6 = sCnt l := rd_at (i := 6) (sCnt_at hl)
 have hc := hu.at_ (sCnt_at hl)
 rw [e6, w64 (n := sCnt l) (by omega) (by omega)]
 by_cases h16 : sCnt l ≤ 16
 case neg =>
  rw [decide_eq_true (by omega)]
  exact no (decS_no (fun h => by have h2 := h.2; unfold isSnap at h2; rw [decide_eq_false h16] at h2; cases h2))
 rw [decide_eq_false (by omega)]
 have hd := deny_ev hu hl h16 (sCnt l).toNat 0 (by omega)
 have g0 := spec_get l 0 hu (by decide) (by omega) hm
 have g8 := spec_get l 8 hu (by decide) (by omega) hm
 refine Ev.step (g := fun k => spec_DecodeSnap.l0 k l ((0 : Nat) : Int) (sGen l) (sTail l) (sDeny l 0)) ⟨0, fun k _ => ?_⟩ hd
 simp only [spec_DecodeSnap.j0]
 rw [if_neg (by decide), g0, Option.bind_some, g8, Option.bind_some]
 rfl
end
end Go.Proofs.Ytgfadfahbhcllaa.P
end
section
namespace Go.Proofs.Ytgfadfahbhcllaa.P
open Go.RowKit Go.Proofs.YtgfadfahbhcllaaW.PrintWords Go.Proofs.YtgfadfahbhcllaaW.PrintMore Go.Proofs.Ytgfadfahbhcllaa.Q
def tapOk (used : List Int) (taps : List S111) (i : Nat) : Bool := decide ((rd_T111 taps i).f0 ∈ used) && ((List.range i).all fun j => decide ((rd_T111 taps j).f0 ≠ (rd_T111 taps i).f0)) && decide (0 ≤ (rd_T111 taps i).f1) && decide ((rd_T111 taps i).f1 ≤ 4294967295)
def validS (d u : List Int) (a : Int) (taps : List S111) : Bool := goodS d && decide (d.length ≤ 16) && goodS u && decide (0 ≤ a) && decide (a = (u.length : Int) - taps.length) && (List.range taps.length).all (tapOk u taps)
section
variable {d u : List Int} {a : Int} {taps : List S111}
theorem vs1 (h : goodS d = false) : validS d u a taps = false := by unfold validS; rw [h]; rfl
end
end Go.Proofs.Ytgfadfahbhcllaa.P
namespace Go.Proofs.Ytgfadfahbhcllaa.Q
open Go.RowKit Go.Proofs.YtgfadfahbhcllaaW.PrintWords Go.Proofs.YtgfadfahbhcllaaW.PrintLast Go.Proofs.YtgfadfahbhcllaaW.PrintMore Go.Proofs.Ytgfadfahbhcllaa.LK
set_option linter.unusedVariables false
set_option linter.unusedSimpArgs false
def sizesS (d u : List Int) (taps : List S111) : Prop := d.length ≤ 2097152 ∧ u.length ≤ 2097152 ∧ taps.length ≤ 2097152
instance (d u : List Int) (taps : List S111) : Decidable (sizesS d u taps) := by unfold sizesS; infer_instance
end Go.Proofs.Ytgfadfahbhcllaa.Q
end
