/- Part 8 of 8 of the proof that the law FnExactDevSync returns true at every input. No further condition. -/
import Derived.Test.YtbdbeccaopphaaaWWords
import Derived.ChangeArms
import Derived.DataReads
import Derived.Laws.CopyOwn
import Derived.Test.YtbdbeccaopphaaaRows
import Derived.WalkKit
import Derived.ProofKit
import Derived.OpenShut
import Derived.ShutString
import Derived.ChangeOld
import Derived.Below
import Derived.SizedLaws
import Derived.Test.YtbdbeccaopphaaaMFnExactDevSync7
namespace Go.Proofs.Ytbdbeccaopphaaa.Q
open Go.RowKit Go.Proofs.YtbdbeccaopphaaaW.PrintWords Go.Proofs.YtbdbeccaopphaaaW.PrintLast Go.Proofs.Ytbdbeccaopphaaa.LK Go.Proofs.YtbdbeccaopphaaaW.PrintMore
attribute [local go_sem] max2_int min2_int max_two min_two max_three min_three max_four min_four   -- for this text's walks alone
set_option linter.unusedVariables false
set_option linter.unusedSimpArgs false

/-! ### laws_FnExactDevSync: function 10 -/
def laws_FnExactDevSync.f (k : Nat) (l0_0 : List Int) (l0_1 : List (S139)) (a0_2 : Int) (a0_3 : Bool) : Option (Bool) := (laws_szDev.f k l0_0 l0_1 a0_2 a0_3 1048576).bind fun t102 => (if t102 < 0 then (some true) else ((laws_toDev.f k l0_0 l0_1 a0_2 a0_3).bind fun bt103 => ((spec_DevSync.f k bt103.1 bt103.2.1 bt103.2.2.1 bt103.2.2.2).bind fun bt111 => ((laws_toDev.f k l0_0 l0_1 a0_2 a0_3).bind fun bt120 => ((impl_DevSync.f bt120.1 bt120.2.1 bt120.2.2.1 bt120.2.2.2).bind fun bt129 => ((laws_eqDev.f k bt129.1 bt129.2.1 bt129.2.2.1 bt129.2.2.2 bt111.1 bt111.2.1 bt111.2.2.1 bt111.2.2.2).bind fun t138 => (if t138 = true then ((laws_toDev.f k l0_0 l0_1 a0_2 a0_3).bind fun bt139 => ((laws_eqDev.f k bt120.1 bt120.2.1 bt120.2.2.1 bt120.2.2.2 bt139.1 bt139.2.1 bt139.2.2.1 bt139.2.2.2).bind fun t147 => (if t147 = true then ((laws_markDev.f k bt120.1 bt120.2.1 bt120.2.2.1 bt120.2.2.2 1).bind fun bt148 => (if bt148.1 < 0 then (some false) else ((laws_eqDev.f k bt129.1 bt129.2.1 bt129.2.2.1 bt129.2.2.2 bt111.1 bt111.2.1 bt111.2.2.1 bt111.2.2.2).bind fun t151 => (if t151 = true then ((laws_markDev.f k bt129.1 bt129.2.1 bt129.2.2.1 bt129.2.2.2 1).bind fun bt152 => ((laws_heldDev.f k bt152.2.1 bt152.2.2 bt129.2.2.1 bt129.2.2.2 1).bind fun t155 => (if t155 < 0 then (some false) else (if t155 = bt152.1 then ((laws_toDev.f k l0_0 l0_1 a0_2 a0_3).bind fun bt156 => ((impl_DevSync.f bt156.1 bt156.2.1 bt156.2.2.1 bt156.2.2.2).bind fun bt164 => ((laws_eqDev.f k bt164.1 bt164.2.1 bt164.2.2.1 bt164.2.2.2 bt111.1 bt111.2.1 bt111.2.2.1 bt111.2.2.2).bind fun t173 => (if t173 = true then (some true) else (some false))))) else (some false))))) else (some false))))) else (some false)))) else (some false))))))))
theorem laws_FnExactDevSync.mono : ∀ a0 a1 a2 a3 k, LeO (laws_FnExactDevSync.f k a0 a1 a2 a3) (laws_FnExactDevSync.f (k + 1) a0 a1 a2 a3) := by
  intro a0 a1 a2 a3 k
  unfold laws_FnExactDevSync.f
  repeat' first
      | (with_reducible exact laws_eqDev.mono _ _ _ _ _ _ _ _ _)
      | (with_reducible exact laws_heldDev.mono _ _ _ _ _ _)
      | (with_reducible exact laws_markDev.mono _ _ _ _ _ _)
      | (with_reducible exact laws_szDev.mono _ _ _ _ _ _)
      | (with_reducible exact laws_toDev.mono _ _ _ _ _)
      | (with_reducible exact spec_DevSync.mono _ _ _ _ _)
      | (with_reducible exact LeO.refl _)
      | (with_reducible exact LeO.none _)
      | (with_reducible refine LeO.ite ?_ ?_)
      | (with_reducible refine LeO.bind ?_ (fun _ => ?_))
      | exact laws_eqDev.mono _ _ _ _ _ _ _ _ _
      | exact laws_heldDev.mono _ _ _ _ _ _
      | exact laws_markDev.mono _ _ _ _ _ _
      | exact laws_szDev.mono _ _ _ _ _ _
      | exact laws_toDev.mono _ _ _ _ _
      | exact spec_DevSync.mono _ _ _ _ _
      | exact LeO.none _
      | refine LeO.ite ?_ ?_
      | refine LeO.bind ?_ (fun _ => ?_)
set_option maxHeartbeats 8000000 in
set_option maxRecDepth 100000 in
theorem laws_FnExactDevSync.calls (k : Nat) (A0_0 : Option Addr) (c0_0 : Nat) (l0_0 : List Int) (A0_1 : Option Addr) (c0_1 : Nat) (l0_1 : List (S139)) (a0_2 : Int) (a0_3 : Bool) (w : World) (hr0_0 : Kd.C (Kd.int .u8) w A0_0 l0_0.length l0_0) (hc0_0 : l0_0.length ≤ c0_0) (hr0_1 : Kd.C k139 w A0_1 l0_1.length l0_1) (hc0_1 : l0_1.length ≤ c0_1) (h : laws_FnExactDevSync.f k l0_0 l0_1 a0_2 a0_3 = some true) :
    Calls Try.prog 10 #[.agg #[.slice A0_0 l0_0.length c0_0, .slice A0_1 l0_1.length c0_1, .int .i64 a0_2, .bool a0_3]] w fun e w' => e = .returned (.bool true) ∧ Below w.heap.size w w' := by
  have hu42 := Try.underlying42
  have hu35 := Try.underlying35
  have HR0_0 := Aside0.mk hr0_0
  have HC0_0 := Aside0.mk hc0_0
  clear hr0_0 hc0_0
  have HR0_1 := Aside0.mk hr0_1
  have HC0_1 := Aside0.mk hc0_1
  clear hr0_1 hc0_1
  have HB := Aside0.mk (Below.refl w.heap.size w)
  have H : ((laws_szDev.f k l0_0 l0_1 a0_2 a0_3 1048576).bind fun t102 => (if t102 < 0 then (some true) else ((laws_toDev.f k l0_0 l0_1 a0_2 a0_3).bind fun bt103 => ((spec_DevSync.f k bt103.1 bt103.2.1 bt103.2.2.1 bt103.2.2.2).bind fun bt111 => ((laws_toDev.f k l0_0 l0_1 a0_2 a0_3).bind fun bt120 => ((impl_DevSync.f bt120.1 bt120.2.1 bt120.2.2.1 bt120.2.2.2).bind fun bt129 => ((laws_eqDev.f k bt129.1 bt129.2.1 bt129.2.2.1 bt129.2.2.2 bt111.1 bt111.2.1 bt111.2.2.1 bt111.2.2.2).bind fun t138 => (if t138 = true then ((laws_toDev.f k l0_0 l0_1 a0_2 a0_3).bind fun bt139 => ((laws_eqDev.f k bt120.1 bt120.2.1 bt120.2.2.1 bt120.2.2.2 bt139.1 bt139.2.1 bt139.2.2.1 bt139.2.2.2).bind fun t147 => (if t147 = true then ((laws_markDev.f k bt120.1 bt120.2.1 bt120.2.2.1 bt120.2.2.2 1).bind fun bt148 => (if bt148.1 < 0 then (some false) else ((laws_eqDev.f k bt129.1 bt129.2.1 bt129.2.2.1 bt129.2.2.2 bt111.1 bt111.2.1 bt111.2.2.1 bt111.2.2.2).bind fun t151 => (if t151 = true then ((laws_markDev.f k bt129.1 bt129.2.1 bt129.2.2.1 bt129.2.2.2 1).bind fun bt152 => ((laws_heldDev.f k bt152.2.1 bt152.2.2 bt129.2.2.1 bt129.2.2.2 1).bind fun t155 => (if t155 < 0 then (some false) else (if t155 = bt152.1 then ((laws_toDev.f k l0_0 l0_1 a0_2 a0_3).bind fun bt156 => ((impl_DevSync.f bt156.1 bt156.2.1 bt156.2.2.1 bt156.2.2.2).bind fun bt164 => ((laws_eqDev.f k bt164.1 bt164.2.1 bt164.2.2.1 bt164.2.2.2 bt111.1 bt111.2.1 bt111.2.2.1 bt111.2.2.2).bind fun t173 => (if t173 = true then (some true) else (some false))))) else (some false))))) else (some false))))) else (some false)))) else (some false))))))))) = some true := h
  clear h
  replace H := Option.bind_eq_some_iff.mp H
  obtain ⟨t102, A1_, H⟩ := H
  have A1 := Aside0.mk A1_
  clear A1_
  (try dsimp only at H)
  by_cases c2 : t102 < 0
  · rw [if_pos c2] at H
    have c2b0 : decide (t102 < 0) = true := decide_eq_true c2
    clear c2
    clear H
    (try clear HB)
    have H0 := Aside0.mk (Hist.refl w)
    go_enter Try.func10, Try.ntmps10
    go_wp2_with (first | ((with_reducible refine gate_dst (N := 1) rfl ?_); refine mk ?hw (N := 1) ?hd (cs := #[.slice A0_0 l0_0.length c0_0, .slice A0_1 l0_1.length c0_1, .int .i64 a0_2, .bool a0_3]) (t := 42) ?hr ?_; (case hd => rfl); (case hw => rfl); (case hr => first | (go_simp; done) | (go_simp; rfl)); intro g3 hg7 w4 hbox6 hb5; have H8 := Aside0.mk (Hist.step H0.out hb5); clear H0; have B9 := Aside0.mk hbox6; have G10 := Aside0.mk (Nat.le_of_eq hg7.symm); have L11 := Aside0.mk (blk_lt hbox6); clear hb5 hbox6 hg7; refine normL (a' := ?_) ?hn ?_; (case hn => first | (simp only [Act.put, List.setIfInBounds_toArray, List.set_cons_zero, List.set_cons_succ]; rfl) | rfl)) | ((with_reducible refine gate_dst (N := 11) rfl ?_); refine ld ?hw rfl ?hx (blk_fix2 B9.out ⟨G10.out, L11.out⟩ H8.out.fixes.hd) Try.underlying42 rfl (by kernel_rfl) ?_; (case hw => rfl); (case hx => rfl); refine normL (a' := ?_) ?hn ?_; (case hn => first | (simp only [Act.put, List.setIfInBounds_toArray, List.set_cons_zero, List.set_cons_succ]; rfl) | rfl)) | (((with_reducible refine gate_callee (f := 27) rfl ?_)); refine goesW (some 13) rfl ?hw Try.func27 (by kernel_rfl) rfl #[.agg #[.slice A0_0 l0_0.length c0_0, .slice A0_1 l0_1.length c0_1, .int .i64 a0_2, .bool a0_3], .int .i64 1048576] rfl (by (try simp only [List.map_toArray, List.map_cons, List.map_nil]); first | done | rfl | (simp only [List.length_drop, List.length_take]; rfl)) ?_; (case hw => rfl); with_reducible refine (laws_szDev.calls k _ _ l0_0 _ _ l0_1 a0_2 a0_3 1048576 t102 _ ?side1 ?side2 ?side3 ?side4 A1.out).mono ?_; (case side1 => exact Kd.C_below HR0_0.out H8.out.below); (case side2 => exact HC0_0.out); (case side3 => exact Kd.C_below HR0_1.out H8.out.below); (case side4 => exact HC0_1.out); rintro e w12 ⟨rfl, hb13⟩; refine ⟨_, rfl, ?_⟩; have H14 := Aside0.mk (Hist.pass H8.out hb13); clear H8; clear hb13; refine normL (a' := ?_) ?hn ?_; (case hn => first | (simp only [Act.put, List.setIfInBounds_toArray, List.set_cons_zero, List.set_cons_succ]; rfl) | rfl)))
    go_ret
    exact ⟨rfl, by first | exact H14.out.below | exact Drawn0.refl _⟩
  · rw [if_neg c2] at H
    have c2b0 : decide (t102 < 0) = false := decide_eq_false c2
    clear c2
    replace H := Option.bind_eq_some_iff.mp H
    obtain ⟨⟨t103, t106, t109, t110⟩, A15_, H⟩ := H
    have A15 := Aside0.mk A15_
    clear A15_
    (try dsimp only at H)
    replace H := Option.bind_eq_some_iff.mp H
    obtain ⟨⟨t111, t114, t117, t118⟩, A16_, H⟩ := H
    have A16 := Aside0.mk A16_
    clear A16_
    (try dsimp only at H)
    replace H := Option.bind_eq_some_iff.mp H
    obtain ⟨⟨t120, t123, t126, t127⟩, A17_, H⟩ := H
    have A17 := Aside0.mk A17_
    clear A17_
    (try dsimp only at H)
    replace H := Option.bind_eq_some_iff.mp H
    obtain ⟨⟨t129, t132, t135, t136⟩, A18_, H⟩ := H
    have A18 := Aside0.mk A18_
    clear A18_
    (try dsimp only at H)
    replace H := Option.bind_eq_some_iff.mp H
    obtain ⟨t138, A19_, H⟩ := H
    have A19 := Aside0.mk A19_
    clear A19_
    (try dsimp only at H)
    by_cases c20 : t138 = true
    · rw [if_pos c20] at H
      subst c20
      replace H := Option.bind_eq_some_iff.mp H
      obtain ⟨⟨t139, t142, t145, t146⟩, A21_, H⟩ := H
      have A21 := Aside0.mk A21_
      clear A21_
      (try dsimp only at H)
      replace H := Option.bind_eq_some_iff.mp H
      obtain ⟨t147, A22_, H⟩ := H
      have A22 := Aside0.mk A22_
      clear A22_
      (try dsimp only at H)
      by_cases c23 : t147 = true
      · rw [if_pos c23] at H
        subst c23
        replace H := Option.bind_eq_some_iff.mp H
        obtain ⟨⟨t148, t149, t150⟩, A24_, H⟩ := H
        have A24 := Aside0.mk A24_
        clear A24_
        (try dsimp only at H)
        by_cases c25 : t148 < 0
        · rw [if_pos c25] at H
          exact absurd H (by simp)
        · rw [if_neg c25] at H
          have c25b0 : decide (t148 < 0) = false := decide_eq_false c25
          clear c25
          replace H := Option.bind_eq_some_iff.mp H
          obtain ⟨t151, A26_, H⟩ := H
          have A26 := Aside0.mk A26_
          clear A26_
          (try dsimp only at H)
          by_cases c27 : t151 = true
          · rw [if_pos c27] at H
            subst c27
            replace H := Option.bind_eq_some_iff.mp H
            obtain ⟨⟨t152, t153, t154⟩, A28_, H⟩ := H
            have A28 := Aside0.mk A28_
            clear A28_
            (try dsimp only at H)
            replace H := Option.bind_eq_some_iff.mp H
            obtain ⟨t155, A29_, H⟩ := H
            have A29 := Aside0.mk A29_
            clear A29_
            (try dsimp only at H)
            by_cases c30 : t155 < 0
            · rw [if_pos c30] at H
              exact absurd H (by simp)
            · rw [if_neg c30] at H
              have c30b0 : decide (t155 < 0) = false := decide_eq_false c30
              clear c30
              by_cases c31 : t155 = t152
              · rw [if_pos c31] at H
                have c31b0 : (t155 == t152) = true := beq_iff_eq.mpr c31
                have c31b1 : (t155 != t152) = false := bne_eq_false_iff_eq.mpr c31
                clear c31
                replace H := Option.bind_eq_some_iff.mp H
                obtain ⟨⟨t156, t159, t162, t163⟩, A32_, H⟩ := H
                have A32 := Aside0.mk A32_
                clear A32_
                (try dsimp only at H)
                replace H := Option.bind_eq_some_iff.mp H
                obtain ⟨⟨t164, t167, t170, t171⟩, A33_, H⟩ := H
                have A33 := Aside0.mk A33_
                clear A33_
                (try dsimp only at H)
                replace H := Option.bind_eq_some_iff.mp H
                obtain ⟨t173, A34_, H⟩ := H
                have A34 := Aside0.mk A34_
                clear A34_
                (try dsimp only at H)
                by_cases c35 : t173 = true
                · rw [if_pos c35] at H
                  subst c35
                  clear H
                  (try clear HB)
                  have H0 := Aside0.mk (Hist.refl w)
                  go_enter Try.func10, Try.ntmps10
                  go_wp2_with (first | ((with_reducible refine gate_dst (N := 1) rfl ?_); refine mk ?hw (N := 1) ?hd (cs := #[.slice A0_0 l0_0.length c0_0, .slice A0_1 l0_1.length c0_1, .int .i64 a0_2, .bool a0_3]) (t := 42) ?hr ?_; (case hd => rfl); (case hw => rfl); (case hr => first | (go_simp; done) | (go_simp; rfl)); intro g36 hg40 w37 hbox39 hb38; have H41 := Aside0.mk (Hist.step H0.out hb38); clear H0; have B42 := Aside0.mk hbox39; have G43 := Aside0.mk (Nat.le_of_eq hg40.symm); have L44 := Aside0.mk (blk_lt hbox39); clear hb38 hbox39 hg40; refine normL (a' := ?_) ?hn ?_; (case hn => first | (simp only [Act.put, List.setIfInBounds_toArray, List.set_cons_zero, List.set_cons_succ]; rfl) | rfl)) | ((with_reducible refine gate_dst (N := 11) rfl ?_); refine ld ?hw rfl ?hx (blk_fix2 B42.out ⟨G43.out, L44.out⟩ H41.out.fixes.hd) Try.underlying42 rfl (by kernel_rfl) ?_; (case hw => rfl); (case hx => rfl); refine normL (a' := ?_) ?hn ?_; (case hn => first | (simp only [Act.put, List.setIfInBounds_toArray, List.set_cons_zero, List.set_cons_succ]; rfl) | rfl)) | (((with_reducible refine gate_callee (f := 27) rfl ?_)); refine goesW (some 13) rfl ?hw Try.func27 (by kernel_rfl) rfl #[.agg #[.slice A0_0 l0_0.length c0_0, .slice A0_1 l0_1.length c0_1, .int .i64 a0_2, .bool a0_3], .int .i64 1048576] rfl (by (try simp only [List.map_toArray, List.map_cons, List.map_nil]); first | done | rfl | (simp only [List.length_drop, List.length_take]; rfl)) ?_; (case hw => rfl); with_reducible refine (laws_szDev.calls k _ _ l0_0 _ _ l0_1 a0_2 a0_3 1048576 t102 _ ?side1 ?side2 ?side3 ?side4 A1.out).mono ?_; (case side1 => exact Kd.C_below HR0_0.out H41.out.below); (case side2 => exact HC0_0.out); (case side3 => exact Kd.C_below HR0_1.out H41.out.below); (case side4 => exact HC0_1.out); rintro e w45 ⟨rfl, hb46⟩; refine ⟨_, rfl, ?_⟩; have H47 := Aside0.mk (Hist.pass H41.out hb46); clear H41; clear hb46; refine normL (a' := ?_) ?hn ?_; (case hn => first | (simp only [Act.put, List.setIfInBounds_toArray, List.set_cons_zero, List.set_cons_succ]; rfl) | rfl)) | ((with_reducible refine gate_dst (N := 16) rfl ?_); refine ld ?hw rfl ?hx (blk_fix2 B42.out ⟨G43.out, L44.out⟩ H47.out.fixes.hd) Try.underlying42 rfl (by kernel_rfl) ?_; (case hw => rfl); (case hx => rfl); refine normL (a' := ?_) ?hn ?_; (case hn => first | (simp only [Act.put, List.setIfInBounds_toArray, List.set_cons_zero, List.set_cons_succ]; rfl) | rfl)) | (((with_reducible refine gate_callee (f := 29) rfl ?_)); refine goesW (some 17) rfl ?hw Try.func29 (by kernel_rfl) rfl #[.agg #[.slice A0_0 l0_0.length c0_0, .slice A0_1 l0_1.length c0_1, .int .i64 a0_2, .bool a0_3]] rfl (by (try simp only [List.map_toArray, List.map_cons, List.map_nil]); first | done | rfl | (simp only [List.length_drop, List.length_take]; rfl)) ?_; (case hw => rfl); with_reducible refine (laws_toDev.calls k _ _ l0_0 _ _ l0_1 a0_2 a0_3 t103 t106 t109 t110 _ ?side1 ?side2 ?side3 ?side4 A15.out).mono ?_; (case side1 => exact Kd.C_below HR0_0.out H47.out.below); (case side2 => exact HC0_0.out); (case side3 => exact Kd.C_below HR0_1.out H47.out.below); (case side4 => exact HC0_1.out); rintro e w48 ⟨v49, v50, rfl, ho51, ho52, hb53⟩; refine ⟨_, rfl, ?_⟩; have H54 := Aside0.mk (Hist.step H47.out hb53); clear H47; clear hb53; have F57 := Aside0.mk ho51; clear ho51; have F61 := Aside0.mk ho52; clear ho52; obtain ⟨Ao55, co56, eo63⟩ := Kd.R_slice F57.out; (first | subst eo63 | (injection eo63 with f1_ f2_ f3_; have f4_ := f1_.symm; have f5_ := f3_.symm; clear f1_ f2_ f3_; subst f4_; subst f5_)); obtain ⟨Ao59, co60, eo64⟩ := Kd.S_slice F61.out; (first | subst eo64 | (injection eo64 with f1_ f2_ f3_; have f4_ := f1_.symm; have f5_ := f3_.symm; clear f1_ f2_ f3_; subst f4_; subst f5_)); refine normL (a' := ?_) ?hn ?_; (case hn => first | (simp only [Act.put, List.setIfInBounds_toArray, List.set_cons_zero, List.set_cons_succ]; rfl) | rfl)) | (((with_reducible refine gate_callee (f := 37) rfl ?_)); refine goesW (some 18) rfl ?hw Try.func37 (by kernel_rfl) rfl #[.agg #[.slice Ao55 t103.length co56, .slice Ao59 t106.length co60, .int .i64 t109, .bool t110]] rfl (by (try simp only [List.map_toArray, List.map_cons, List.map_nil]); first | done | rfl | (simp only [List.length_drop, List.length_take]; rfl)) ?_; (case hw => rfl); with_reducible refine (spec_DevSync.calls k _ _ t103 _ _ t106 t109 t110 t111 t114 t117 t118 _ ?side1 ?side2 ?side3 ?side4 A16.out).mono ?_; (case side1 => exact (Kd.R_reads' (R_fix F57.out H54.out.fixes.hd)).2.2); (case side2 => exact R_capn (R_fix F57.out H54.out.fixes.hd)); (case side3 => exact (Kd.S_reads' (S_fix F61.out H54.out.fixes.hd)).2.2); (case side4 => exact S_capn (S_fix F61.out H54.out.fixes.hd)); rintro e w65 ⟨v66, v67, rfl, ho68, ho69, hb70⟩; refine ⟨_, rfl, ?_⟩; have H71 := Aside0.mk (Hist.step H54.out hb70); clear H54; clear hb70; have F74 := Aside0.mk ho68; clear ho68; have F78 := Aside0.mk ho69; clear ho69; obtain ⟨Ao72, co73, eo80⟩ := Kd.R_slice F74.out; (first | subst eo80 | (injection eo80 with f1_ f2_ f3_; have f4_ := f1_.symm; have f5_ := f3_.symm; clear f1_ f2_ f3_; subst f4_; subst f5_)); obtain ⟨Ao76, co77, eo81⟩ := Kd.S_slice F78.out; (first | subst eo81 | (injection eo81 with f1_ f2_ f3_; have f4_ := f1_.symm; have f5_ := f3_.symm; clear f1_ f2_ f3_; subst f4_; subst f5_)); refine normL (a' := ?_) ?hn ?_; (case hn => first | (simp only [Act.put, List.setIfInBounds_toArray, List.set_cons_zero, List.set_cons_succ]; rfl) | rfl)) | ((with_reducible refine gate_dst (N := 4) rfl ?_); refine mk ?hw (N := 4) ?hd (cs := #[.slice none 0 0, .slice none 0 0, .int .i64 0, .bool false]) (t := 35) ?hr ?_; (case hd => rfl); (case hw => rfl); (case hr => first | (go_simp; done) | (go_simp; rfl)); intro g82 hg86 w83 hbox85 hb84; have H87 := Aside0.mk (Hist.step H71.out hb84); clear H71; have B88 := Aside0.mk hbox85; have G89 := Aside0.mk (Nat.le_of_eq hg86.symm); have L90 := Aside0.mk (blk_lt hbox85); clear hb84 hbox85 hg86; refine normL (a' := ?_) ?hn ?_; (case hn => first | (simp only [Act.put, List.setIfInBounds_toArray, List.set_cons_zero, List.set_cons_succ]; rfl) | rfl)) | ((with_reducible refine gate_store (t := 35) (p := 4) rfl ?_); refine st_all ?hw ?hN rfl ?hp (cs := #[.slice Ao72 t111.length co73, .slice Ao76 t114.length co77, .int .i64 t117, .bool t118]) ?hx (blk_fix2 B88.out ⟨G89.out, L90.out⟩ H87.out.fixes.hd) (by kernel_rfl) rfl (by simp [Value.oneCell']) ?_; (case hw => rfl); (case hN => rfl); (case hp => rfl); (case hx => rfl); intro w91 hbox92 hs93; have H94 : Aside0 (Hist w [(w91, w65.heap.size, w83.heap.size), (w65, w48.heap.size, w65.heap.size), (w48, w45.heap.size, w48.heap.size), (w37, w.heap.size, w37.heap.size)] w91) := ⟨Hist.mark' (w := w83) (b := w65.heap.size) (t := w83.heap.size) (l1 := []) (l2 := [(w65, w48.heap.size, w65.heap.size), (w48, w45.heap.size, w48.heap.size), (w37, w.heap.size, w37.heap.size)]) (by simp only [List.cons_append, List.nil_append]) (by simp only [List.cons_append, List.nil_append]) H87.out hs93 (fun k_ hk_ => by rw [hk_]; exact ⟨G89.out, L90.out⟩)⟩; have B88n := Aside0.mk hbox92; clear hs93 hbox92 H87 B88; have B88 := B88n; clear B88n) | ((with_reducible refine gate_dst (N := 19) rfl ?_); refine ld ?hw rfl ?hx (blk_fix2 B42.out ⟨G43.out, L44.out⟩ H94.out.fixes.tl.tl.tl.hd) Try.underlying42 rfl (by kernel_rfl) ?_; (case hw => rfl); (case hx => rfl); refine normL (a' := ?_) ?hn ?_; (case hn => first | (simp only [Act.put, List.setIfInBounds_toArray, List.set_cons_zero, List.set_cons_succ]; rfl) | rfl)) | (((with_reducible refine gate_callee (f := 29) rfl ?_)); refine goesW (some 20) rfl ?hw Try.func29 (by kernel_rfl) rfl #[.agg #[.slice A0_0 l0_0.length c0_0, .slice A0_1 l0_1.length c0_1, .int .i64 a0_2, .bool a0_3]] rfl (by (try simp only [List.map_toArray, List.map_cons, List.map_nil]); first | done | rfl | (simp only [List.length_drop, List.length_take]; rfl)) ?_; (case hw => rfl); with_reducible refine (laws_toDev.calls k _ _ l0_0 _ _ l0_1 a0_2 a0_3 t120 t123 t126 t127 _ ?side1 ?side2 ?side3 ?side4 A17.out).mono ?_; (case side1 => exact Kd.C_below HR0_0.out H94.out.below); (case side2 => exact HC0_0.out); (case side3 => exact Kd.C_below HR0_1.out H94.out.below); (case side4 => exact HC0_1.out); rintro e w95 ⟨v96, v97, rfl, ho98, ho99, hb100⟩; refine ⟨_, rfl, ?_⟩; have H101 := Aside0.mk (Hist.step H94.out hb100); clear H94; clear hb100; have F104 := Aside0.mk ho98; clear ho98; have F108 := Aside0.mk ho99; clear ho99; obtain ⟨Ao102, co103, eo110⟩ := Kd.R_slice F104.out; (first | subst eo110 | (injection eo110 with f1_ f2_ f3_; have f4_ := f1_.symm; have f5_ := f3_.symm; clear f1_ f2_ f3_; subst f4_; subst f5_)); obtain ⟨Ao106, co107, eo111⟩ := Kd.S_slice F108.out; (first | subst eo111 | (injection eo111 with f1_ f2_ f3_; have f4_ := f1_.symm; have f5_ := f3_.symm; clear f1_ f2_ f3_; subst f4_; subst f5_)); refine normL (a' := ?_) ?hn ?_; (case hn => first | (simp only [Act.put, List.setIfInBounds_toArray, List.set_cons_zero, List.set_cons_succ]; rfl) | rfl)) | ((with_reducible refine gate_dst (N := 5) rfl ?_); refine mk ?hw (N := 5) ?hd (cs := #[.slice none 0 0, .slice none 0 0, .int .i64 0, .bool false]) (t := 35) ?hr ?_; (case hd => rfl); (case hw => rfl); (case hr => first | (go_simp; done) | (go_simp; rfl)); intro g112 hg116 w113 hbox115 hb114; have H117 := Aside0.mk (Hist.step H101.out hb114); clear H101; have B118 := Aside0.mk hbox115; have G119 := Aside0.mk (Nat.le_of_eq hg116.symm); have L120 := Aside0.mk (blk_lt hbox115); clear hb114 hbox115 hg116; refine normL (a' := ?_) ?hn ?_; (case hn => first | (simp only [Act.put, List.setIfInBounds_toArray, List.set_cons_zero, List.set_cons_succ]; rfl) | rfl)) | ((with_reducible refine gate_store (t := 35) (p := 5) rfl ?_); refine st_all ?hw ?hN rfl ?hp (cs := #[.slice Ao102 t120.length co103, .slice Ao106 t123.length co107, .int .i64 t126, .bool t127]) ?hx (blk_fix2 B118.out ⟨G119.out, L120.out⟩ H117.out.fixes.hd) (by kernel_rfl) rfl (by simp [Value.oneCell']) ?_; (case hw => rfl); (case hN => rfl); (case hp => rfl); (case hx => rfl); intro w121 hbox122 hs123; have H124 : Aside0 (Hist w [(w121, w95.heap.size, w113.heap.size), (w95, w91.heap.size, w95.heap.size), (w91, w65.heap.size, w83.heap.size), (w65, w48.heap.size, w65.heap.size), (w48, w45.heap.size, w48.heap.size), (w37, w.heap.size, w37.heap.size)] w121) := ⟨Hist.mark' (w := w113) (b := w95.heap.size) (t := w113.heap.size) (l1 := []) (l2 := [(w95, w91.heap.size, w95.heap.size), (w91, w65.heap.size, w83.heap.size), (w65, w48.heap.size, w65.heap.size), (w48, w45.heap.size, w48.heap.size), (w37, w.heap.size, w37.heap.size)]) (by simp only [List.cons_append, List.nil_append]) (by simp only [List.cons_append, List.nil_append]) H117.out hs123 (fun k_ hk_ => by rw [hk_]; exact ⟨G119.out, L120.out⟩)⟩; have B118n := Aside0.mk hbox122; clear hs123 hbox122 H117 B118; have B118 := B118n; clear B118n) | ((with_reducible refine gate_dst (N := 21) rfl ?_); refine ld ?hw rfl ?hx (blk_fix2 B118.out ⟨G119.out, L120.out⟩ H124.out.fixes.hd) Try.underlying35 rfl (by kernel_rfl) ?_; (case hw => rfl); (case hx => rfl); refine normL (a' := ?_) ?hn ?_; (case hn => first | (simp only [Act.put, List.setIfInBounds_toArray, List.set_cons_zero, List.set_cons_succ]; rfl) | rfl)) | (((with_reducible refine gate_callee (f := 38) rfl ?_)); refine goesW (some 22) rfl ?hw Try.func38 (by kernel_rfl) rfl #[.agg #[.slice Ao102 t120.length co103, .slice Ao106 t123.length co107, .int .i64 t126, .bool t127]] rfl (by (try simp only [List.map_toArray, List.map_cons, List.map_nil]); first | done | rfl | (simp only [List.length_drop, List.length_take]; rfl)) ?_; (case hw => rfl); with_reducible refine (impl_DevSync.calls _ _ t120 _ _ t123 t126 t127 t129 t132 t135 t136 _ ?side1 ?side2 ?side3 ?side4 A18.out).mono ?_; (case side1 => exact (Kd.R_reads' (R_fix F104.out H124.out.fixes.tl.hd)).2.2); (case side2 => exact R_capn (R_fix F104.out H124.out.fixes.tl.hd)); (case side3 => exact (Kd.S_reads' (S_fix F108.out H124.out.fixes.tl.hd)).2.2); (case side4 => exact S_capn (S_fix F108.out H124.out.fixes.tl.hd)); rintro e w125 ⟨v126, v127, rfl, ho128, ho129, hb130⟩; refine ⟨_, rfl, ?_⟩; have H131 := Aside0.mk (Hist.step H124.out hb130); clear H124; clear hb130; have F134 := Aside0.mk ho128; clear ho128; have F138 := Aside0.mk ho129; clear ho129; obtain ⟨Ao132, co133, eo140⟩ := Kd.R_slice F134.out; (first | subst eo140 | (injection eo140 with f1_ f2_ f3_; have f4_ := f1_.symm; have f5_ := f3_.symm; clear f1_ f2_ f3_; subst f4_; subst f5_)); obtain ⟨Ao136, co137, eo141⟩ := Kd.S_slice F138.out; (first | subst eo141 | (injection eo141 with f1_ f2_ f3_; have f4_ := f1_.symm; have f5_ := f3_.symm; clear f1_ f2_ f3_; subst f4_; subst f5_)); refine normL (a' := ?_) ?hn ?_; (case hn => first | (simp only [Act.put, List.setIfInBounds_toArray, List.set_cons_zero, List.set_cons_succ]; rfl) | rfl)) | ((with_reducible refine gate_dst (N := 6) rfl ?_); refine mk ?hw (N := 6) ?hd (cs := #[.slice none 0 0, .slice none 0 0, .int .i64 0, .bool false]) (t := 35) ?hr ?_; (case hd => rfl); (case hw => rfl); (case hr => first | (go_simp; done) | (go_simp; rfl)); intro g142 hg146 w143 hbox145 hb144; have H147 := Aside0.mk (Hist.step H131.out hb144); clear H131; have B148 := Aside0.mk hbox145; have G149 := Aside0.mk (Nat.le_of_eq hg146.symm); have L150 := Aside0.mk (blk_lt hbox145); clear hb144 hbox145 hg146; refine normL (a' := ?_) ?hn ?_; (case hn => first | (simp only [Act.put, List.setIfInBounds_toArray, List.set_cons_zero, List.set_cons_succ]; rfl) | rfl)) | ((with_reducible refine gate_store (t := 35) (p := 6) rfl ?_); refine st_all ?hw ?hN rfl ?hp (cs := #[.slice Ao132 t129.length co133, .slice Ao136 t132.length co137, .int .i64 t135, .bool t136]) ?hx (blk_fix2 B148.out ⟨G149.out, L150.out⟩ H147.out.fixes.hd) (by kernel_rfl) rfl (by simp [Value.oneCell']) ?_; (case hw => rfl); (case hN => rfl); (case hp => rfl); (case hx => rfl); intro w151 hbox152 hs153; have H154 : Aside0 (Hist w [(w151, w125.heap.size, w143.heap.size), (w125, w121.heap.size, w125.heap.size), (w121, w95.heap.size, w113.heap.size), (w95, w91.heap.size, w95.heap.size), (w91, w65.heap.size, w83.heap.size), (w65, w48.heap.size, w65.heap.size), (w48, w45.heap.size, w48.heap.size), (w37, w.heap.size, w37.heap.size)] w151) := ⟨Hist.mark' (w := w143) (b := w125.heap.size) (t := w143.heap.size) (l1 := []) (l2 := [(w125, w121.heap.size, w125.heap.size), (w121, w95.heap.size, w113.heap.size), (w95, w91.heap.size, w95.heap.size), (w91, w65.heap.size, w83.heap.size), (w65, w48.heap.size, w65.heap.size), (w48, w45.heap.size, w48.heap.size), (w37, w.heap.size, w37.heap.size)]) (by simp only [List.cons_append, List.nil_append]) (by simp only [List.cons_append, List.nil_append]) H147.out hs153 (fun k_ hk_ => by rw [hk_]; exact ⟨G149.out, L150.out⟩)⟩; have B148n := Aside0.mk hbox152; clear hs153 hbox152 H147 B148; have B148 := B148n; clear B148n) | ((with_reducible refine gate_dst (N := 23) rfl ?_); refine ld ?hw rfl ?hx (blk_fix2 B148.out ⟨G149.out, L150.out⟩ H154.out.fixes.hd) Try.underlying35 rfl (by kernel_rfl) ?_; (case hw => rfl); (case hx => rfl); refine normL (a' := ?_) ?hn ?_; (case hn => first | (simp only [Act.put, List.setIfInBounds_toArray, List.set_cons_zero, List.set_cons_succ]; rfl) | rfl)) | ((with_reducible refine gate_dst (N := 24) rfl ?_); refine ld ?hw rfl ?hx (blk_fix2 B88.out ⟨G89.out, L90.out⟩ H154.out.fixes.tl.tl.tl.tl.hd) Try.underlying35 rfl (by kernel_rfl) ?_; (case hw => rfl); (case hx => rfl); refine normL (a' := ?_) ?hn ?_; (case hn => first | (simp only [Act.put, List.setIfInBounds_toArray, List.set_cons_zero, List.set_cons_succ]; rfl) | rfl)) | (((with_reducible refine gate_callee (f := 24) rfl ?_)); refine goesW (some 25) rfl ?hw Try.func24 (by kernel_rfl) rfl #[.agg #[.slice Ao132 t129.length co133, .slice Ao136 t132.length co137, .int .i64 t135, .bool t136], .agg #[.slice Ao72 t111.length co73, .slice Ao76 t114.length co77, .int .i64 t117, .bool t118]] rfl (by (try simp only [List.map_toArray, List.map_cons, List.map_nil]); first | done | rfl | (simp only [List.length_drop, List.length_take]; rfl)) ?_; (case hw => rfl); with_reducible refine (laws_eqDev.calls k _ _ t129 _ _ t132 t135 t136 _ _ t111 _ _ t114 t117 t118 true _ ?side1 ?side2 ?side3 ?side4 ?side5 ?side6 ?side7 ?side8 A19.out).mono ?_; (case side1 => exact (Kd.R_reads' (R_fix F134.out H154.out.fixes.tl.hd)).2.2); (case side2 => exact R_capn (R_fix F134.out H154.out.fixes.tl.hd)); (case side3 => exact (Kd.S_reads' (S_fix F138.out H154.out.fixes.tl.hd)).2.2); (case side4 => exact S_capn (S_fix F138.out H154.out.fixes.tl.hd)); (case side5 => exact (Kd.R_reads' (R_fix F74.out H154.out.fixes.tl.tl.tl.tl.tl.hd)).2.2); (case side6 => exact R_capn (R_fix F74.out H154.out.fixes.tl.tl.tl.tl.tl.hd)); (case side7 => exact (Kd.S_reads' (S_fix F78.out H154.out.fixes.tl.tl.tl.tl.tl.hd)).2.2); (case side8 => exact S_capn (S_fix F78.out H154.out.fixes.tl.tl.tl.tl.tl.hd)); rintro e w155 ⟨rfl, hb156⟩; refine ⟨_, rfl, ?_⟩; have H157 := Aside0.mk (Hist.pass H154.out hb156); clear H154; clear hb156; refine normL (a' := ?_) ?hn ?_; (case hn => first | (simp only [Act.put, List.setIfInBounds_toArray, List.set_cons_zero, List.set_cons_succ]; rfl) | rfl)))
                  have H158 := Aside0.mk (Hist.drew H157.out)
                  clear H157
                  refine start_ (n := 5) (S := fun w' => w'.heap[g112]? = some (.cells #[.slice Ao102 t120.length co103, .slice Ao106 t123.length co107, .int .i64 t126, .bool t127] 35 (0, 0)) ∧ w'.heap[g36]? = some (.cells #[.slice A0_0 l0_0.length c0_0, .slice A0_1 l0_1.length c0_1, .int .i64 a0_2, .bool a0_3] 42 (0, 0))) (ds := []) #[false, false, false, false, false] (by kernel_rfl) rfl rfl ⟨(blk_fix2 B118.out ⟨G119.out, L120.out⟩ H158.out.fixes.tl.tl.hd), (blk_fix2 B42.out ⟨G43.out, L44.out⟩ H158.out.fixes.tl.tl.tl.tl.tl.tl.tl.hd)⟩ (fun hHeld => ?_)
                  generalize w155.drew = w159 at H158 hHeld ⊢
                  refine take_ (i := 0) (N := some 27) (v := .agg #[.slice Ao102 t120.length co103, .slice Ao106 t123.length co107, .int .i64 t126, .bool t127]) (a' := ?aaq160) #[true, false, false, false, false] rfl rfl (by kernel_rfl) (fun _ _ _ h => h) (Or.inl ⟨by rfl, ?ylq160⟩) hHeld ?haq160 ?hhq160
                  case ylq160 =>
                    rintro w' ⟨s0, s1⟩
                    exact ld_run (x := .tmp 5) (by rfl) (by rfl) s0 Try.underlying35 rfl (by kernel_rfl)
                  case haq160 =>
                    simp only [Act.put, List.setIfInBounds_toArray, List.set_cons_zero, List.set_cons_succ, i64_w, i32_w]
                    rfl
                  refine take_ (i := 1) (N := some 28) (v := .agg #[.slice A0_0 l0_0.length c0_0, .slice A0_1 l0_1.length c0_1, .int .i64 a0_2, .bool a0_3]) (a' := ?aaq161) #[true, true, false, false, false] rfl rfl (by kernel_rfl) (fun _ _ _ h => h) (Or.inl ⟨by rfl, ?ylq161⟩) hHeld ?haq161 ?hhq161
                  case ylq161 =>
                    rintro w' ⟨s0, s1⟩
                    exact ld_run (x := .tmp 1) (by rfl) (by rfl) s1 Try.underlying42 rfl (by kernel_rfl)
                  case haq161 =>
                    simp only [Act.put, List.setIfInBounds_toArray, List.set_cons_zero, List.set_cons_succ, i64_w, i32_w]
                    rfl
                  refine one_ (i := 2) (N := some 29) #[true, true, true, false, false] rfl rfl (by kernel_rfl) (by decide) (fun K hK => ?_)
                  refine goes_ Try.func29 (by kernel_rfl) rfl #[.agg #[.slice A0_0 l0_0.length c0_0, .slice A0_1 l0_1.length c0_1, .int .i64 a0_2, .bool a0_3]] (by rfl) rfl rfl (by (try simp only [List.map_toArray, List.map_cons, List.map_nil]); first | done | rfl | (simp only [List.length_drop, List.length_take]; rfl)) ?_
                  with_reducible refine (laws_toDev.calls k _ _ l0_0 _ _ l0_1 a0_2 a0_3 t139 t142 t145 t146 _ ?side1 ?side2 ?side3 ?side4 A21.out).mono ?_
                  (case side1 => exact Kd.C_below HR0_0.out H158.out.below)
                  (case side2 => exact HC0_0.out)
                  (case side3 => exact Kd.C_below HR0_1.out H158.out.below)
                  (case side4 => exact HC0_1.out)
                  rintro e w162 ⟨v163, v164, rfl, ho165, ho166, hb167⟩
                  refine ⟨_, rfl, ?_⟩
                  have H168 := Aside0.mk (Hist.step H158.out hb167)
                  clear H158
                  clear hb167
                  have F171 := Aside0.mk ho165
                  clear ho165
                  have F175 := Aside0.mk ho166
                  clear ho166
                  obtain ⟨Ao169, co170, eo177⟩ := Kd.R_slice F171.out
                  (first | subst eo177 | (injection eo177 with f1_ f2_ f3_; have f4_ := f1_.symm; have f5_ := f3_.symm; clear f1_ f2_ f3_; subst f4_; subst f5_))
                  obtain ⟨Ao173, co174, eo178⟩ := Kd.S_slice F175.out
                  (first | subst eo178 | (injection eo178 with f1_ f2_ f3_; have f4_ := f1_.symm; have f5_ := f3_.symm; clear f1_ f2_ f3_; subst f4_; subst f5_))
                  refine hK.out _ _ ⟨(blk_fix2 B118.out ⟨G119.out, L120.out⟩ H168.out.fixes.tl.tl.tl.hd), (blk_fix2 B42.out ⟨G43.out, L44.out⟩ H168.out.fixes.tl.tl.tl.tl.tl.tl.tl.tl.hd)⟩ (fun hHeld => ?_)
                  clear hK K
                  refine norm_ (a' := ?_) ?_ ?_
                  rotate_left
                  · show Act.put _ (some 29) _ = _
                    simp only [Act.put, List.setIfInBounds_toArray, List.set_cons_zero, List.set_cons_succ, i64_w, i32_w]
                    rfl
                  refine one_ (i := 3) (N := some 30) #[true, true, true, true, false] rfl rfl (by kernel_rfl) (by decide) (fun K hK => ?_)
                  refine goes_ Try.func24 (by kernel_rfl) rfl #[.agg #[.slice Ao102 t120.length co103, .slice Ao106 t123.length co107, .int .i64 t126, .bool t127], .agg #[.slice Ao169 t139.length co170, .slice Ao173 t142.length co174, .int .i64 t145, .bool t146]] (by rfl) rfl rfl (by (try simp only [List.map_toArray, List.map_cons, List.map_nil]); first | done | rfl | (simp only [List.length_drop, List.length_take]; rfl)) ?_
                  with_reducible refine (laws_eqDev.calls k _ _ t120 _ _ t123 t126 t127 _ _ t139 _ _ t142 t145 t146 true _ ?side1 ?side2 ?side3 ?side4 ?side5 ?side6 ?side7 ?side8 A22.out).mono ?_
                  (case side1 => exact (Kd.R_reads' (R_fix F104.out H168.out.fixes.tl.tl.tl.tl.hd)).2.2)
                  (case side2 => exact R_capn (R_fix F104.out H168.out.fixes.tl.tl.tl.tl.hd))
                  (case side3 => exact (Kd.S_reads' (S_fix F108.out H168.out.fixes.tl.tl.tl.tl.hd)).2.2)
                  (case side4 => exact S_capn (S_fix F108.out H168.out.fixes.tl.tl.tl.tl.hd))
                  (case side5 => exact (Kd.R_reads' (R_fix F171.out H168.out.fixes.hd)).2.2)
                  (case side6 => exact R_capn (R_fix F171.out H168.out.fixes.hd))
                  (case side7 => exact (Kd.S_reads' (S_fix F175.out H168.out.fixes.hd)).2.2)
                  (case side8 => exact S_capn (S_fix F175.out H168.out.fixes.hd))
                  rintro e w179 ⟨rfl, hb180⟩
                  refine ⟨_, rfl, ?_⟩
                  have H181 := Aside0.mk (Hist.pass H168.out hb180)
                  clear H168
                  clear hb180
                  refine hK.out _ _ ⟨(blk_fix2 B118.out ⟨G119.out, L120.out⟩ H181.out.fixes.tl.tl.tl.hd), (blk_fix2 B42.out ⟨G43.out, L44.out⟩ H181.out.fixes.tl.tl.tl.tl.tl.tl.tl.tl.hd)⟩ (fun hHeld => ?_)
                  clear hK K
                  refine norm_ (a' := ?_) ?_ ?_
                  rotate_left
                  · show Act.put _ (some 30) _ = _
                    simp only [Act.put, List.setIfInBounds_toArray, List.set_cons_zero, List.set_cons_succ, i64_w, i32_w]
                    rfl
                  refine pure_ (i := 4) (N := some 31) (v := ?_) (a' := ?_) #[true, true, true, true, true] rfl rfl (by kernel_rfl) (fun _ _ _ h => h) (Or.inl ⟨by rfl, ?_⟩) ?_ ?_
                  rotate_left
                  · intro w'
                    go_simp
                    with_reducible rfl
                  rotate_left
                  · simp only [Act.put, List.setIfInBounds_toArray, List.set_cons_zero, List.set_cons_succ, i64_w, i32_w]
                    rfl
                  refine done_ (by kernel_rfl) ?_
                  go_wp2_with (first | ((with_reducible refine gate_dst (N := 32) rfl ?_); refine ld ?hw rfl ?hx (blk_fix2 B118.out ⟨G119.out, L120.out⟩ H181.out.fixes.tl.tl.tl.hd) Try.underlying35 rfl (by kernel_rfl) ?_; (case hw => rfl); (case hx => rfl); refine normL (a' := ?_) ?hn ?_; (case hn => first | (simp only [Act.put, List.setIfInBounds_toArray, List.set_cons_zero, List.set_cons_succ]; rfl) | rfl)) | (((with_reducible refine gate_callee (f := 25) rfl ?_)); refine goesW (some 34) rfl ?hw Try.func25 (by kernel_rfl) rfl #[.agg #[.slice Ao102 t120.length co103, .slice Ao106 t123.length co107, .int .i64 t126, .bool t127], .int .i64 1] rfl (by (try simp only [List.map_toArray, List.map_cons, List.map_nil]); first | done | rfl | (simp only [List.length_drop, List.length_take]; rfl)) ?_; (case hw => rfl); with_reducible refine (mk_laws_markDev (Fixes.at (w := w95) (b := w91.heap.size) (t := w95.heap.size) (l1 := [(w162, w159.heap.size, w162.heap.size), (w151, w125.heap.size, w143.heap.size), (w125, w121.heap.size, w125.heap.size), (w121, w95.heap.size, w113.heap.size)]) (l2 := [(w91, w65.heap.size, w83.heap.size), (w65, w48.heap.size, w65.heap.size), (w48, w45.heap.size, w48.heap.size), (w37, w.heap.size, w37.heap.size)]) (by simp only [List.cons_append, List.nil_append]) H181.out.fixes) (R_fix F104.out H181.out.fixes.tl.tl.tl.tl.hd) (S_fix F108.out H181.out.fixes.tl.tl.tl.tl.hd) (fun _ h_ => h_.1) A24.out).mono ?_; rintro e w182 ⟨rfl, hr184, hr185, hs183⟩; refine ⟨_, rfl, ?_⟩; have H186 : Aside0 (Hist w [(w162, w159.heap.size, w162.heap.size), (w151, w125.heap.size, w143.heap.size), (w125, w121.heap.size, w125.heap.size), (w121, w95.heap.size, w113.heap.size), (w182, w91.heap.size, w95.heap.size), (w91, w65.heap.size, w83.heap.size), (w65, w48.heap.size, w65.heap.size), (w48, w45.heap.size, w48.heap.size), (w37, w.heap.size, w37.heap.size)] w182) := ⟨Hist.mark' (w := w95) (b := w91.heap.size) (t := w95.heap.size) (l1 := [(w162, w159.heap.size, w162.heap.size), (w151, w125.heap.size, w143.heap.size), (w125, w121.heap.size, w125.heap.size), (w121, w95.heap.size, w113.heap.size)]) (l2 := [(w91, w65.heap.size, w83.heap.size), (w65, w48.heap.size, w65.heap.size), (w48, w45.heap.size, w48.heap.size), (w37, w.heap.size, w37.heap.size)]) (by simp only [List.cons_append, List.nil_append]) (by simp only [List.cons_append, List.nil_append]) H181.out hs183 (fun k_ hk_ => by first | exact hk_.2 | (rcases hk_ with hk_ | hk_ <;> exact hk_.2))⟩; clear H181 hs183; have F187 := Aside0.mk hr184; have E188 := Aside0.mk (Kd.R_reads' hr184).1; clear hr184; have F189 := Aside0.mk hr185; have E190 := Aside0.mk (Kd.S_reads' hr185).1; clear hr185; refine normL (a' := ?_) ?hn ?_; (case hn => first | (simp only [Act.put, List.setIfInBounds_toArray, List.set_cons_zero, List.set_cons_succ]; rfl) | rfl)) | ((with_reducible refine gate_dst (N := 38) rfl ?_); refine ld ?hw rfl ?hx (blk_fix2 B148.out ⟨G149.out, L150.out⟩ H186.out.fixes.tl.hd) Try.underlying35 rfl (by kernel_rfl) ?_; (case hw => rfl); (case hx => rfl); refine normL (a' := ?_) ?hn ?_; (case hn => first | (simp only [Act.put, List.setIfInBounds_toArray, List.set_cons_zero, List.set_cons_succ]; rfl) | rfl)) | ((with_reducible refine gate_dst (N := 39) rfl ?_); refine ld ?hw rfl ?hx (blk_fix2 B88.out ⟨G89.out, L90.out⟩ H186.out.fixes.tl.tl.tl.tl.tl.hd) Try.underlying35 rfl (by kernel_rfl) ?_; (case hw => rfl); (case hx => rfl); refine normL (a' := ?_) ?hn ?_; (case hn => first | (simp only [Act.put, List.setIfInBounds_toArray, List.set_cons_zero, List.set_cons_succ]; rfl) | rfl)) | (((with_reducible refine gate_callee (f := 24) rfl ?_)); refine goesW (some 40) rfl ?hw Try.func24 (by kernel_rfl) rfl #[.agg #[.slice Ao132 t129.length co133, .slice Ao136 t132.length co137, .int .i64 t135, .bool t136], .agg #[.slice Ao72 t111.length co73, .slice Ao76 t114.length co77, .int .i64 t117, .bool t118]] rfl (by (try simp only [List.map_toArray, List.map_cons, List.map_nil]); first | done | rfl | (simp only [List.length_drop, List.length_take]; rfl)) ?_; (case hw => rfl); with_reducible refine (laws_eqDev.calls k _ _ t129 _ _ t132 t135 t136 _ _ t111 _ _ t114 t117 t118 true _ ?side1 ?side2 ?side3 ?side4 ?side5 ?side6 ?side7 ?side8 A26.out).mono ?_; (case side1 => exact (Kd.R_reads' (R_fix F134.out H186.out.fixes.tl.tl.hd)).2.2); (case side2 => exact R_capn (R_fix F134.out H186.out.fixes.tl.tl.hd)); (case side3 => exact (Kd.S_reads' (S_fix F138.out H186.out.fixes.tl.tl.hd)).2.2); (case side4 => exact S_capn (S_fix F138.out H186.out.fixes.tl.tl.hd)); (case side5 => exact (Kd.R_reads' (R_fix F74.out H186.out.fixes.tl.tl.tl.tl.tl.tl.hd)).2.2); (case side6 => exact R_capn (R_fix F74.out H186.out.fixes.tl.tl.tl.tl.tl.tl.hd)); (case side7 => exact (Kd.S_reads' (S_fix F78.out H186.out.fixes.tl.tl.tl.tl.tl.tl.hd)).2.2); (case side8 => exact S_capn (S_fix F78.out H186.out.fixes.tl.tl.tl.tl.tl.tl.hd)); rintro e w191 ⟨rfl, hb192⟩; refine ⟨_, rfl, ?_⟩; have H193 := Aside0.mk (Hist.pass H186.out hb192); clear H186; clear hb192; refine normL (a' := ?_) ?hn ?_; (case hn => first | (simp only [Act.put, List.setIfInBounds_toArray, List.set_cons_zero, List.set_cons_succ]; rfl) | rfl)) | ((with_reducible refine gate_dst (N := 43) rfl ?_); refine ld ?hw rfl ?hx (blk_fix2 B148.out ⟨G149.out, L150.out⟩ H193.out.fixes.tl.hd) Try.underlying35 rfl (by kernel_rfl) ?_; (case hw => rfl); (case hx => rfl); refine normL (a' := ?_) ?hn ?_; (case hn => first | (simp only [Act.put, List.setIfInBounds_toArray, List.set_cons_zero, List.set_cons_succ]; rfl) | rfl)) | (((with_reducible refine gate_callee (f := 25) rfl ?_)); refine goesW (some 45) rfl ?hw Try.func25 (by kernel_rfl) rfl #[.agg #[.slice Ao132 t129.length co133, .slice Ao136 t132.length co137, .int .i64 t135, .bool t136], .int .i64 1] rfl (by (try simp only [List.map_toArray, List.map_cons, List.map_nil]); first | done | rfl | (simp only [List.length_drop, List.length_take]; rfl)) ?_; (case hw => rfl); with_reducible refine (mk_laws_markDev (Fixes.at (w := w125) (b := w121.heap.size) (t := w125.heap.size) (l1 := [(w162, w159.heap.size, w162.heap.size), (w151, w125.heap.size, w143.heap.size)]) (l2 := [(w121, w95.heap.size, w113.heap.size), (w182, w91.heap.size, w95.heap.size), (w91, w65.heap.size, w83.heap.size), (w65, w48.heap.size, w65.heap.size), (w48, w45.heap.size, w48.heap.size), (w37, w.heap.size, w37.heap.size)]) (by simp only [List.cons_append, List.nil_append]) H193.out.fixes) (R_fix F134.out H193.out.fixes.tl.tl.hd) (S_fix F138.out H193.out.fixes.tl.tl.hd) (fun _ h_ => h_.1) A28.out).mono ?_; rintro e w194 ⟨rfl, hr196, hr197, hs195⟩; refine ⟨_, rfl, ?_⟩; have H198 : Aside0 (Hist w [(w162, w159.heap.size, w162.heap.size), (w151, w125.heap.size, w143.heap.size), (w194, w121.heap.size, w125.heap.size), (w121, w95.heap.size, w113.heap.size), (w182, w91.heap.size, w95.heap.size), (w91, w65.heap.size, w83.heap.size), (w65, w48.heap.size, w65.heap.size), (w48, w45.heap.size, w48.heap.size), (w37, w.heap.size, w37.heap.size)] w194) := ⟨Hist.mark' (w := w125) (b := w121.heap.size) (t := w125.heap.size) (l1 := [(w162, w159.heap.size, w162.heap.size), (w151, w125.heap.size, w143.heap.size)]) (l2 := [(w121, w95.heap.size, w113.heap.size), (w182, w91.heap.size, w95.heap.size), (w91, w65.heap.size, w83.heap.size), (w65, w48.heap.size, w65.heap.size), (w48, w45.heap.size, w48.heap.size), (w37, w.heap.size, w37.heap.size)]) (by simp only [List.cons_append, List.nil_append]) (by simp only [List.cons_append, List.nil_append]) H193.out hs195 (fun k_ hk_ => by first | exact hk_.2 | (rcases hk_ with hk_ | hk_ <;> exact hk_.2))⟩; clear H193 hs195; have F199 := Aside0.mk hr196; have E200 := Aside0.mk (Kd.R_reads' hr196).1; clear hr196; have F201 := Aside0.mk hr197; have E202 := Aside0.mk (Kd.S_reads' hr197).1; clear hr197; refine normL (a' := ?_) ?hn ?_; (case hn => first | (simp only [Act.put, List.setIfInBounds_toArray, List.set_cons_zero, List.set_cons_succ]; rfl) | rfl)) | ((with_reducible refine gate_dst (N := 46) rfl ?_); refine ld ?hw rfl ?hx (blk_fix2 B148.out ⟨G149.out, L150.out⟩ H198.out.fixes.tl.hd) Try.underlying35 rfl (by kernel_rfl) ?_; (case hw => rfl); (case hx => rfl); refine normL (a' := ?_) ?hn ?_; (case hn => first | (simp only [Act.put, List.setIfInBounds_toArray, List.set_cons_zero, List.set_cons_succ]; rfl) | rfl)) | (((with_reducible refine gate_callee (f := 26) rfl ?_)); refine goesW (some 48) rfl ?hw Try.func26 (by kernel_rfl) rfl #[.agg #[.slice Ao132 t153.length co133, .slice Ao136 t154.length co137, .int .i64 t135, .bool t136], .int .i64 1] rfl (by (try simp only [List.map_toArray, List.map_cons, List.map_nil]); first | done | rfl | (rw [← E200.out, ← E202.out]; first | done | rfl) | (simp only [List.length_drop, List.length_take]; rfl)) ?_; (case hw => rfl); with_reducible refine (laws_heldDev.calls k _ _ t153 _ _ t154 t135 t136 1 t155 _ ?side1 ?side2 ?side3 ?side4 A29.out).mono ?_; (case side1 => exact (Kd.R_reads' (R_fix2 F199.out H198.out.fixes.tl.tl.hd)).2.2); (case side2 => exact R_capn (R_fix2 F199.out H198.out.fixes.tl.tl.hd)); (case side3 => exact (Kd.S_reads' (S_fix2 F201.out H198.out.fixes.tl.tl.hd)).2.2); (case side4 => exact S_capn (S_fix2 F201.out H198.out.fixes.tl.tl.hd)); rintro e w203 ⟨rfl, hb204⟩; refine ⟨_, rfl, ?_⟩; have H205 := Aside0.mk (Hist.pass H198.out hb204); clear H198; clear hb204; refine normL (a' := ?_) ?hn ?_; (case hn => first | (simp only [Act.put, List.setIfInBounds_toArray, List.set_cons_zero, List.set_cons_succ]; rfl) | rfl)) | ((with_reducible refine gate_dst (N := 54) rfl ?_); refine ld ?hw rfl ?hx (blk_fix2 B42.out ⟨G43.out, L44.out⟩ H205.out.fixes.tl.tl.tl.tl.tl.tl.tl.tl.hd) Try.underlying42 rfl (by kernel_rfl) ?_; (case hw => rfl); (case hx => rfl); refine normL (a' := ?_) ?hn ?_; (case hn => first | (simp only [Act.put, List.setIfInBounds_toArray, List.set_cons_zero, List.set_cons_succ]; rfl) | rfl)) | (((with_reducible refine gate_callee (f := 29) rfl ?_)); refine goesW (some 55) rfl ?hw Try.func29 (by kernel_rfl) rfl #[.agg #[.slice A0_0 l0_0.length c0_0, .slice A0_1 l0_1.length c0_1, .int .i64 a0_2, .bool a0_3]] rfl (by (try simp only [List.map_toArray, List.map_cons, List.map_nil]); first | done | rfl | (simp only [List.length_drop, List.length_take]; rfl)) ?_; (case hw => rfl); with_reducible refine (laws_toDev.calls k _ _ l0_0 _ _ l0_1 a0_2 a0_3 t156 t159 t162 t163 _ ?side1 ?side2 ?side3 ?side4 A32.out).mono ?_; (case side1 => exact Kd.C_below HR0_0.out H205.out.below); (case side2 => exact HC0_0.out); (case side3 => exact Kd.C_below HR0_1.out H205.out.below); (case side4 => exact HC0_1.out); rintro e w206 ⟨v207, v208, rfl, ho209, ho210, hb211⟩; refine ⟨_, rfl, ?_⟩; have H212 := Aside0.mk (Hist.step H205.out hb211); clear H205; clear hb211; have F215 := Aside0.mk ho209; clear ho209; have F219 := Aside0.mk ho210; clear ho210; obtain ⟨Ao213, co214, eo221⟩ := Kd.R_slice F215.out; (first | subst eo221 | (injection eo221 with f1_ f2_ f3_; have f4_ := f1_.symm; have f5_ := f3_.symm; clear f1_ f2_ f3_; subst f4_; subst f5_)); obtain ⟨Ao217, co218, eo222⟩ := Kd.S_slice F219.out; (first | subst eo222 | (injection eo222 with f1_ f2_ f3_; have f4_ := f1_.symm; have f5_ := f3_.symm; clear f1_ f2_ f3_; subst f4_; subst f5_)); refine normL (a' := ?_) ?hn ?_; (case hn => first | (simp only [Act.put, List.setIfInBounds_toArray, List.set_cons_zero, List.set_cons_succ]; rfl) | rfl)) | (((with_reducible refine gate_callee (f := 38) rfl ?_)); refine goesW (some 56) rfl ?hw Try.func38 (by kernel_rfl) rfl #[.agg #[.slice Ao213 t156.length co214, .slice Ao217 t159.length co218, .int .i64 t162, .bool t163]] rfl (by (try simp only [List.map_toArray, List.map_cons, List.map_nil]); first | done | rfl | (simp only [List.length_drop, List.length_take]; rfl)) ?_; (case hw => rfl); with_reducible refine (impl_DevSync.calls _ _ t156 _ _ t159 t162 t163 t164 t167 t170 t171 _ ?side1 ?side2 ?side3 ?side4 A33.out).mono ?_; (case side1 => exact (Kd.R_reads' (R_fix F215.out H212.out.fixes.hd)).2.2); (case side2 => exact R_capn (R_fix F215.out H212.out.fixes.hd)); (case side3 => exact (Kd.S_reads' (S_fix F219.out H212.out.fixes.hd)).2.2); (case side4 => exact S_capn (S_fix F219.out H212.out.fixes.hd)); rintro e w223 ⟨v224, v225, rfl, ho226, ho227, hb228⟩; refine ⟨_, rfl, ?_⟩; have H229 := Aside0.mk (Hist.step H212.out hb228); clear H212; clear hb228; have F232 := Aside0.mk ho226; clear ho226; have F236 := Aside0.mk ho227; clear ho227; obtain ⟨Ao230, co231, eo238⟩ := Kd.R_slice F232.out; (first | subst eo238 | (injection eo238 with f1_ f2_ f3_; have f4_ := f1_.symm; have f5_ := f3_.symm; clear f1_ f2_ f3_; subst f4_; subst f5_)); obtain ⟨Ao234, co235, eo239⟩ := Kd.S_slice F236.out; (first | subst eo239 | (injection eo239 with f1_ f2_ f3_; have f4_ := f1_.symm; have f5_ := f3_.symm; clear f1_ f2_ f3_; subst f4_; subst f5_)); refine normL (a' := ?_) ?hn ?_; (case hn => first | (simp only [Act.put, List.setIfInBounds_toArray, List.set_cons_zero, List.set_cons_succ]; rfl) | rfl)) | ((with_reducible refine gate_dst (N := 10) rfl ?_); refine mk ?hw (N := 10) ?hd (cs := #[.slice none 0 0, .slice none 0 0, .int .i64 0, .bool false]) (t := 35) ?hr ?_; (case hd => rfl); (case hw => rfl); (case hr => first | (go_simp; done) | (go_simp; rfl)); intro g240 hg244 w241 hbox243 hb242; have H245 := Aside0.mk (Hist.step H229.out hb242); clear H229; have B246 := Aside0.mk hbox243; have G247 := Aside0.mk (Nat.le_of_eq hg244.symm); have L248 := Aside0.mk (blk_lt hbox243); clear hb242 hbox243 hg244; refine normL (a' := ?_) ?hn ?_; (case hn => first | (simp only [Act.put, List.setIfInBounds_toArray, List.set_cons_zero, List.set_cons_succ]; rfl) | rfl)) | ((with_reducible refine gate_store (t := 35) (p := 10) rfl ?_); refine st_all ?hw ?hN rfl ?hp (cs := #[.slice Ao230 t164.length co231, .slice Ao234 t167.length co235, .int .i64 t170, .bool t171]) ?hx (blk_fix2 B246.out ⟨G247.out, L248.out⟩ H245.out.fixes.hd) (by kernel_rfl) rfl (by simp [Value.oneCell']) ?_; (case hw => rfl); (case hN => rfl); (case hp => rfl); (case hx => rfl); intro w249 hbox250 hs251; have H252 : Aside0 (Hist w [(w249, w223.heap.size, w241.heap.size), (w223, w206.heap.size, w223.heap.size), (w206, w203.heap.size, w206.heap.size), (w162, w159.heap.size, w162.heap.size), (w151, w125.heap.size, w143.heap.size), (w194, w121.heap.size, w125.heap.size), (w121, w95.heap.size, w113.heap.size), (w182, w91.heap.size, w95.heap.size), (w91, w65.heap.size, w83.heap.size), (w65, w48.heap.size, w65.heap.size), (w48, w45.heap.size, w48.heap.size), (w37, w.heap.size, w37.heap.size)] w249) := ⟨Hist.mark' (w := w241) (b := w223.heap.size) (t := w241.heap.size) (l1 := []) (l2 := [(w223, w206.heap.size, w223.heap.size), (w206, w203.heap.size, w206.heap.size), (w162, w159.heap.size, w162.heap.size), (w151, w125.heap.size, w143.heap.size), (w194, w121.heap.size, w125.heap.size), (w121, w95.heap.size, w113.heap.size), (w182, w91.heap.size, w95.heap.size), (w91, w65.heap.size, w83.heap.size), (w65, w48.heap.size, w65.heap.size), (w48, w45.heap.size, w48.heap.size), (w37, w.heap.size, w37.heap.size)]) (by simp only [List.cons_append, List.nil_append]) (by simp only [List.cons_append, List.nil_append]) H245.out hs251 (fun k_ hk_ => by rw [hk_]; exact ⟨G247.out, L248.out⟩)⟩; have B246n := Aside0.mk hbox250; clear hs251 hbox250 H245 B246; have B246 := B246n; clear B246n) | ((with_reducible refine gate_dst (N := 57) rfl ?_); refine ld ?hw rfl ?hx (blk_fix2 B246.out ⟨G247.out, L248.out⟩ H252.out.fixes.hd) Try.underlying35 rfl (by kernel_rfl) ?_; (case hw => rfl); (case hx => rfl); refine normL (a' := ?_) ?hn ?_; (case hn => first | (simp only [Act.put, List.setIfInBounds_toArray, List.set_cons_zero, List.set_cons_succ]; rfl) | rfl)) | ((with_reducible refine gate_dst (N := 58) rfl ?_); refine ld ?hw rfl ?hx (blk_fix2 B88.out ⟨G89.out, L90.out⟩ H252.out.fixes.tl.tl.tl.tl.tl.tl.tl.tl.hd) Try.underlying35 rfl (by kernel_rfl) ?_; (case hw => rfl); (case hx => rfl); refine normL (a' := ?_) ?hn ?_; (case hn => first | (simp only [Act.put, List.setIfInBounds_toArray, List.set_cons_zero, List.set_cons_succ]; rfl) | rfl)) | (((with_reducible refine gate_callee (f := 24) rfl ?_)); refine goesW (some 59) rfl ?hw Try.func24 (by kernel_rfl) rfl #[.agg #[.slice Ao230 t164.length co231, .slice Ao234 t167.length co235, .int .i64 t170, .bool t171], .agg #[.slice Ao72 t111.length co73, .slice Ao76 t114.length co77, .int .i64 t117, .bool t118]] rfl (by (try simp only [List.map_toArray, List.map_cons, List.map_nil]); first | done | rfl | (simp only [List.length_drop, List.length_take]; rfl)) ?_; (case hw => rfl); with_reducible refine (laws_eqDev.calls k _ _ t164 _ _ t167 t170 t171 _ _ t111 _ _ t114 t117 t118 true _ ?side1 ?side2 ?side3 ?side4 ?side5 ?side6 ?side7 ?side8 A34.out).mono ?_; (case side1 => exact (Kd.R_reads' (R_fix F232.out H252.out.fixes.tl.hd)).2.2); (case side2 => exact R_capn (R_fix F232.out H252.out.fixes.tl.hd)); (case side3 => exact (Kd.S_reads' (S_fix F236.out H252.out.fixes.tl.hd)).2.2); (case side4 => exact S_capn (S_fix F236.out H252.out.fixes.tl.hd)); (case side5 => exact (Kd.R_reads' (R_fix F74.out H252.out.fixes.tl.tl.tl.tl.tl.tl.tl.tl.tl.hd)).2.2); (case side6 => exact R_capn (R_fix F74.out H252.out.fixes.tl.tl.tl.tl.tl.tl.tl.tl.tl.hd)); (case side7 => exact (Kd.S_reads' (S_fix F78.out H252.out.fixes.tl.tl.tl.tl.tl.tl.tl.tl.tl.hd)).2.2); (case side8 => exact S_capn (S_fix F78.out H252.out.fixes.tl.tl.tl.tl.tl.tl.tl.tl.tl.hd)); rintro e w253 ⟨rfl, hb254⟩; refine ⟨_, rfl, ?_⟩; have H255 := Aside0.mk (Hist.pass H252.out hb254); clear H252; clear hb254; refine normL (a' := ?_) ?hn ?_; (case hn => first | (simp only [Act.put, List.setIfInBounds_toArray, List.set_cons_zero, List.set_cons_succ]; rfl) | rfl)))
                  go_ret
                  exact ⟨rfl, by first | exact H255.out.below | exact Drawn0.refl _⟩
                · rw [if_neg c35] at H
                  exact absurd H (by simp)
              · rw [if_neg c31] at H
                exact absurd H (by simp)
          · rw [if_neg c27] at H
            exact absurd H (by simp)
      · rw [if_neg c23] at H
        exact absurd H (by simp)
    · rw [if_neg c20] at H
      exact absurd H (by simp)

end Go.Proofs.Ytbdbeccaopphaaa.Q
namespace Go.Proofs.Ytbdbeccaopphaaa.O
open Go.RowKit Go.Proofs.YtbdbeccaopphaaaW.PrintWords

/-- Cells that read as data of type t are cells of the kind d, of a value that meets ok. -/
def Opens {α : Type} (P : Program) (t : TypeId) (d : Kd α) (ok : α → Prop) : Prop :=
  ∀ (H : Type) (enc : TypeId × Value → H) (w : World) (fuel : Nat) (cs : List Value) (y : DataW H × List MemPlace),
    DataW.trod enc P w 0 (fun _ => true) true fuel t cs = some y → ∃ x, d.K w x cs ∧ ok x

section
variable {α β : Type} {P : Program} {t e : TypeId} {d : Kd α} {ok : α → Prop}

theorem opens_int {k : IntKind} (ht : P.underlying t = some (.int k)) : Opens P t (Kd.int k) (fun n => (Lit.int k n).wf = true) := by
  intro H enc w fuel cs y h
  obtain ⟨n, rfl, _, hw⟩ := DataW.trod_int ht h
  exact ⟨n, rfl, hw⟩
theorem opens_bool (ht : P.underlying t = some .bool) : Opens P t Kd.bool (fun _ => True) := by
  intro H enc w fuel cs y h
  obtain ⟨n, rfl, _⟩ := DataW.trod_bool ht h
  exact ⟨n, rfl, trivial⟩
theorem list_of {p : Nat → α → Prop} : ∀ n, (∀ i, i < n → ∃ x, p i x) → ∃ xs : List α, xs.length = n ∧ ∀ i x, xs[i]? = some x → p i x
  | 0, _ => ⟨[], rfl, by simp⟩
  | n + 1, h => by
    obtain ⟨xs, hl, hp⟩ := list_of n (fun i hi => h i (by omega))
    obtain ⟨x, hx⟩ := h n (by omega)
    refine ⟨xs ++ [x], by simp [hl], fun i z hz => ?_⟩
    by_cases hi : i < n
    · rw [List.getElem?_append_left (by omega)] at hz
      exact hp i z hz
    · have : i < n + 1 := by
        have := (List.getElem?_eq_some_iff.1 hz).1
        simp [hl] at this
        exact this
      obtain rfl : i = n := by omega
      rw [List.getElem?_append_right (by omega)] at hz
      simp [hl] at hz
      exact hz ▸ hx
theorem opens_slice (ht : P.underlying t = some (.slice e)) (hc : P.cellsOf e = d.sz) (he : Opens P e d ok) :
    Opens P t (Kd.slice e d) (fun xs => xs.length ≤ 9223372036854775807 ∧ ∀ x ∈ xs, ok x) := by
  intro H enc w fuel cs y h
  rcases DataW.trod_slice ht h with ⟨rfl, _⟩ | ⟨a, len, cap, elems, rest, n, _, rfl, _, _, hl, hm, hlen, hel, _, _⟩
  · exact ⟨[], ⟨none, 0, rfl, Nat.le_refl _, Kd.C_nil d w⟩, by simp, by simp⟩
  · have each : ∀ i, i < len → ∃ x, ∃ c, w.cells? 0 (a.add (i * d.sz)) d.sz = some c ∧ d.K w x c ∧ ok x := by
      intro i hi
      have h1 := hel i hi
      rw [hc, List.getElem?_eq_getElem (by omega)] at h1
      obtain ⟨c, h2, h3⟩ := Option.bind_eq_some_iff.1 h1
      obtain ⟨x, hx, hok⟩ := he H enc w n c _ h3
      exact ⟨x, c, h2, hx, hok⟩
    obtain ⟨xs, hxl, hxs⟩ := list_of len each
    refine ⟨xs, ⟨some a, cap, by rw [hxl], by omega, ?_⟩, by unfold maxLen at hm; omega, fun x hx => ?_⟩
    · refine ⟨rfl, by unfold maxLen at hm; omega, fun _ => ⟨a, rfl, fun j p hp => ?_⟩⟩
      obtain ⟨c, h2, h3, _⟩ := hxs j p hp
      refine ⟨c, d.K_len h3, h3, fun i u hu => ?_⟩
      have hi : i < c.length := (List.getElem?_eq_some_iff.1 hu).1
      have h4 := World.cells?_some h2
      rw [d.K_len h3] at hi
      rw [← Addr.add_add, (h4.2.2 i hi), hu]
    · obtain ⟨i, hi⟩ := List.getElem?_of_mem hx
      obtain ⟨_, _, _, hok⟩ := hxs i x hi
      exact hok
/-- A struct's fields from some field on. -/
def OpensFs {α : Type} (P : Program) (fs : List Field) (off : Nat) (d : Kd α) (ok : α → Prop) : Prop :=
  ∀ (H : Type) (enc : TypeId × Value → H) (w : World) (n : Nat) (cs : List Value) (xs : List (DataW H × List MemPlace)),
    cs.length = off + d.sz → (∀ (i : Nat) (f : Field), fs[i]? = some f → DataW.trod enc P w 0 (fun _ => true) true n f.type ((cs.drop f.offset).take (P.cellsOf f.type)) = xs[i]?) →
    fs.length ≤ xs.length → ∃ x, d.K w x (cs.drop off) ∧ ok x
theorem opensFs_one {f : Field} {off : Nat} (ho : f.offset = off) (hc : P.cellsOf f.type = d.sz) (h : Opens P f.type d ok) : OpensFs P [f] off d ok := by
  intro H enc w n cs xs hl hf hx
  have h1 := hf 0 f rfl
  simp only [List.length_cons, List.length_nil] at hx
  rw [List.getElem?_eq_getElem (by omega)] at h1
  rw [ho, hc, List.take_of_length_le (by simp; omega)] at h1
  exact h H enc w n _ _ h1
theorem opensFs_cons {f : Field} {fs : List Field} {off : Nat} {d2 : Kd β} {ok2 : β → Prop} (ho : f.offset = off) (hc : P.cellsOf f.type = d.sz) (h : Opens P f.type d ok)
    (h2 : OpensFs P fs (off + d.sz) d2 ok2) : OpensFs P (f :: fs) off (Kd.pair d d2) (fun x => ok x.1 ∧ ok2 x.2) := by
  intro H enc w n cs xs hl hf hx
  have hl' : cs.length = off + (d.sz + d2.sz) := hl
  simp only [List.length_cons] at hx
  have h1 := hf 0 f rfl
  rw [List.getElem?_eq_getElem (by omega)] at h1
  rw [ho, hc] at h1
  obtain ⟨x, hxk, hxo⟩ := h H enc w n _ _ h1
  obtain ⟨y, hyk, hyo⟩ := h2 H enc w n cs (xs.drop 1) (by omega) (fun i g hg => by
    have := hf (i + 1) g (by simpa using hg)
    rw [this, List.getElem?_drop]
    congr 1
    omega) (by simp; omega)
  refine ⟨(x, y), ⟨_, _, ?_, hxk, hyk⟩, hxo, hyo⟩
  rw [← List.drop_drop]
  exact (List.take_append_drop _ _).symm
theorem opens_struct {fs : List Field} (ht : P.underlying t = some (.struct fs.toArray)) (hc : P.cellsOf t = d.sz) (h : OpensFs P fs 0 d ok) (f : β → α) (g : α → β) (hfg : ∀ a, f (g a) = a) :
    Opens P t (Kd.iso d f) (fun x => ok (f x)) := by
  intro H enc w fuel cs y h0
  obtain ⟨xs, n, _, _, hlen, hxl, hf⟩ := DataW.trod_struct ht h0
  obtain ⟨a, hk, ho⟩ := h H enc w n cs xs (by omega) (fun i f hi => hf i f (by simpa using hi)) (by simp at hxl; omega)
  refine ⟨g a, ?_, ?_⟩
  · show d.K w (f (g a)) cs
    rw [hfg]
    simpa using hk
  · show ok (f (g a))
    rw [hfg]
    exact ho
end
end Go.Proofs.Ytbdbeccaopphaaa.O
namespace Go.Proofs.Ytbdbeccaopphaaa.Q
open Go.RowKit Go.Proofs.YtbdbeccaopphaaaW.PrintWords Go.Proofs.Ytbdbeccaopphaaa.O
def W139 (x : S139) : Prop := (Lit.int .i64 x.f0).wf = true ∧ (x.f1.length ≤ 9223372036854775807 ∧ ∀ z_ ∈ x.f1, (Lit.int .u8 z_).wf = true)
theorem opens_T139 : Opens Try.prog 139 k139 W139 := opens_struct Try.underlying139 (by kernel_rfl) (opensFs_cons rfl (by kernel_rfl) (opens_int Try.underlying2) (opensFs_one rfl (by kernel_rfl) (opens_slice Try.underlying23 (by kernel_rfl) (opens_int Try.underlying5)))) (fun x : S139 => (x.f0, x.f1)) (fun a => (⟨a.1, a.2⟩ : S139)) (fun _ => rfl)
def W42 (x : S42) : Prop := (x.f0.length ≤ 9223372036854775807 ∧ ∀ z_ ∈ x.f0, (Lit.int .u8 z_).wf = true) ∧ (x.f1.length ≤ 9223372036854775807 ∧ ∀ z_ ∈ x.f1, W139 z_) ∧ (Lit.int .i64 x.f2).wf = true ∧ True
theorem opens_T42 : Opens Try.prog 42 k42 W42 := opens_struct Try.underlying42 (by kernel_rfl) (opensFs_cons rfl (by kernel_rfl) (opens_slice Try.underlying23 (by kernel_rfl) (opens_int Try.underlying5)) (opensFs_cons rfl (by kernel_rfl) (opens_slice Try.underlying40 (by kernel_rfl) opens_T139) (opensFs_cons rfl (by kernel_rfl) (opens_int Try.underlying2) (opensFs_one rfl (by kernel_rfl) (opens_bool Try.underlying4))))) (fun x : S42 => (x.f0, x.f1, x.f2, x.f3)) (fun a => (⟨a.1, a.2.1, a.2.2.1, a.2.2.2⟩ : S42)) (fun _ => rfl)
def W152 (x : S152) : Prop := (Lit.int .i64 x.f0).wf = true ∧ (Lit.int .i64 x.f1).wf = true
theorem opens_T152 : Opens Try.prog 152 k152 W152 := opens_struct Try.underlying152 (by kernel_rfl) (opensFs_cons rfl (by kernel_rfl) (opens_int Try.underlying2) (opensFs_one rfl (by kernel_rfl) (opens_int Try.underlying2))) (fun x : S152 => (x.f0, x.f1)) (fun a => (⟨a.1, a.2⟩ : S152)) (fun _ => rfl)
def W71 (x : S71) : Prop := (x.f0.length ≤ 9223372036854775807 ∧ ∀ z_ ∈ x.f0, (Lit.int .i64 z_).wf = true) ∧ (x.f1.length ≤ 9223372036854775807 ∧ ∀ z_ ∈ x.f1, (Lit.int .i64 z_).wf = true) ∧ (Lit.int .i64 x.f2).wf = true ∧ (x.f3.length ≤ 9223372036854775807 ∧ ∀ z_ ∈ x.f3, W152 z_)
theorem opens_T71 : Opens Try.prog 71 k71 W71 := opens_struct Try.underlying71 (by kernel_rfl) (opensFs_cons rfl (by kernel_rfl) (opens_slice Try.underlying65 (by kernel_rfl) (opens_int Try.underlying2)) (opensFs_cons rfl (by kernel_rfl) (opens_slice Try.underlying65 (by kernel_rfl) (opens_int Try.underlying2)) (opensFs_cons rfl (by kernel_rfl) (opens_int Try.underlying2) (opensFs_one rfl (by kernel_rfl) (opens_slice Try.underlying69 (by kernel_rfl) opens_T152))))) (fun x : S71 => (x.f0, x.f1, x.f2, x.f3)) (fun a => (⟨a.1, a.2.1, a.2.2.1, a.2.2.2⟩ : S71)) (fun _ => rfl)
def W67 (x : S67) : Prop := (Lit.int .u32 x.f0).wf = true ∧ (Lit.int .u32 x.f1).wf = true ∧ (x.f2.length ≤ 9223372036854775807 ∧ ∀ z_ ∈ x.f2, (Lit.int .i64 z_).wf = true) ∧ (x.f3.length ≤ 9223372036854775807 ∧ ∀ z_ ∈ x.f3, (Lit.int .i64 z_).wf = true)
theorem opens_T67 : Opens Try.prog 67 k67 W67 := opens_struct Try.underlying67 (by kernel_rfl) (opensFs_cons rfl (by kernel_rfl) (opens_int Try.underlying24) (opensFs_cons rfl (by kernel_rfl) (opens_int Try.underlying24) (opensFs_cons rfl (by kernel_rfl) (opens_slice Try.underlying65 (by kernel_rfl) (opens_int Try.underlying2)) (opensFs_one rfl (by kernel_rfl) (opens_slice Try.underlying65 (by kernel_rfl) (opens_int Try.underlying2)))))) (fun x : S67 => (x.f0, x.f1, x.f2, x.f3)) (fun a => (⟨a.1, a.2.1, a.2.2.1, a.2.2.2⟩ : S67)) (fun _ => rfl)
def W149 (x : S149) : Prop := (Lit.int .u32 x.f0).wf = true ∧ (Lit.int .i64 x.f1).wf = true ∧ (Lit.int .u32 x.f2).wf = true ∧ (Lit.int .u32 x.f3).wf = true
theorem opens_T149 : Opens Try.prog 149 k149 W149 := opens_struct Try.underlying149 (by kernel_rfl) (opensFs_cons rfl (by kernel_rfl) (opens_int Try.underlying24) (opensFs_cons rfl (by kernel_rfl) (opens_int Try.underlying2) (opensFs_cons rfl (by kernel_rfl) (opens_int Try.underlying24) (opensFs_one rfl (by kernel_rfl) (opens_int Try.underlying24))))) (fun x : S149 => (x.f0, x.f1, x.f2, x.f3)) (fun a => (⟨a.1, a.2.1, a.2.2.1, a.2.2.2⟩ : S149)) (fun _ => rfl)
def W73 (x : S73) : Prop := True ∧ W67 x.f1 ∧ (x.f2.length ≤ 9223372036854775807 ∧ ∀ z_ ∈ x.f2, W149 z_) ∧ W71 x.f3 ∧ (Lit.int .u32 x.f4).wf = true
theorem opens_T73 : Opens Try.prog 73 k73 W73 := opens_struct Try.underlying73 (by kernel_rfl) (opensFs_cons rfl (by kernel_rfl) (opens_bool Try.underlying4) (opensFs_cons rfl (by kernel_rfl) opens_T67 (opensFs_cons rfl (by kernel_rfl) (opens_slice Try.underlying68 (by kernel_rfl) opens_T149) (opensFs_cons rfl (by kernel_rfl) opens_T71 (opensFs_one rfl (by kernel_rfl) (opens_int Try.underlying24)))))) (fun x : S73 => (x.f0, x.f1, x.f2, x.f3, x.f4)) (fun a => (⟨a.1, a.2.1, a.2.2.1, a.2.2.2.1, a.2.2.2.2⟩ : S73)) (fun _ => rfl)
end Go.Proofs.Ytbdbeccaopphaaa.Q
namespace Go.Proofs.Ytbdbeccaopphaaa.Q
open Go.RowKit Go.Proofs.YtbdbeccaopphaaaW.PrintWords Go.Proofs.YtbdbeccaopphaaaW.PrintLast Go.Proofs.Ytbdbeccaopphaaa.O
def laws_FnExactDevSync.Pure : Prop := ∀ (x0 : S42) , W42 x0 → ∃ k, laws_FnExactDevSync.f k x0.f0 x0.f1 x0.f2 x0.f3 = some true
end Go.Proofs.Ytbdbeccaopphaaa.Q
namespace Go.Proofs.Ytbdbeccaopphaaa.P
open Go.RowKit Go.Proofs.YtbdbeccaopphaaaW.PrintWords Go.Proofs.Ytbdbeccaopphaaa.Q
set_option linter.unusedVariables false
set_option linter.unusedSimpArgs false
theorem costP_le {B : Nat} : ∀ (l : List S101), (∀ p ∈ l, p.f1.length ≤ B) → costP l ≤ l.length * (B + 1)
  | [], _ => by simp [costP]
  | p :: ps, h => by
    have h1 := costP_le ps (fun q hq => h q (List.mem_cons_of_mem _ hq))
    have h2 := h p (List.mem_cons_self ..)
    simp only [costP, List.length_cons, Nat.add_mul, Nat.one_mul]
    omega
theorem cost_small {l : List S101} (hl : l.length ≤ 2097152) (h : ∀ p ∈ l, p.f1.length ≤ 2097152) : costP l ≤ 4398048608256 := by
  have h1 := costP_le l h
  have h2 : l.length * (2097152 + 1) ≤ 2097152 * (2097152 + 1) := Nat.mul_le_mul_right _ hl
  omega
/-- A device whose parts are not long. -/
structure Small (l0 : List Int) (l1 : List S101) : Prop where
  disk : l0.length ≤ 2097152
  cache : l1.length ≤ 2097152
  data : ∀ p ∈ l1, p.f1.length ≤ 2097152
theorem Small.eq {l0 : List Int} {l1 : List S101} (h : Small l0 l1) (a2 : Int) (a3 : Bool) : Ev (fun k => laws_eqDev.f k l0 l1 a2 a3 l0 l1 a2 a3) true :=
  eqDev_ev l0 l1 a2 a3 (Nat.le_trans h.disk (by decide)) (Nat.le_trans h.cache (by decide)) (fun p hp => Nat.le_trans (h.data p hp) (by decide))
/-- A small device is marked, and the marks are held. -/
theorem Small.mark {l0 : List Int} {l1 : List S101} (h : Small l0 l1) (a2 : Int) (a3 : Bool) (m : Int) (h0 : 0 ≤ m) (h1 : m ≤ 4611681000000000000) :
    ∃ r, Ev (fun k => laws_markDev.f k l0 l1 a2 a3 m) r ∧ m ≤ r.1 ∧ r.1 ≤ m + 4398050705408 ∧ Ev (fun k => laws_heldDev.f k r.2.1 r.2.2 a2 a3 m) r.1 := by
  have hc := cost_small h.cache h.data
  have hd := h.disk
  have hk := h.cache
  exact ⟨_, markDev_ev l0 l1 a2 a3 m h0 (by omega) (by omega), by show m ≤ m + _ + _; omega, by show m + _ + _ ≤ _; omega, heldDev_ev l0 l1 a2 a3 m h0 (by omega) (by omega)⟩
theorem devArg (x : S42) (hx : W42 x) :
    ∃ t, Ev (fun k => laws_szDev.f k x.f0 x.f1 x.f2 x.f3 1048576) t ∧ (t < 0 ∨ (0 ≤ t ∧ t ≤ 1048576 ∧ x.f0.length ≤ 1048576 ∧ x.f1.length ≤ 1048576 ∧ (∀ p ∈ x.f1.map cvPend, p.f1.length ≤ 1048576) ∧ Small x.f0 (x.f1.map cvPend) ∧ Ev (fun k => laws_toDev.f k x.f0 x.f1 x.f2 x.f3) (x.f0, x.f1.map cvPend, x.f2, x.f3))) := by
  obtain ⟨⟨hl0, -⟩, ⟨hl1, hp1⟩, hf2, -⟩ := hx
  have hp : ∀ p ∈ x.f1, p.f1.length ≤ 9223372036854775807 := fun p hp => (hp1 p hp).2.1
  obtain ⟨t, ht, hc⟩ := szDev_ev x.f0 x.f1 x.f2 x.f3 1048576 (by decide) (by decide) hl0 hl1 hp
  refine ⟨t, ht, ?_⟩
  rcases hc with hc | ⟨hc, hc1, h0, h1, h2⟩
  · exact .inl hc
  · have hm : ∀ p ∈ x.f1.map cvPend, p.f1.length ≤ 1048576 := by
      intro p hp
      obtain ⟨q, hq, rfl⟩ := List.mem_map.1 hp
      have := h2 q hq
      show q.f1.length ≤ _
      omega
    refine .inr ⟨hc, hc1, by omega, by omega, hm, ⟨by omega, by rw [List.length_map]; omega, fun p hp => by have := hm p hp; omega⟩, toDev_ev x.f0 x.f1 x.f2 x.f3 (by omega) (by omega) (fun p hp => by have := h2 p hp; omega)⟩
end Go.Proofs.Ytbdbeccaopphaaa.P
namespace Go.Proofs.Ytbdbeccaopphaaa.P
open Go.RowKit Go.Proofs.YtbdbeccaopphaaaW.PrintWords Go.Proofs.Ytbdbeccaopphaaa.Q
set_option linter.unusedVariables false
set_option linter.unusedSimpArgs false
theorem copy_ev (l0 : List Int) (l1 : List S101) (a2 : Int) (a3 : Bool) (h0 : l0.length ≤ 2097152) (h : l1.length ≤ 2097152) (hp : ∀ p ∈ l1, p.f1.length ≤ 2097152) : Ev (fun k => spec_l1Copy.f k l0 l1 a2 a3) (l0, l1, a2, a3) := by
  have h1 := Ev.loop0 (fun k (s : Int × List S101) => spec_l1Copy.l0 k s.1 l0 l1 a2 a3 l0 s.2 a2 a3) (fun i => ((i : Int), l1.take i)) l1.length (l0, l1, a2, a3) ?_ ?_
  · simp only [spec_l1Copy.f, Option.bind_some, List.length_nil, List.nil_append]
    exact Ev.pos (by omega) h1
  · intro i hi
    obtain ⟨p, hat⟩ := some_at hi
    have hpl := hp p (List.mem_of_getElem? hat)
    have ht : (l1.take i).length = i := by rw [List.length_take]; omega
    refine ⟨0, fun k _ => ?_⟩
    simp only [spec_l1Copy.l0, Option.bind_some, List.length_nil, List.nil_append]
    rw [if_pos (by omega), if_pos (by omega), rdP_at hat, if_pos (by omega), if_pos (by omega), w64s hi (by omega), List.take_add_one, hat]
    rfl
  · refine Ev.last ⟨0, fun k _ => ?_⟩
    simp only [spec_l1Copy.l0]
    rw [if_neg (by omega), List.take_length]
theorem step_ev (l0 : List Int) (l1 : List S101) (a2 : Int) (a3 : Bool) (h0 : l0.length ≤ 2097152) (h : l1.length ≤ 2097152) (hp : ∀ p ∈ l1, p.f1.length ≤ 2097152) (hf : -1 ≤ a2 ∧ a2 ≤ 1000000) : Ev (fun k => spec_l1Step.f k l0 l1 a2 a3) (l0, l1, fuelOf a2, deadOf a2 a3) := by
  simp only [spec_l1Step.f]
  refine Ev.bind (copy_ev l0 l1 a2 a3 h0 h hp) (Ev.const ?_)
  unfold fuelOf deadOf
  dsimp only
  by_cases c0 : a2 = 0
  · rw [if_pos c0, if_neg (by omega), if_pos c0]
  · rw [if_neg c0, if_neg c0]
    by_cases c1 : a2 > 0
    · rw [if_pos c1, if_pos c1, w64 (n := a2 - 1) (by omega) (by omega)]
    · rw [if_neg c1, if_neg c1]
end Go.Proofs.Ytbdbeccaopphaaa.P
namespace Go.Proofs.Ytbdbeccaopphaaa.P
open Go.RowKit Go.Proofs.YtbdbeccaopphaaaW.PrintWords Go.Proofs.Ytbdbeccaopphaaa.Q
set_option linter.unusedVariables false
set_option linter.unusedSimpArgs false
theorem over_is (l : List Int) (s : Int) (data : List Int) (h0 : 0 ≤ s) (h1 : s * 64 + data.length ≤ l.length) (hl : l.length ≤ 2097152) : spec_l1Over.f l s data = some (splice l (s * 64).toNat data) := by
  have e1 : wrap64 (s * 64) = s * 64 := w64 (n := s * 64) (by omega) (by omega)
  have e2 : wrap64 (s * 64 + (data.length : Int)) = s * 64 + data.length := w64 (n := s * 64 + data.length) (by omega) (by omega)
  simp only [spec_l1Over.f, e1, e2, Option.bind_some, List.length_nil, List.nil_append]
  clear e1 e2
  rw [if_pos (by omega), if_pos (by omega), if_pos (by rw [List.length_take]; omega), if_pos (by rw [List.length_take]; omega), if_pos (by omega), if_pos (by omega), if_pos (by rw [List.length_append, List.length_take, List.length_drop]; omega)]
  unfold splice
  rw [show (s * 64 + (data.length : Int)).toNat = (s * 64).toNat + data.length from by omega, List.append_assoc]
end Go.Proofs.Ytbdbeccaopphaaa.P
namespace Go.Proofs.Ytbdbeccaopphaaa.Pure
open Go.RowKit Go.Proofs.Ytbdbeccaopphaaa.Q Go.Proofs.Ytbdbeccaopphaaa.P
set_option linter.unusedVariables false
theorem spec_sync_ev (l0 : List Int) (l1 : List S101) (a2 : Int) (a3 : Bool) (hl : l0.length ≤ 1048576) (h : l1.length ≤ 1048576) (hp : ∀ p ∈ l1, p.f1.length ≤ 1048576) :
    Ev (fun k => spec_DevSync.f k l0 l1 a2 a3) (if canSync l0 l1 a2 a3 then devSynced l0 l1 a2 a3 else (l0, l1, a2, a3)) := by
  have ec := copy_ev l0 l1 a2 a3 (by omega) (by omega) (fun p hq => by have := hp p hq; omega)
  have no : Ev (fun k => spec_DevSync.j0 k true l0 l1 a2 a3) (l0, l1, a2, a3) := by
    refine Ev.step (g := fun k => (spec_l1Copy.f k l0 l1 a2 a3).bind fun t => some (t.1, t.2.1, t.2.2.1, t.2.2.2)) ⟨0, fun k _ => ?_⟩ (Ev.bind ec (Ev.const rfl))
    simp only [spec_DevSync.j0]
    rw [if_pos trivial]
  have ev := spec_ValidDev_ev l0 l1 a2 a3 (by omega) (by omega) (fun p hq => by have := hp p hq; omega)
  simp only [spec_DevSync.f]
  refine Ev.bind ev ?_
  by_cases hv : validDev l0 l1 a2 = true
  case neg =>
    rw [if_neg (fun h => hv h.1)]
    exact Ev.neg hv no
  refine Ev.pos hv ?_
  by_cases h3 : a3 = true
  case pos =>
    rw [if_neg (fun h => by rw [h3] at h; cases h.2)]
    rw [h3] at no ⊢
    exact no
  have hd3 : a3 = false := by simpa using h3
  subst hd3
  rw [if_pos ⟨hv, rfl⟩]
  have hd := validDev_is.1 hv
  have hf : -1 ≤ a2 ∧ a2 ≤ 1000000 := by have := hd.1; unfold headDev at this; omega
  have hh : l0.length ≤ 16448 ∧ l0.length % 64 = 0 := by have := hd.1; unfold headDev at this; omega
  have es := step_ev l0 l1 a2 false (by omega) (by omega) (fun p hq => by have := hp p hq; omega) hf
  refine Ev.step (g := fun k => (spec_l1Step.f k l0 l1 a2 false).bind fun t => if t.2.2.2 = true then some (t.1, t.2.1, t.2.2.1, t.2.2.2) else spec_DevSync.l0 k 0 l0 l1 a2 false t.1 t.2.1 t.2.2.1 t.2.2.2) ⟨0, fun k _ => ?_⟩ (Ev.bind es ?_)
  · simp only [spec_DevSync.j0]
    rw [if_neg (by simp)]
  · unfold devSynced
    dsimp only
    by_cases hz : a2 = 0
    · rw [if_pos hz, if_pos hz]
      exact Ev.pos (show deadOf a2 false = true from if_pos hz) (Ev.const rfl)
    · rw [if_neg hz, if_neg hz]
      refine Ev.neg (by rw [show deadOf a2 false = false from if_neg hz]; simp) ?_
      refine Ev.loop0 (fun k (s : Int × List Int) => spec_DevSync.l0 k s.1 l0 l1 a2 false s.2 l1 (fuelOf a2) (deadOf a2 false)) (fun i => ((i : Int), syncL l0 (l1.take i))) l1.length (syncL l0 l1, [], fuelOf a2, deadOf a2 false) ?_ ?_
      · intro i hi
        obtain ⟨p, hat⟩ := some_at hi
        have hq := hd.2 p (List.mem_of_getElem? hat)
        have hlen : (syncL l0 (l1.take i)).length = l0.length := syncL_length _ _ (fun q hq => by have := hd.2 q (List.mem_of_mem_take hq); omega)
        refine ⟨0, fun k _ => ?_⟩
        simp only [spec_DevSync.l0]
        rw [if_pos (by omega), if_pos (by omega), rdP_at hat, over_is _ _ _ hq.1 (by omega) (by omega), w64s hi (by omega)]
        rw [show syncL l0 (l1.take (i + 1)) = splice (syncL l0 (l1.take i)) (p.f0 * 64).toNat p.f1 from by unfold syncL; rw [List.take_add_one, hat]; simp only [Option.toList_some, List.foldl_append, List.foldl_cons, List.foldl_nil]]
        rfl
      · refine Ev.last ⟨0, fun k _ => ?_⟩
        simp only [spec_DevSync.l0]
        rw [if_neg (by omega), List.take_length]
theorem sync_small (l0 : List Int) (l1 : List S101) (a2 : Int) (a3 : Bool) (h0 : l0.length ≤ 1048576) (h : l1.length ≤ 1048576) (hp : ∀ p ∈ l1, p.f1.length ≤ 1048576) :
    ∃ (m0 : List Int) (m1 : List S101) (b2 : Int) (b3 : Bool), (if canSync l0 l1 a2 a3 then devSynced l0 l1 a2 a3 else (l0, l1, a2, a3)) = (m0, m1, b2, b3) ∧ Small m0 m1 := by
  by_cases hc : canSync l0 l1 a2 a3
  · rw [if_pos hc]
    have hd := validDev_is.1 hc.1
    have hh : l0.length ≤ 16448 ∧ l0.length % 64 = 0 := by have := hd.1; unfold headDev at this; omega
    have hlen : (syncL l0 l1).length = l0.length := syncL_length _ _ (fun q hq => by have := hd.2 q hq; omega)
    refine ⟨_, _, _, _, rfl, ⟨?_, ?_, ?_⟩⟩
    · split
      · omega
      · omega
    · split
      · omega
      · simp
    · intro p hpm
      split at hpm
      · have := hp p hpm
        omega
      · cases hpm
  · rw [if_neg hc]
    exact ⟨_, _, _, _, rfl, ⟨by omega, by omega, fun p hpm => by have := hp p hpm; omega⟩⟩
theorem FnExactDevSync : laws_FnExactDevSync.Pure := by
  intro x hx
  refine Ev.ex (f := fun k => laws_FnExactDevSync.f k x.f0 x.f1 x.f2 x.f3) ?_
  simp only [laws_FnExactDevSync.f]
  obtain ⟨t, ht, hc⟩ := devArg x hx
  refine Ev.bind ht ?_
  rcases hc with hc | ⟨hc, -, h0, h1, hm, hS, ev⟩
  · exact Ev.pos hc (Ev.const rfl)
  have hlen : (x.f1.map cvPend).length ≤ 1048576 := by rw [List.length_map]; omega
  have es := spec_sync_ev x.f0 (x.f1.map cvPend) x.f2 x.f3 h0 hlen hm
  have ei : impl_DevSync.f x.f0 (x.f1.map cvPend) x.f2 x.f3 = some (if canSync x.f0 (x.f1.map cvPend) x.f2 x.f3 then devSynced x.f0 (x.f1.map cvPend) x.f2 x.f3 else (x.f0, x.f1.map cvPend, x.f2, x.f3)) := by
    unfold impl_DevSync.f
    exact if_pos ⟨by omega, by omega, fun p hp => by have := hm p hp; omega⟩
  obtain ⟨m0, m1, b2, b3, hr, hSr⟩ := sync_small x.f0 (x.f1.map cvPend) x.f2 x.f3 h0 hlen hm
  rw [hr] at es ei
  obtain ⟨m, emd, hm1, hm2, -⟩ := hS.mark x.f2 x.f3 1 (by decide) (by decide)
  obtain ⟨n, end_, hn1, -, ehd⟩ := hSr.mark b2 b3 1 (by decide) (by decide)
  have eq := hSr.eq b2 b3
  exact Ev.neg (by omega) (Ev.bind ev (Ev.bind es (Ev.bind ev (Ev.bind (Ev.const ei) (Ev.bind eq (Ev.pos rfl (Ev.bind ev (Ev.bind (hS.eq x.f2 x.f3) (Ev.pos rfl (Ev.bind emd (Ev.neg (by omega) (Ev.bind eq (Ev.pos rfl (Ev.bind end_ (Ev.bind ehd (Ev.neg (by omega) (Ev.pos rfl (Ev.bind ev (Ev.bind (Ev.const ei) (Ev.bind eq (Ev.pos rfl (Ev.const rfl))))))))))))))))))))))
end Go.Proofs.Ytbdbeccaopphaaa.Pure
namespace Go.Proofs.Ytbdbeccaopphaaa.fnExactDevSync
open Go.ChangeShapes Go.WideShapes Go.ChangeAt Go.RowKit Go.Proofs.Ytbdbeccaopphaaa.Q Go.Proofs.YtbdbeccaopphaaaW.PrintWords Go.Proofs.Ytbdbeccaopphaaa.O
open Go.ChangeMaps (open_string shut_string)
set_option linter.unusedVariables false
theorem own : ownKnob Try.prog.godebug = none := by kernel_rfl
theorem laidOut : laidOutB Try.prog = true := by kernel_rfl
set_option maxRecDepth 100000 in
theorem lifted (os : Os) (started : os.Started) (H : Type) (enc : TypeId × Value → H) :
    ReturnsInHanded {} Try.checked os 10 .any (Rows.fnExactDevSyncSpec.pre6 enc Try.prog Try.f10 Rows.fnExactDevSyncRow.domain false) (Rows.fnExactDevSyncSpec.post enc Try.prog Try.f10 false true false false) := by
  refine returnsInHanded_of_change_sized (C := Try.checked) own started (by kernel_rfl) Try.func10
    (ChangeSpec.witness6 (enc := enc) (C := Try.checked) false ⟨#[], #[.agg #[.slice none 0 0, .slice none 0 0, .int .i64 0, .bool false]], []⟩ 8 (by kernel_rfl) (by kernel_rfl) (by kernel_rfl) (by kernel_rfl)) ?_
  intro W base args ds gs before hval0 hW hcnd hsz0 _
  have hval : ∀ (j : Nat) t v, Try.f10.params[j]? = some t → args[j]? = some v → Value.okWide Try.prog W .any base t v := hval0
  have hW' := hW
  obtain ⟨p, q, hA0, hV, rfl, hfz, hnd⟩ := hW
  have hA : DataW.TrodAll enc Try.prog W 0 (fun _ => true) true Try.f10.params.toList args.toList ds p := hA0
  rw [Try.params10] at hA hval
  obtain ⟨v0, vs0, d0, ds0, p0, q0, hargs, rfl, rfl, h0, r0⟩ := trodAll_cons hA
  obtain ⟨rfl, rfl, rfl⟩ := trodAll_nil r0
  obtain rfl : args = #[v0] := by cases args; simp_all
  obtain ⟨rfl, rfl⟩ := trodVars_none hV
  have k0 := h0
  have lt0 : ∀ x ∈ p0, x.block < W.heap.size := by obtain ⟨m, hm⟩ := k0; exact DataW.trod_lt m _ _ _ hm
  obtain ⟨cs0, rfl, _⟩ := okWide_struct Try.underlying42 (hval 0 42 v0 rfl rfl)
  obtain ⟨x0, hk0, w0⟩ : ∃ x, (k42).K W x cs0.toList ∧ W42 x := by
    obtain ⟨fuel, hf⟩ := h0
    exact opens_T42 H enc W fuel _ _ hf
  obtain ⟨cs0⟩ := cs0
  obtain ⟨A0_0, c0_0, A0_1, c0_1, h_0, m0_0, g0_0, m0_1, g0_1⟩ := k42_open hk0
  obtain rfl := (show cs0 = _ from h_0)
  clear hA0 hval0 hsz0
  obtain ⟨k, hp⟩ := Pure.FnExactDevSync x0 w0
  refine (laws_FnExactDevSync.calls k _ _ x0.f0 _ _ x0.f1 x0.f2 x0.f3 W g0_0 m0_0 g0_1 m0_1 hp).mono fun e W' ⟨he, bel⟩ => ?_
  subst he
  exact ⟨_, rfl, _, _, _, [], _, [], hW', trodAll_mk1 (shut_bool Try.underlying4 _), (trodAll_cons_mk (Below.trod laidOut (by kernel_rfl) (of_decide_eq_true (by kernel_rfl)) k0 bel lt0) trodAll_mk0), rfl, bel.frame _, fun h => by cases h⟩
theorem over : Rows.fnExactDevSyncRow.holds Try.pinned (OpenSpec.ofChange Rows.fnExactDevSyncSpec) :=
  OpenClaim.holds_of_wide 10 Try.f10 rfl rfl rfl rfl rfl rfl rfl ⟨rfl, rfl, rfl, rfl, rfl⟩ rfl rfl rfl rfl rfl (by kernel_rfl) Try.func10 (by kernel_rfl)
    (of_decide_eq_true (by kernel_rfl)) (by unfold Func.isWrapper; first | (rw [if_pos (by decide +kernel)]; kernel_rfl) | (rw [if_neg (by decide +kernel)]; exact ⟨rfl, rfl⟩))
    (fun os started H enc _ => lifted os started H enc)
theorem proved : Rows.FnExactDevSyncSaid := over
#print axioms proved
end Go.Proofs.Ytbdbeccaopphaaa.fnExactDevSync
namespace Go.Proofs.Ytbdbeccaopphaaa
/-- The row, under a short name, for the claim. -/
theorem fnExactDevSync_holds : Rows.FnExactDevSyncSaid := fnExactDevSync.proved
end Go.Proofs.Ytbdbeccaopphaaa
