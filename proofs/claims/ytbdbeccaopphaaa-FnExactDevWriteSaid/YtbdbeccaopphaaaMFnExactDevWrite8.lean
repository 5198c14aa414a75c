/- Part 8 of 8 of the proof that the law FnExactDevWrite returns true at every input. No further condition. -/
import Derived.Test.YtbdbeccaopphaaaWWords
import Derived.ChangeArms
import Derived.DataReads
import Derived.Test.YtbdbeccaopphaaaRows
import Derived.WalkKit
import Derived.ProofKit
import Derived.OpenShut
import Derived.ShutString
import Derived.ChangeOld
import Derived.Below
import Derived.SizedLaws
import Derived.Test.YtbdbeccaopphaaaMFnExactDevWrite7
namespace Go.Proofs.Ytbdbeccaopphaaa.Q
open Go.RowKit Go.Proofs.YtbdbeccaopphaaaW.PrintWords Go.Proofs.YtbdbeccaopphaaaW.PrintLast Go.Proofs.Ytbdbeccaopphaaa.LK Go.Proofs.YtbdbeccaopphaaaW.PrintMore
attribute [local go_sem] max2_int min2_int max_two min_two max_three min_three max_four min_four   -- for this text's walks alone
set_option linter.unusedVariables false
set_option linter.unusedSimpArgs false

/-! ### laws_FnExactDevWrite: function 9 -/
def laws_FnExactDevWrite.f (k : Nat) (l0_0 : List Int) (l0_1 : List (S139)) (a0_2 : Int) (a0_3 : Bool) (a1 : Int) (l2 : List Int) : Option (Bool) := if (l2.length : Int) > 1048576 then (some true) else ((laws_szDev.f k l0_0 l0_1 a0_2 a0_3 1048576).bind fun t102 => (if t102 < 0 then (some true) else ((laws_toDev.f k l0_0 l0_1 a0_2 a0_3).bind fun bt103 => ((laws_toByteS.f k l2).bind fun t111 => ((spec_DevWrite.f k bt103.1 bt103.2.1 bt103.2.2.1 bt103.2.2.2 a1 t111).bind fun bt114 => ((laws_toDev.f k l0_0 l0_1 a0_2 a0_3).bind fun bt123 => ((laws_toByteS.f k l2).bind fun t132 => ((impl_DevWrite.f bt123.1 bt123.2.1 bt123.2.2.1 bt123.2.2.2 a1 t132).bind fun bt135 => ((laws_eqDev.f k bt135.1 bt135.2.1 bt135.2.2.1 bt135.2.2.2 bt114.1 bt114.2.1 bt114.2.2.1 bt114.2.2.2).bind fun t144 => (if t144 = true then ((laws_toDev.f k l0_0 l0_1 a0_2 a0_3).bind fun bt145 => ((laws_eqDev.f k bt123.1 bt123.2.1 bt123.2.2.1 bt123.2.2.2 bt145.1 bt145.2.1 bt145.2.2.1 bt145.2.2.2).bind fun t153 => (if t153 = true then ((laws_toByteS.f k l2).bind fun t154 => ((laws_eqByteS.f k t132 t154).bind fun t157 => (if t157 = true then ((laws_markDev.f k bt123.1 bt123.2.1 bt123.2.2.1 bt123.2.2.2 1).bind fun bt158 => ((laws_markByteS.f k t132 bt158.1).bind fun bt161 => (if bt161.1 < 0 then (some false) else ((laws_eqDev.f k bt135.1 bt135.2.1 bt135.2.2.1 bt135.2.2.2 bt114.1 bt114.2.1 bt114.2.2.1 bt114.2.2.2).bind fun t163 => (if t163 = true then ((laws_markDev.f k bt135.1 bt135.2.1 bt135.2.2.1 bt135.2.2.2 1).bind fun bt164 => ((laws_heldDev.f k bt164.2.1 bt164.2.2 bt135.2.2.1 bt135.2.2.2 1).bind fun t167 => (if t167 < 0 then (some false) else (if t167 = bt164.1 then ((laws_toDev.f k l0_0 l0_1 a0_2 a0_3).bind fun bt168 => ((laws_toByteS.f k l2).bind fun t176 => ((impl_DevWrite.f bt168.1 bt168.2.1 bt168.2.2.1 bt168.2.2.2 a1 t176).bind fun bt179 => ((laws_eqDev.f k bt179.1 bt179.2.1 bt179.2.2.1 bt179.2.2.2 bt114.1 bt114.2.1 bt114.2.2.1 bt114.2.2.2).bind fun t188 => (if t188 = true then (some true) else (some false)))))) else (some false))))) else (some false)))))) else (some false)))) else (some false)))) else (some false)))))))))))
theorem laws_FnExactDevWrite.mono : ∀ a0 a1 a2 a3 a4 a5 k, LeO (laws_FnExactDevWrite.f k a0 a1 a2 a3 a4 a5) (laws_FnExactDevWrite.f (k + 1) a0 a1 a2 a3 a4 a5) := by
  intro a0 a1 a2 a3 a4 a5 k
  unfold laws_FnExactDevWrite.f
  repeat' first
      | (with_reducible exact laws_eqByteS.mono _ _ _)
      | (with_reducible exact laws_eqDev.mono _ _ _ _ _ _ _ _ _)
      | (with_reducible exact laws_heldDev.mono _ _ _ _ _ _)
      | (with_reducible exact laws_markByteS.mono _ _ _)
      | (with_reducible exact laws_markDev.mono _ _ _ _ _ _)
      | (with_reducible exact laws_szDev.mono _ _ _ _ _ _)
      | (with_reducible exact laws_toByteS.mono _ _)
      | (with_reducible exact laws_toDev.mono _ _ _ _ _)
      | (with_reducible exact spec_DevWrite.mono _ _ _ _ _ _ _)
      | (with_reducible exact LeO.refl _)
      | (with_reducible exact LeO.none _)
      | (with_reducible refine LeO.ite ?_ ?_)
      | (with_reducible refine LeO.bind ?_ (fun _ => ?_))
      | exact laws_eqByteS.mono _ _ _
      | exact laws_eqDev.mono _ _ _ _ _ _ _ _ _
      | exact laws_heldDev.mono _ _ _ _ _ _
      | exact laws_markByteS.mono _ _ _
      | exact laws_markDev.mono _ _ _ _ _ _
      | exact laws_szDev.mono _ _ _ _ _ _
      | exact laws_toByteS.mono _ _
      | exact laws_toDev.mono _ _ _ _ _
      | exact spec_DevWrite.mono _ _ _ _ _ _ _
      | exact LeO.none _
      | refine LeO.ite ?_ ?_
      | refine LeO.bind ?_ (fun _ => ?_)
set_option maxHeartbeats 8000000 in
set_option maxRecDepth 100000 in
theorem laws_FnExactDevWrite.calls (k : Nat) (A0_0 : Option Addr) (c0_0 : Nat) (l0_0 : List Int) (A0_1 : Option Addr) (c0_1 : Nat) (l0_1 : List (S139)) (a0_2 : Int) (a0_3 : Bool) (a1 : Int) (A2 : Option Addr) (c2 : Nat) (l2 : List Int) (w : World) (hr0_0 : Kd.C (Kd.int .u8) w A0_0 l0_0.length l0_0) (hc0_0 : l0_0.length ≤ c0_0) (hr0_1 : Kd.C k139 w A0_1 l0_1.length l0_1) (hc0_1 : l0_1.length ≤ c0_1) (hr2 : Kd.C (Kd.int .u8) w A2 l2.length l2) (hc2 : l2.length ≤ c2) (h : laws_FnExactDevWrite.f k l0_0 l0_1 a0_2 a0_3 a1 l2 = some true) :
    Calls Try.prog 9 #[.agg #[.slice A0_0 l0_0.length c0_0, .slice A0_1 l0_1.length c0_1, .int .i64 a0_2, .bool a0_3], .int .i64 a1, .slice A2 l2.length c2] w fun e w' => e = .returned (.bool true) ∧ Below w.heap.size w w' := by
  have hu42 := Try.underlying42
  have hu35 := Try.underlying35
  have HR0_0 := Aside0.mk hr0_0
  have HC0_0 := Aside0.mk hc0_0
  clear hr0_0 hc0_0
  have HR0_1 := Aside0.mk hr0_1
  have HC0_1 := Aside0.mk hc0_1
  clear hr0_1 hc0_1
  have HR2 := Aside0.mk hr2
  have HC2 := Aside0.mk hc2
  clear hr2 hc2
  have HB := Aside0.mk (Below.refl w.heap.size w)
  have H : (if (l2.length : Int) > 1048576 then (some true) else ((laws_szDev.f k l0_0 l0_1 a0_2 a0_3 1048576).bind fun t102 => (if t102 < 0 then (some true) else ((laws_toDev.f k l0_0 l0_1 a0_2 a0_3).bind fun bt103 => ((laws_toByteS.f k l2).bind fun t111 => ((spec_DevWrite.f k bt103.1 bt103.2.1 bt103.2.2.1 bt103.2.2.2 a1 t111).bind fun bt114 => ((laws_toDev.f k l0_0 l0_1 a0_2 a0_3).bind fun bt123 => ((laws_toByteS.f k l2).bind fun t132 => ((impl_DevWrite.f bt123.1 bt123.2.1 bt123.2.2.1 bt123.2.2.2 a1 t132).bind fun bt135 => ((laws_eqDev.f k bt135.1 bt135.2.1 bt135.2.2.1 bt135.2.2.2 bt114.1 bt114.2.1 bt114.2.2.1 bt114.2.2.2).bind fun t144 => (if t144 = true then ((laws_toDev.f k l0_0 l0_1 a0_2 a0_3).bind fun bt145 => ((laws_eqDev.f k bt123.1 bt123.2.1 bt123.2.2.1 bt123.2.2.2 bt145.1 bt145.2.1 bt145.2.2.1 bt145.2.2.2).bind fun t153 => (if t153 = true then ((laws_toByteS.f k l2).bind fun t154 => ((laws_eqByteS.f k t132 t154).bind fun t157 => (if t157 = true then ((laws_markDev.f k bt123.1 bt123.2.1 bt123.2.2.1 bt123.2.2.2 1).bind fun bt158 => ((laws_markByteS.f k t132 bt158.1).bind fun bt161 => (if bt161.1 < 0 then (some false) else ((laws_eqDev.f k bt135.1 bt135.2.1 bt135.2.2.1 bt135.2.2.2 bt114.1 bt114.2.1 bt114.2.2.1 bt114.2.2.2).bind fun t163 => (if t163 = true then ((laws_markDev.f k bt135.1 bt135.2.1 bt135.2.2.1 bt135.2.2.2 1).bind fun bt164 => ((laws_heldDev.f k bt164.2.1 bt164.2.2 bt135.2.2.1 bt135.2.2.2 1).bind fun t167 => (if t167 < 0 then (some false) else (if t167 = bt164.1 then ((laws_toDev.f k l0_0 l0_1 a0_2 a0_3).bind fun bt168 => ((laws_toByteS.f k l2).bind fun t176 => ((impl_DevWrite.f bt168.1 bt168.2.1 bt168.2.2.1 bt168.2.2.2 a1 t176).bind fun bt179 => ((laws_eqDev.f k bt179.1 bt179.2.1 bt179.2.2.1 bt179.2.2.2 bt114.1 bt114.2.1 bt114.2.2.1 bt114.2.2.2).bind fun t188 => (if t188 = true then (some true) else (some false)))))) else (some false))))) else (some false)))))) else (some false)))) else (some false)))) else (some false)))))))))))) = some true := h
  clear h
  by_cases c1 : (l2.length : Int) > 1048576
  · rw [if_pos c1] at H
    have c1b0 : decide (1048576 < (l2.length : Int)) = true := decide_eq_true c1
    have c1b1 : decide (1048576 < l2.length) = true := decide_eq_true (by omega)
    clear c1
    clear H
    (try clear HB)
    have H0 := Aside0.mk (Hist.refl w)
    go_enter Try.func9, Try.ntmps9
    go_wp2_with (first | ((with_reducible refine gate_dst (N := 3) rfl ?_); refine mk ?hw (N := 3) ?hd (cs := #[.slice A0_0 l0_0.length c0_0, .slice A0_1 l0_1.length c0_1, .int .i64 a0_2, .bool a0_3]) (t := 42) ?hr ?_; (case hd => rfl); (case hw => rfl); (case hr => first | (go_simp; done) | (go_simp; rfl)); intro g2 hg6 w3 hbox5 hb4; have H7 := Aside0.mk (Hist.step H0.out hb4); clear H0; have B8 := Aside0.mk hbox5; have G9 := Aside0.mk (Nat.le_of_eq hg6.symm); have L10 := Aside0.mk (blk_lt hbox5); clear hb4 hbox5 hg6))
    go_ret
    exact ⟨rfl, by first | exact H7.out.below | exact Drawn0.refl _⟩
  · rw [if_neg c1] at H
    have c1b0 : decide (1048576 < (l2.length : Int)) = false := decide_eq_false c1
    have c1b1 : decide (1048576 < l2.length) = false := decide_eq_false (by omega)
    clear c1
    replace H := Option.bind_eq_some_iff.mp H
    obtain ⟨t102, A11_, H⟩ := H
    have A11 := Aside0.mk A11_
    clear A11_
    (try dsimp only at H)
    by_cases c12 : t102 < 0
    · rw [if_pos c12] at H
      have c12b0 : decide (t102 < 0) = true := decide_eq_true c12
      clear c12
      clear H
      (try clear HB)
      have H0 := Aside0.mk (Hist.refl w)
      go_enter Try.func9, Try.ntmps9
      go_wp2_with (first | ((with_reducible refine gate_dst (N := 3) rfl ?_); refine mk ?hw (N := 3) ?hd (cs := #[.slice A0_0 l0_0.length c0_0, .slice A0_1 l0_1.length c0_1, .int .i64 a0_2, .bool a0_3]) (t := 42) ?hr ?_; (case hd => rfl); (case hw => rfl); (case hr => first | (go_simp; done) | (go_simp; rfl)); intro g13 hg17 w14 hbox16 hb15; have H18 := Aside0.mk (Hist.step H0.out hb15); clear H0; have B19 := Aside0.mk hbox16; have G20 := Aside0.mk (Nat.le_of_eq hg17.symm); have L21 := Aside0.mk (blk_lt hbox16); clear hb15 hbox16 hg17) | ((with_reducible refine gate_dst (N := 19) rfl ?_); refine ld ?hw rfl ?hx (blk_fix2 B19.out ⟨G20.out, L21.out⟩ H18.out.fixes.hd) Try.underlying42 rfl (by kernel_rfl) ?_; (case hw => rfl); (case hx => rfl)) | (((with_reducible refine gate_callee (f := 27) rfl ?_)); refine goesW (some 21) rfl ?hw Try.func27 (by kernel_rfl) rfl #[.agg #[.slice A0_0 l0_0.length c0_0, .slice A0_1 l0_1.length c0_1, .int .i64 a0_2, .bool a0_3], .int .i64 1048576] rfl (by (try simp only [List.map_toArray, List.map_cons, List.map_nil]); first | done | rfl | (simp only [List.length_drop, List.length_take]; rfl)) ?_; (case hw => rfl); with_reducible refine (laws_szDev.calls k _ _ l0_0 _ _ l0_1 a0_2 a0_3 1048576 t102 _ ?side1 ?side2 ?side3 ?side4 A11.out).mono ?_; (case side1 => exact Kd.C_below HR0_0.out H18.out.below); (case side2 => exact HC0_0.out); (case side3 => exact Kd.C_below HR0_1.out H18.out.below); (case side4 => exact HC0_1.out); rintro e w22 ⟨rfl, hb23⟩; refine ⟨_, rfl, ?_⟩; have H24 := Aside0.mk (Hist.pass H18.out hb23); clear H18; clear hb23))
      go_ret
      exact ⟨rfl, by first | exact H24.out.below | exact Drawn0.refl _⟩
    · rw [if_neg c12] at H
      have c12b0 : decide (t102 < 0) = false := decide_eq_false c12
      clear c12
      replace H := Option.bind_eq_some_iff.mp H
      obtain ⟨⟨t103, t106, t109, t110⟩, A25_, H⟩ := H
      have A25 := Aside0.mk A25_
      clear A25_
      (try dsimp only at H)
      replace H := Option.bind_eq_some_iff.mp H
      obtain ⟨t111, A26_, H⟩ := H
      have A26 := Aside0.mk A26_
      clear A26_
      (try dsimp only at H)
      replace H := Option.bind_eq_some_iff.mp H
      obtain ⟨⟨t114, t117, t120, t121⟩, A27_, H⟩ := H
      have A27 := Aside0.mk A27_
      clear A27_
      (try dsimp only at H)
      replace H := Option.bind_eq_some_iff.mp H
      obtain ⟨⟨t123, t126, t129, t130⟩, A28_, H⟩ := H
      have A28 := Aside0.mk A28_
      clear A28_
      (try dsimp only at H)
      replace H := Option.bind_eq_some_iff.mp H
      obtain ⟨t132, A29_, H⟩ := H
      have A29 := Aside0.mk A29_
      clear A29_
      (try dsimp only at H)
      replace H := Option.bind_eq_some_iff.mp H
      obtain ⟨⟨t135, t138, t141, t142⟩, A30_, H⟩ := H
      have A30 := Aside0.mk A30_
      clear A30_
      (try dsimp only at H)
      replace H := Option.bind_eq_some_iff.mp H
      obtain ⟨t144, A31_, H⟩ := H
      have A31 := Aside0.mk A31_
      clear A31_
      (try dsimp only at H)
      by_cases c32 : t144 = true
      · rw [if_pos c32] at H
        subst c32
        replace H := Option.bind_eq_some_iff.mp H
        obtain ⟨⟨t145, t148, t151, t152⟩, A33_, H⟩ := H
        have A33 := Aside0.mk A33_
        clear A33_
        (try dsimp only at H)
        replace H := Option.bind_eq_some_iff.mp H
        obtain ⟨t153, A34_, H⟩ := H
        have A34 := Aside0.mk A34_
        clear A34_
        (try dsimp only at H)
        by_cases c35 : t153 = true
        · rw [if_pos c35] at H
          subst c35
          replace H := Option.bind_eq_some_iff.mp H
          obtain ⟨t154, A36_, H⟩ := H
          have A36 := Aside0.mk A36_
          clear A36_
          (try dsimp only at H)
          replace H := Option.bind_eq_some_iff.mp H
          obtain ⟨t157, A37_, H⟩ := H
          have A37 := Aside0.mk A37_
          clear A37_
          (try dsimp only at H)
          by_cases c38 : t157 = true
          · rw [if_pos c38] at H
            subst c38
            replace H := Option.bind_eq_some_iff.mp H
            obtain ⟨⟨t158, t159, t160⟩, A39_, H⟩ := H
            have A39 := Aside0.mk A39_
            clear A39_
            (try dsimp only at H)
            replace H := Option.bind_eq_some_iff.mp H
            obtain ⟨⟨t161, t162⟩, A40_, H⟩ := H
            have A40 := Aside0.mk A40_
            clear A40_
            (try dsimp only at H)
            by_cases c41 : t161 < 0
            · rw [if_pos c41] at H
              exact absurd H (by simp)
            · rw [if_neg c41] at H
              have c41b0 : decide (t161 < 0) = false := decide_eq_false c41
              clear c41
              replace H := Option.bind_eq_some_iff.mp H
              obtain ⟨t163, A42_, H⟩ := H
              have A42 := Aside0.mk A42_
              clear A42_
              (try dsimp only at H)
              by_cases c43 : t163 = true
              · rw [if_pos c43] at H
                subst c43
                replace H := Option.bind_eq_some_iff.mp H
                obtain ⟨⟨t164, t165, t166⟩, A44_, H⟩ := H
                have A44 := Aside0.mk A44_
                clear A44_
                (try dsimp only at H)
                replace H := Option.bind_eq_some_iff.mp H
                obtain ⟨t167, A45_, H⟩ := H
                have A45 := Aside0.mk A45_
                clear A45_
                (try dsimp only at H)
                by_cases c46 : t167 < 0
                · rw [if_pos c46] at H
                  exact absurd H (by simp)
                · rw [if_neg c46] at H
                  have c46b0 : decide (t167 < 0) = false := decide_eq_false c46
                  clear c46
                  by_cases c47 : t167 = t164
                  · rw [if_pos c47] at H
                    have c47b0 : (t167 == t164) = true := beq_iff_eq.mpr c47
                    have c47b1 : (t167 != t164) = false := bne_eq_false_iff_eq.mpr c47
                    clear c47
                    replace H := Option.bind_eq_some_iff.mp H
                    obtain ⟨⟨t168, t171, t174, t175⟩, A48_, H⟩ := H
                    have A48 := Aside0.mk A48_
                    clear A48_
                    (try dsimp only at H)
                    replace H := Option.bind_eq_some_iff.mp H
                    obtain ⟨t176, A49_, H⟩ := H
                    have A49 := Aside0.mk A49_
                    clear A49_
                    (try dsimp only at H)
                    replace H := Option.bind_eq_some_iff.mp H
                    obtain ⟨⟨t179, t182, t185, t186⟩, A50_, H⟩ := H
                    have A50 := Aside0.mk A50_
                    clear A50_
                    (try dsimp only at H)
                    replace H := Option.bind_eq_some_iff.mp H
                    obtain ⟨t188, A51_, H⟩ := H
                    have A51 := Aside0.mk A51_
                    clear A51_
                    (try dsimp only at H)
                    by_cases c52 : t188 = true
                    · rw [if_pos c52] at H
                      subst c52
                      clear H
                      (try clear HB)
                      have H0 := Aside0.mk (Hist.refl w)
                      go_enter Try.func9, Try.ntmps9
                      go_wp2_with (first | ((with_reducible refine gate_dst (N := 3) rfl ?_); refine mk ?hw (N := 3) ?hd (cs := #[.slice A0_0 l0_0.length c0_0, .slice A0_1 l0_1.length c0_1, .int .i64 a0_2, .bool a0_3]) (t := 42) ?hr ?_; (case hd => rfl); (case hw => rfl); (case hr => first | (go_simp; done) | (go_simp; rfl)); intro g53 hg57 w54 hbox56 hb55; have H58 := Aside0.mk (Hist.step H0.out hb55); clear H0; have B59 := Aside0.mk hbox56; have G60 := Aside0.mk (Nat.le_of_eq hg57.symm); have L61 := Aside0.mk (blk_lt hbox56); clear hb55 hbox56 hg57) | ((with_reducible refine gate_dst (N := 19) rfl ?_); refine ld ?hw rfl ?hx (blk_fix2 B59.out ⟨G60.out, L61.out⟩ H58.out.fixes.hd) Try.underlying42 rfl (by kernel_rfl) ?_; (case hw => rfl); (case hx => rfl)) | (((with_reducible refine gate_callee (f := 27) rfl ?_)); refine goesW (some 21) rfl ?hw Try.func27 (by kernel_rfl) rfl #[.agg #[.slice A0_0 l0_0.length c0_0, .slice A0_1 l0_1.length c0_1, .int .i64 a0_2, .bool a0_3], .int .i64 1048576] rfl (by (try simp only [List.map_toArray, List.map_cons, List.map_nil]); first | done | rfl | (simp only [List.length_drop, List.length_take]; rfl)) ?_; (case hw => rfl); with_reducible refine (laws_szDev.calls k _ _ l0_0 _ _ l0_1 a0_2 a0_3 1048576 t102 _ ?side1 ?side2 ?side3 ?side4 A11.out).mono ?_; (case side1 => exact Kd.C_below HR0_0.out H58.out.below); (case side2 => exact HC0_0.out); (case side3 => exact Kd.C_below HR0_1.out H58.out.below); (case side4 => exact HC0_1.out); rintro e w62 ⟨rfl, hb63⟩; refine ⟨_, rfl, ?_⟩; have H64 := Aside0.mk (Hist.pass H58.out hb63); clear H58; clear hb63) | ((with_reducible refine gate_dst (N := 24) rfl ?_); refine ld ?hw rfl ?hx (blk_fix2 B59.out ⟨G60.out, L61.out⟩ H64.out.fixes.hd) Try.underlying42 rfl (by kernel_rfl) ?_; (case hw => rfl); (case hx => rfl)) | (((with_reducible refine gate_callee (f := 29) rfl ?_)); refine goesW (some 25) rfl ?hw Try.func29 (by kernel_rfl) rfl #[.agg #[.slice A0_0 l0_0.length c0_0, .slice A0_1 l0_1.length c0_1, .int .i64 a0_2, .bool a0_3]] rfl (by (try simp only [List.map_toArray, List.map_cons, List.map_nil]); first | done | rfl | (simp only [List.length_drop, List.length_take]; rfl)) ?_; (case hw => rfl); with_reducible refine (laws_toDev.calls k _ _ l0_0 _ _ l0_1 a0_2 a0_3 t103 t106 t109 t110 _ ?side1 ?side2 ?side3 ?side4 A25.out).mono ?_; (case side1 => exact Kd.C_below HR0_0.out H64.out.below); (case side2 => exact HC0_0.out); (case side3 => exact Kd.C_below HR0_1.out H64.out.below); (case side4 => exact HC0_1.out); rintro e w65 ⟨v66, v67, rfl, ho68, ho69, hb70⟩; refine ⟨_, rfl, ?_⟩; have H71 := Aside0.mk (Hist.step H64.out hb70); clear H64; clear hb70; have F74 := Aside0.mk ho68; clear ho68; have F78 := Aside0.mk ho69; clear ho69; obtain ⟨Ao72, co73, eo80⟩ := Kd.R_slice F74.out; (first | subst eo80 | (injection eo80 with f1_ f2_ f3_; have f4_ := f1_.symm; have f5_ := f3_.symm; clear f1_ f2_ f3_; subst f4_; subst f5_)); obtain ⟨Ao76, co77, eo81⟩ := Kd.S_slice F78.out; (first | subst eo81 | (injection eo81 with f1_ f2_ f3_; have f4_ := f1_.symm; have f5_ := f3_.symm; clear f1_ f2_ f3_; subst f4_; subst f5_))) | (((with_reducible refine gate_callee (f := 16) rfl ?_)); refine goesW (some 28) rfl ?hw Try.func16 (by kernel_rfl) rfl #[.slice A2 l2.length c2] rfl (by (try simp only [List.map_toArray, List.map_cons, List.map_nil]); first | done | rfl | (simp only [List.length_drop, List.length_take]; rfl)) ?_; (case hw => rfl); with_reducible refine (laws_toByteS.calls k _ _ l2 t111 _ ?side1 ?side2 A26.out).mono ?_; (case side1 => exact Kd.C_below HR2.out H71.out.below); (case side2 => exact HC2.out); rintro e w82 ⟨v83, rfl, ho84, hb85⟩; refine ⟨_, rfl, ?_⟩; have H86 := Aside0.mk (Hist.step H71.out hb85); clear H71; clear hb85; have F89 := Aside0.mk ho84; clear ho84; obtain ⟨Ao87, co88, eo91⟩ := Kd.R_slice F89.out; (first | subst eo91 | (injection eo91 with f1_ f2_ f3_; have f4_ := f1_.symm; have f5_ := f3_.symm; clear f1_ f2_ f3_; subst f4_; subst f5_))) | (((with_reducible refine gate_callee (f := 35) rfl ?_)); refine goesW (some 29) rfl ?hw Try.func35 (by kernel_rfl) rfl #[.agg #[.slice Ao72 t103.length co73, .slice Ao76 t106.length co77, .int .i64 t109, .bool t110], .int .i64 a1, .slice Ao87 t111.length co88] rfl (by (try simp only [List.map_toArray, List.map_cons, List.map_nil]); first | done | rfl | (simp only [List.length_drop, List.length_take]; rfl)) ?_; (case hw => rfl); with_reducible refine (spec_DevWrite.calls k _ _ t103 _ _ t106 t109 t110 a1 _ _ t111 t114 t117 t120 t121 _ ?side1 ?side2 ?side3 ?side4 ?side5 ?side6 A27.out).mono ?_; (case side1 => exact (Kd.R_reads' (R_fix F74.out H86.out.fixes.tl.hd)).2.2); (case side2 => exact R_capn (R_fix F74.out H86.out.fixes.tl.hd)); (case side3 => exact (Kd.S_reads' (S_fix F78.out H86.out.fixes.tl.hd)).2.2); (case side4 => exact S_capn (S_fix F78.out H86.out.fixes.tl.hd)); (case side5 => exact (Kd.R_reads' (R_fix F89.out H86.out.fixes.hd)).2.2); (case side6 => exact R_capn (R_fix F89.out H86.out.fixes.hd)); rintro e w92 ⟨v93, v94, rfl, ho95, ho96, hb97⟩; refine ⟨_, rfl, ?_⟩; have H98 := Aside0.mk (Hist.step H86.out hb97); clear H86; clear hb97; have F101 := Aside0.mk ho95; clear ho95; have F105 := Aside0.mk ho96; clear ho96; obtain ⟨Ao99, co100, eo107⟩ := Kd.R_slice F101.out; (first | subst eo107 | (injection eo107 with f1_ f2_ f3_; have f4_ := f1_.symm; have f5_ := f3_.symm; clear f1_ f2_ f3_; subst f4_; subst f5_)); obtain ⟨Ao103, co104, eo108⟩ := Kd.S_slice F105.out; (first | subst eo108 | (injection eo108 with f1_ f2_ f3_; have f4_ := f1_.symm; have f5_ := f3_.symm; clear f1_ f2_ f3_; subst f4_; subst f5_))) | ((with_reducible refine gate_dst (N := 8) rfl ?_); refine mk ?hw (N := 8) ?hd (cs := #[.slice none 0 0, .slice none 0 0, .int .i64 0, .bool false]) (t := 35) ?hr ?_; (case hd => rfl); (case hw => rfl); (case hr => first | (go_simp; done) | (go_simp; rfl)); intro g109 hg113 w110 hbox112 hb111; have H114 := Aside0.mk (Hist.step H98.out hb111); clear H98; have B115 := Aside0.mk hbox112; have G116 := Aside0.mk (Nat.le_of_eq hg113.symm); have L117 := Aside0.mk (blk_lt hbox112); clear hb111 hbox112 hg113) | ((with_reducible refine gate_store (t := 35) (p := 8) rfl ?_); refine st_all ?hw ?hN rfl ?hp (cs := #[.slice Ao99 t114.length co100, .slice Ao103 t117.length co104, .int .i64 t120, .bool t121]) ?hx (blk_fix2 B115.out ⟨G116.out, L117.out⟩ H114.out.fixes.hd) (by kernel_rfl) rfl (by simp [Value.oneCell']) ?_; (case hw => rfl); (case hN => rfl); (case hp => rfl); (case hx => rfl); intro w118 hbox119 hs120; have H121 : Aside0 (Hist w [(w118, w92.heap.size, w110.heap.size), (w92, w82.heap.size, w92.heap.size), (w82, w65.heap.size, w82.heap.size), (w65, w62.heap.size, w65.heap.size), (w54, w.heap.size, w54.heap.size)] w118) := ⟨Hist.mark' (w := w110) (b := w92.heap.size) (t := w110.heap.size) (l1 := []) (l2 := [(w92, w82.heap.size, w92.heap.size), (w82, w65.heap.size, w82.heap.size), (w65, w62.heap.size, w65.heap.size), (w54, w.heap.size, w54.heap.size)]) (by simp only [List.cons_append, List.nil_append]) (by simp only [List.cons_append, List.nil_append]) H114.out hs120 (fun k_ hk_ => by rw [hk_]; exact ⟨G116.out, L117.out⟩)⟩; have B115n := Aside0.mk hbox119; clear hs120 hbox119 H114 B115; have B115 := B115n; clear B115n) | ((with_reducible refine gate_dst (N := 30) rfl ?_); refine ld ?hw rfl ?hx (blk_fix2 B59.out ⟨G60.out, L61.out⟩ H121.out.fixes.tl.tl.tl.tl.hd) Try.underlying42 rfl (by kernel_rfl) ?_; (case hw => rfl); (case hx => rfl)) | (((with_reducible refine gate_callee (f := 29) rfl ?_)); refine goesW (some 31) rfl ?hw Try.func29 (by kernel_rfl) rfl #[.agg #[.slice A0_0 l0_0.length c0_0, .slice A0_1 l0_1.length c0_1, .int .i64 a0_2, .bool a0_3]] rfl (by (try simp only [List.map_toArray, List.map_cons, List.map_nil]); first | done | rfl | (simp only [List.length_drop, List.length_take]; rfl)) ?_; (case hw => rfl); with_reducible refine (laws_toDev.calls k _ _ l0_0 _ _ l0_1 a0_2 a0_3 t123 t126 t129 t130 _ ?side1 ?side2 ?side3 ?side4 A28.out).mono ?_; (case side1 => exact Kd.C_below HR0_0.out H121.out.below); (case side2 => exact HC0_0.out); (case side3 => exact Kd.C_below HR0_1.out H121.out.below); (case side4 => exact HC0_1.out); rintro e w122 ⟨v123, v124, rfl, ho125, ho126, hb127⟩; refine ⟨_, rfl, ?_⟩; have H128 := Aside0.mk (Hist.step H121.out hb127); clear H121; clear hb127; have F131 := Aside0.mk ho125; clear ho125; have F135 := Aside0.mk ho126; clear ho126; obtain ⟨Ao129, co130, eo137⟩ := Kd.R_slice F131.out; (first | subst eo137 | (injection eo137 with f1_ f2_ f3_; have f4_ := f1_.symm; have f5_ := f3_.symm; clear f1_ f2_ f3_; subst f4_; subst f5_)); obtain ⟨Ao133, co134, eo138⟩ := Kd.S_slice F135.out; (first | subst eo138 | (injection eo138 with f1_ f2_ f3_; have f4_ := f1_.symm; have f5_ := f3_.symm; clear f1_ f2_ f3_; subst f4_; subst f5_))) | ((with_reducible refine gate_dst (N := 9) rfl ?_); refine mk ?hw (N := 9) ?hd (cs := #[.slice none 0 0, .slice none 0 0, .int .i64 0, .bool false]) (t := 35) ?hr ?_; (case hd => rfl); (case hw => rfl); (case hr => first | (go_simp; done) | (go_simp; rfl)); intro g139 hg143 w140 hbox142 hb141; have H144 := Aside0.mk (Hist.step H128.out hb141); clear H128; have B145 := Aside0.mk hbox142; have G146 := Aside0.mk (Nat.le_of_eq hg143.symm); have L147 := Aside0.mk (blk_lt hbox142); clear hb141 hbox142 hg143) | ((with_reducible refine gate_store (t := 35) (p := 9) rfl ?_); refine st_all ?hw ?hN rfl ?hp (cs := #[.slice Ao129 t123.length co130, .slice Ao133 t126.length co134, .int .i64 t129, .bool t130]) ?hx (blk_fix2 B145.out ⟨G146.out, L147.out⟩ H144.out.fixes.hd) (by kernel_rfl) rfl (by simp [Value.oneCell']) ?_; (case hw => rfl); (case hN => rfl); (case hp => rfl); (case hx => rfl); intro w148 hbox149 hs150; have H151 : Aside0 (Hist w [(w148, w122.heap.size, w140.heap.size), (w122, w118.heap.size, w122.heap.size), (w118, w92.heap.size, w110.heap.size), (w92, w82.heap.size, w92.heap.size), (w82, w65.heap.size, w82.heap.size), (w65, w62.heap.size, w65.heap.size), (w54, w.heap.size, w54.heap.size)] w148) := ⟨Hist.mark' (w := w140) (b := w122.heap.size) (t := w140.heap.size) (l1 := []) (l2 := [(w122, w118.heap.size, w122.heap.size), (w118, w92.heap.size, w110.heap.size), (w92, w82.heap.size, w92.heap.size), (w82, w65.heap.size, w82.heap.size), (w65, w62.heap.size, w65.heap.size), (w54, w.heap.size, w54.heap.size)]) (by simp only [List.cons_append, List.nil_append]) (by simp only [List.cons_append, List.nil_append]) H144.out hs150 (fun k_ hk_ => by rw [hk_]; exact ⟨G146.out, L147.out⟩)⟩; have B145n := Aside0.mk hbox149; clear hs150 hbox149 H144 B145; have B145 := B145n; clear B145n) | (((with_reducible refine gate_callee (f := 16) rfl ?_)); refine goesW (some 33) rfl ?hw Try.func16 (by kernel_rfl) rfl #[.slice A2 l2.length c2] rfl (by (try simp only [List.map_toArray, List.map_cons, List.map_nil]); first | done | rfl | (simp only [List.length_drop, List.length_take]; rfl)) ?_; (case hw => rfl); with_reducible refine (laws_toByteS.calls k _ _ l2 t132 _ ?side1 ?side2 A29.out).mono ?_; (case side1 => exact Kd.C_below HR2.out H151.out.below); (case side2 => exact HC2.out); rintro e w152 ⟨v153, rfl, ho154, hb155⟩; refine ⟨_, rfl, ?_⟩; have H156 := Aside0.mk (Hist.step H151.out hb155); clear H151; clear hb155; have F159 := Aside0.mk ho154; clear ho154; obtain ⟨Ao157, co158, eo161⟩ := Kd.R_slice F159.out; (first | subst eo161 | (injection eo161 with f1_ f2_ f3_; have f4_ := f1_.symm; have f5_ := f3_.symm; clear f1_ f2_ f3_; subst f4_; subst f5_))) | ((with_reducible refine gate_dst (N := 34) rfl ?_); refine ld ?hw rfl ?hx (blk_fix2 B145.out ⟨G146.out, L147.out⟩ H156.out.fixes.tl.hd) Try.underlying35 rfl (by kernel_rfl) ?_; (case hw => rfl); (case hx => rfl)) | (((with_reducible refine gate_callee (f := 36) rfl ?_)); refine goesW (some 37) rfl ?hw Try.func36 (by kernel_rfl) rfl #[.agg #[.slice Ao129 t123.length co130, .slice Ao133 t126.length co134, .int .i64 t129, .bool t130], .int .i64 a1, .slice Ao157 t132.length co158] rfl (by (try simp only [List.map_toArray, List.map_cons, List.map_nil]); first | done | rfl | (simp only [List.length_drop, List.length_take]; rfl)) ?_; (case hw => rfl); with_reducible refine (impl_DevWrite.calls _ _ t123 _ _ t126 t129 t130 a1 _ _ t132 t135 t138 t141 t142 _ ?side1 ?side2 ?side3 ?side4 ?side5 ?side6 A30.out).mono ?_; (case side1 => exact (Kd.R_reads' (R_fix F131.out H156.out.fixes.tl.tl.hd)).2.2); (case side2 => exact R_capn (R_fix F131.out H156.out.fixes.tl.tl.hd)); (case side3 => exact (Kd.S_reads' (S_fix F135.out H156.out.fixes.tl.tl.hd)).2.2); (case side4 => exact S_capn (S_fix F135.out H156.out.fixes.tl.tl.hd)); (case side5 => exact (Kd.R_reads' (R_fix F159.out H156.out.fixes.hd)).2.2); (case side6 => exact R_capn (R_fix F159.out H156.out.fixes.hd)); rintro e w162 ⟨v163, v164, rfl, ho165, ho166, hb167⟩; refine ⟨_, rfl, ?_⟩; have H168 := Aside0.mk (Hist.step H156.out hb167); clear H156; clear hb167; have F171 := Aside0.mk ho165; clear ho165; have F175 := Aside0.mk ho166; clear ho166; obtain ⟨Ao169, co170, eo177⟩ := Kd.R_slice F171.out; (first | subst eo177 | (injection eo177 with f1_ f2_ f3_; have f4_ := f1_.symm; have f5_ := f3_.symm; clear f1_ f2_ f3_; subst f4_; subst f5_)); obtain ⟨Ao173, co174, eo178⟩ := Kd.S_slice F175.out; (first | subst eo178 | (injection eo178 with f1_ f2_ f3_; have f4_ := f1_.symm; have f5_ := f3_.symm; clear f1_ f2_ f3_; subst f4_; subst f5_))) | ((with_reducible refine gate_dst (N := 11) rfl ?_); refine mk ?hw (N := 11) ?hd (cs := #[.slice none 0 0, .slice none 0 0, .int .i64 0, .bool false]) (t := 35) ?hr ?_; (case hd => rfl); (case hw => rfl); (case hr => first | (go_simp; done) | (go_simp; rfl)); intro g179 hg183 w180 hbox182 hb181; have H184 := Aside0.mk (Hist.step H168.out hb181); clear H168; have B185 := Aside0.mk hbox182; have G186 := Aside0.mk (Nat.le_of_eq hg183.symm); have L187 := Aside0.mk (blk_lt hbox182); clear hb181 hbox182 hg183) | ((with_reducible refine gate_store (t := 35) (p := 11) rfl ?_); refine st_all ?hw ?hN rfl ?hp (cs := #[.slice Ao169 t135.length co170, .slice Ao173 t138.length co174, .int .i64 t141, .bool t142]) ?hx (blk_fix2 B185.out ⟨G186.out, L187.out⟩ H184.out.fixes.hd) (by kernel_rfl) rfl (by simp [Value.oneCell']) ?_; (case hw => rfl); (case hN => rfl); (case hp => rfl); (case hx => rfl); intro w188 hbox189 hs190; have H191 : Aside0 (Hist w [(w188, w162.heap.size, w180.heap.size), (w162, w152.heap.size, w162.heap.size), (w152, w148.heap.size, w152.heap.size), (w148, w122.heap.size, w140.heap.size), (w122, w118.heap.size, w122.heap.size), (w118, w92.heap.size, w110.heap.size), (w92, w82.heap.size, w92.heap.size), (w82, w65.heap.size, w82.heap.size), (w65, w62.heap.size, w65.heap.size), (w54, w.heap.size, w54.heap.size)] w188) := ⟨Hist.mark' (w := w180) (b := w162.heap.size) (t := w180.heap.size) (l1 := []) (l2 := [(w162, w152.heap.size, w162.heap.size), (w152, w148.heap.size, w152.heap.size), (w148, w122.heap.size, w140.heap.size), (w122, w118.heap.size, w122.heap.size), (w118, w92.heap.size, w110.heap.size), (w92, w82.heap.size, w92.heap.size), (w82, w65.heap.size, w82.heap.size), (w65, w62.heap.size, w65.heap.size), (w54, w.heap.size, w54.heap.size)]) (by simp only [List.cons_append, List.nil_append]) (by simp only [List.cons_append, List.nil_append]) H184.out hs190 (fun k_ hk_ => by rw [hk_]; exact ⟨G186.out, L187.out⟩)⟩; have B185n := Aside0.mk hbox189; clear hs190 hbox189 H184 B185; have B185 := B185n; clear B185n) | ((with_reducible refine gate_dst (N := 38) rfl ?_); refine ld ?hw rfl ?hx (blk_fix2 B185.out ⟨G186.out, L187.out⟩ H191.out.fixes.hd) Try.underlying35 rfl (by kernel_rfl) ?_; (case hw => rfl); (case hx => rfl)) | ((with_reducible refine gate_dst (N := 39) rfl ?_); refine ld ?hw rfl ?hx (blk_fix2 B115.out ⟨G116.out, L117.out⟩ H191.out.fixes.tl.tl.tl.tl.tl.hd) Try.underlying35 rfl (by kernel_rfl) ?_; (case hw => rfl); (case hx => rfl)) | (((with_reducible refine gate_callee (f := 24) rfl ?_)); refine goesW (some 40) rfl ?hw Try.func24 (by kernel_rfl) rfl #[.agg #[.slice Ao169 t135.length co170, .slice Ao173 t138.length co174, .int .i64 t141, .bool t142], .agg #[.slice Ao99 t114.length co100, .slice Ao103 t117.length co104, .int .i64 t120, .bool t121]] rfl (by (try simp only [List.map_toArray, List.map_cons, List.map_nil]); first | done | rfl | (simp only [List.length_drop, List.length_take]; rfl)) ?_; (case hw => rfl); with_reducible refine (laws_eqDev.calls k _ _ t135 _ _ t138 t141 t142 _ _ t114 _ _ t117 t120 t121 true _ ?side1 ?side2 ?side3 ?side4 ?side5 ?side6 ?side7 ?side8 A31.out).mono ?_; (case side1 => exact (Kd.R_reads' (R_fix F171.out H191.out.fixes.tl.hd)).2.2); (case side2 => exact R_capn (R_fix F171.out H191.out.fixes.tl.hd)); (case side3 => exact (Kd.S_reads' (S_fix F175.out H191.out.fixes.tl.hd)).2.2); (case side4 => exact S_capn (S_fix F175.out H191.out.fixes.tl.hd)); (case side5 => exact (Kd.R_reads' (R_fix F101.out H191.out.fixes.tl.tl.tl.tl.tl.tl.hd)).2.2); (case side6 => exact R_capn (R_fix F101.out H191.out.fixes.tl.tl.tl.tl.tl.tl.hd)); (case side7 => exact (Kd.S_reads' (S_fix F105.out H191.out.fixes.tl.tl.tl.tl.tl.tl.hd)).2.2); (case side8 => exact S_capn (S_fix F105.out H191.out.fixes.tl.tl.tl.tl.tl.tl.hd)); rintro e w192 ⟨rfl, hb193⟩; refine ⟨_, rfl, ?_⟩; have H194 := Aside0.mk (Hist.pass H191.out hb193); clear H191; clear hb193))
                      have H195 := Aside0.mk (Hist.drew H194.out)
                      clear H194
                      refine start_ (n := 5) (S := fun w' => w'.heap[g139]? = some (.cells #[.slice Ao129 t123.length co130, .slice Ao133 t126.length co134, .int .i64 t129, .bool t130] 35 (0, 0)) ∧ w'.heap[g53]? = some (.cells #[.slice A0_0 l0_0.length c0_0, .slice A0_1 l0_1.length c0_1, .int .i64 a0_2, .bool a0_3] 42 (0, 0))) (ds := []) #[false, false, false, false, false] (by kernel_rfl) rfl rfl ⟨(blk_fix2 B145.out ⟨G146.out, L147.out⟩ H195.out.fixes.tl.tl.tl.hd), (blk_fix2 B59.out ⟨G60.out, L61.out⟩ H195.out.fixes.tl.tl.tl.tl.tl.tl.tl.tl.tl.hd)⟩ (fun hHeld => ?_)
                      generalize w192.drew = w196 at H195 hHeld ⊢
                      refine take_ (i := 0) (N := some 42) (v := .agg #[.slice Ao129 t123.length co130, .slice Ao133 t126.length co134, .int .i64 t129, .bool t130]) (a' := ?aaq197) #[true, false, false, false, false] rfl rfl (by kernel_rfl) (fun _ _ _ h => h) (Or.inl ⟨by rfl, ?ylq197⟩) hHeld ?haq197 ?hhq197
                      case ylq197 =>
                        rintro w' ⟨s0, s1⟩
                        exact ld_run (x := .tmp 9) (by rfl) (by rfl) s0 Try.underlying35 rfl (by kernel_rfl)
                      case haq197 =>
                        simp only [Act.put, List.setIfInBounds_toArray, List.set_cons_zero, List.set_cons_succ, i64_w, i32_w]
                        rfl
                      refine take_ (i := 1) (N := some 43) (v := .agg #[.slice A0_0 l0_0.length c0_0, .slice A0_1 l0_1.length c0_1, .int .i64 a0_2, .bool a0_3]) (a' := ?aaq198) #[true, true, false, false, false] rfl rfl (by kernel_rfl) (fun _ _ _ h => h) (Or.inl ⟨by rfl, ?ylq198⟩) hHeld ?haq198 ?hhq198
                      case ylq198 =>
                        rintro w' ⟨s0, s1⟩
                        exact ld_run (x := .tmp 3) (by rfl) (by rfl) s1 Try.underlying42 rfl (by kernel_rfl)
                      case haq198 =>
                        simp only [Act.put, List.setIfInBounds_toArray, List.set_cons_zero, List.set_cons_succ, i64_w, i32_w]
                        rfl
                      refine one_ (i := 2) (N := some 44) #[true, true, true, false, false] rfl rfl (by kernel_rfl) (by decide) (fun K hK => ?_)
                      refine goes_ Try.func29 (by kernel_rfl) rfl #[.agg #[.slice A0_0 l0_0.length c0_0, .slice A0_1 l0_1.length c0_1, .int .i64 a0_2, .bool a0_3]] (by rfl) rfl rfl (by (try simp only [List.map_toArray, List.map_cons, List.map_nil]); first | done | rfl | (simp only [List.length_drop, List.length_take]; rfl)) ?_
                      with_reducible refine (laws_toDev.calls k _ _ l0_0 _ _ l0_1 a0_2 a0_3 t145 t148 t151 t152 _ ?side1 ?side2 ?side3 ?side4 A33.out).mono ?_
                      (case side1 => exact Kd.C_below HR0_0.out H195.out.below)
                      (case side2 => exact HC0_0.out)
                      (case side3 => exact Kd.C_below HR0_1.out H195.out.below)
                      (case side4 => exact HC0_1.out)
                      rintro e w199 ⟨v200, v201, rfl, ho202, ho203, hb204⟩
                      refine ⟨_, rfl, ?_⟩
                      have H205 := Aside0.mk (Hist.step H195.out hb204)
                      clear H195
                      clear hb204
                      have F208 := Aside0.mk ho202
                      clear ho202
                      have F212 := Aside0.mk ho203
                      clear ho203
                      obtain ⟨Ao206, co207, eo214⟩ := Kd.R_slice F208.out
                      (first | subst eo214 | (injection eo214 with f1_ f2_ f3_; have f4_ := f1_.symm; have f5_ := f3_.symm; clear f1_ f2_ f3_; subst f4_; subst f5_))
                      obtain ⟨Ao210, co211, eo215⟩ := Kd.S_slice F212.out
                      (first | subst eo215 | (injection eo215 with f1_ f2_ f3_; have f4_ := f1_.symm; have f5_ := f3_.symm; clear f1_ f2_ f3_; subst f4_; subst f5_))
                      refine hK.out _ _ ⟨(blk_fix2 B145.out ⟨G146.out, L147.out⟩ H205.out.fixes.tl.tl.tl.tl.hd), (blk_fix2 B59.out ⟨G60.out, L61.out⟩ H205.out.fixes.tl.tl.tl.tl.tl.tl.tl.tl.tl.tl.hd)⟩ (fun hHeld => ?_)
                      clear hK K
                      refine norm_ (a' := ?_) ?_ ?_
                      rotate_left
                      · show Act.put _ (some 44) _ = _
                        simp only [Act.put, List.setIfInBounds_toArray, List.set_cons_zero, List.set_cons_succ, i64_w, i32_w]
                        rfl
                      refine one_ (i := 3) (N := some 45) #[true, true, true, true, false] rfl rfl (by kernel_rfl) (by decide) (fun K hK => ?_)
                      refine goes_ Try.func24 (by kernel_rfl) rfl #[.agg #[.slice Ao129 t123.length co130, .slice Ao133 t126.length co134, .int .i64 t129, .bool t130], .agg #[.slice Ao206 t145.length co207, .slice Ao210 t148.length co211, .int .i64 t151, .bool t152]] (by rfl) rfl rfl (by (try simp only [List.map_toArray, List.map_cons, List.map_nil]); first | done | rfl | (simp only [List.length_drop, List.length_take]; rfl)) ?_
                      with_reducible refine (laws_eqDev.calls k _ _ t123 _ _ t126 t129 t130 _ _ t145 _ _ t148 t151 t152 true _ ?side1 ?side2 ?side3 ?side4 ?side5 ?side6 ?side7 ?side8 A34.out).mono ?_
                      (case side1 => exact (Kd.R_reads' (R_fix F131.out H205.out.fixes.tl.tl.tl.tl.tl.hd)).2.2)
                      (case side2 => exact R_capn (R_fix F131.out H205.out.fixes.tl.tl.tl.tl.tl.hd))
                      (case side3 => exact (Kd.S_reads' (S_fix F135.out H205.out.fixes.tl.tl.tl.tl.tl.hd)).2.2)
                      (case side4 => exact S_capn (S_fix F135.out H205.out.fixes.tl.tl.tl.tl.tl.hd))
                      (case side5 => exact (Kd.R_reads' (R_fix F208.out H205.out.fixes.hd)).2.2)
                      (case side6 => exact R_capn (R_fix F208.out H205.out.fixes.hd))
                      (case side7 => exact (Kd.S_reads' (S_fix F212.out H205.out.fixes.hd)).2.2)
                      (case side8 => exact S_capn (S_fix F212.out H205.out.fixes.hd))
                      rintro e w216 ⟨rfl, hb217⟩
                      refine ⟨_, rfl, ?_⟩
                      have H218 := Aside0.mk (Hist.pass H205.out hb217)
                      clear H205
                      clear hb217
                      refine hK.out _ _ ⟨(blk_fix2 B145.out ⟨G146.out, L147.out⟩ H218.out.fixes.tl.tl.tl.tl.hd), (blk_fix2 B59.out ⟨G60.out, L61.out⟩ H218.out.fixes.tl.tl.tl.tl.tl.tl.tl.tl.tl.tl.hd)⟩ (fun hHeld => ?_)
                      clear hK K
                      refine norm_ (a' := ?_) ?_ ?_
                      rotate_left
                      · show Act.put _ (some 45) _ = _
                        simp only [Act.put, List.setIfInBounds_toArray, List.set_cons_zero, List.set_cons_succ, i64_w, i32_w]
                        rfl
                      refine pure_ (i := 4) (N := some 46) (v := ?_) (a' := ?_) #[true, true, true, true, true] rfl rfl (by kernel_rfl) (fun _ _ _ h => h) (Or.inl ⟨by rfl, ?_⟩) ?_ ?_
                      rotate_left
                      · intro w'
                        go_simp
                        with_reducible rfl
                      rotate_left
                      · simp only [Act.put, List.setIfInBounds_toArray, List.set_cons_zero, List.set_cons_succ, i64_w, i32_w]
                        rfl
                      refine done_ (by kernel_rfl) ?_
                      go_wp2_with (first | (((with_reducible refine gate_callee (f := 16) rfl ?_)); refine goesW (some 49) rfl ?hw Try.func16 (by kernel_rfl) rfl #[.slice A2 l2.length c2] rfl (by (try simp only [List.map_toArray, List.map_cons, List.map_nil]); first | done | rfl | (simp only [List.length_drop, List.length_take]; rfl)) ?_; (case hw => rfl); with_reducible refine (laws_toByteS.calls k _ _ l2 t154 _ ?side1 ?side2 A36.out).mono ?_; (case side1 => exact Kd.C_below HR2.out H218.out.below); (case side2 => exact HC2.out); rintro e w219 ⟨v220, rfl, ho221, hb222⟩; refine ⟨_, rfl, ?_⟩; have H223 := Aside0.mk (Hist.step H218.out hb222); clear H218; clear hb222; have F226 := Aside0.mk ho221; clear ho221; obtain ⟨Ao224, co225, eo228⟩ := Kd.R_slice F226.out; (first | subst eo228 | (injection eo228 with f1_ f2_ f3_; have f4_ := f1_.symm; have f5_ := f3_.symm; clear f1_ f2_ f3_; subst f4_; subst f5_))) | (((with_reducible refine gate_callee (f := 18) rfl ?_)); refine goesW (some 50) rfl ?hw Try.func18 (by kernel_rfl) rfl #[.slice Ao157 t132.length co158, .slice Ao224 t154.length co225] rfl (by (try simp only [List.map_toArray, List.map_cons, List.map_nil]); first | done | rfl | (simp only [List.length_drop, List.length_take]; rfl)) ?_; (case hw => rfl); with_reducible refine (laws_eqByteS.calls k _ _ t132 _ _ t154 true _ ?side1 ?side2 ?side3 ?side4 A37.out).mono ?_; (case side1 => exact (Kd.R_reads' (R_fix F159.out H223.out.fixes.tl.tl.tl.tl.hd)).2.2); (case side2 => exact R_capn (R_fix F159.out H223.out.fixes.tl.tl.tl.tl.hd)); (case side3 => exact (Kd.R_reads' (R_fix F226.out H223.out.fixes.hd)).2.2); (case side4 => exact R_capn (R_fix F226.out H223.out.fixes.hd)); rintro e w229 ⟨rfl, hd_⟩; have hb230 := hd_.below; clear hd_; refine ⟨_, rfl, ?_⟩; have H231 := Aside0.mk (Hist.pass H223.out hb230); clear H223; clear hb230) | ((with_reducible refine gate_dst (N := 52) rfl ?_); refine ld ?hw rfl ?hx (blk_fix2 B145.out ⟨G146.out, L147.out⟩ H231.out.fixes.tl.tl.tl.tl.tl.hd) Try.underlying35 rfl (by kernel_rfl) ?_; (case hw => rfl); (case hx => rfl)) | (((with_reducible refine gate_callee (f := 25) rfl ?_)); refine goesW (some 54) rfl ?hw Try.func25 (by kernel_rfl) rfl #[.agg #[.slice Ao129 t123.length co130, .slice Ao133 t126.length co134, .int .i64 t129, .bool t130], .int .i64 1] rfl (by (try simp only [List.map_toArray, List.map_cons, List.map_nil]); first | done | rfl | (simp only [List.length_drop, List.length_take]; rfl)) ?_; (case hw => rfl); with_reducible refine (mk_laws_markDev (Fixes.at (w := w122) (b := w118.heap.size) (t := w122.heap.size) (l1 := [(w219, w216.heap.size, w219.heap.size), (w199, w196.heap.size, w199.heap.size), (w188, w162.heap.size, w180.heap.size), (w162, w152.heap.size, w162.heap.size), (w152, w148.heap.size, w152.heap.size), (w148, w122.heap.size, w140.heap.size)]) (l2 := [(w118, w92.heap.size, w110.heap.size), (w92, w82.heap.size, w92.heap.size), (w82, w65.heap.size, w82.heap.size), (w65, w62.heap.size, w65.heap.size), (w54, w.heap.size, w54.heap.size)]) (by simp only [List.cons_append, List.nil_append]) H231.out.fixes) (R_fix F131.out H231.out.fixes.tl.tl.tl.tl.tl.tl.hd) (S_fix F135.out H231.out.fixes.tl.tl.tl.tl.tl.tl.hd) (fun _ h_ => h_.1) A39.out).mono ?_; rintro e w232 ⟨rfl, hr234, hr235, hs233⟩; refine ⟨_, rfl, ?_⟩; have H236 : Aside0 (Hist w [(w219, w216.heap.size, w219.heap.size), (w199, w196.heap.size, w199.heap.size), (w188, w162.heap.size, w180.heap.size), (w162, w152.heap.size, w162.heap.size), (w152, w148.heap.size, w152.heap.size), (w148, w122.heap.size, w140.heap.size), (w232, w118.heap.size, w122.heap.size), (w118, w92.heap.size, w110.heap.size), (w92, w82.heap.size, w92.heap.size), (w82, w65.heap.size, w82.heap.size), (w65, w62.heap.size, w65.heap.size), (w54, w.heap.size, w54.heap.size)] w232) := ⟨Hist.mark' (w := w122) (b := w118.heap.size) (t := w122.heap.size) (l1 := [(w219, w216.heap.size, w219.heap.size), (w199, w196.heap.size, w199.heap.size), (w188, w162.heap.size, w180.heap.size), (w162, w152.heap.size, w162.heap.size), (w152, w148.heap.size, w152.heap.size), (w148, w122.heap.size, w140.heap.size)]) (l2 := [(w118, w92.heap.size, w110.heap.size), (w92, w82.heap.size, w92.heap.size), (w82, w65.heap.size, w82.heap.size), (w65, w62.heap.size, w65.heap.size), (w54, w.heap.size, w54.heap.size)]) (by simp only [List.cons_append, List.nil_append]) (by simp only [List.cons_append, List.nil_append]) H231.out hs233 (fun k_ hk_ => by first | exact hk_.2 | (rcases hk_ with hk_ | hk_ <;> exact hk_.2))⟩; clear H231 hs233; have F237 := Aside0.mk hr234; have E238 := Aside0.mk (Kd.R_reads' hr234).1; clear hr234; have F239 := Aside0.mk hr235; have E240 := Aside0.mk (Kd.S_reads' hr235).1; clear hr235) | (((with_reducible refine gate_callee (f := 33) rfl ?_)); refine goesW (some 57) rfl ?hw Try.func33 (by kernel_rfl) rfl #[.slice Ao157 t132.length co158, .int .i64 t158] rfl (by (try simp only [List.map_toArray, List.map_cons, List.map_nil]); first | done | rfl | (simp only [List.length_drop, List.length_take]; rfl)) ?_; (case hw => rfl); with_reducible refine (markB (Fixes.at (w := w152) (b := w148.heap.size) (t := w152.heap.size) (l1 := [(w219, w216.heap.size, w219.heap.size), (w199, w196.heap.size, w199.heap.size), (w188, w162.heap.size, w180.heap.size), (w162, w152.heap.size, w162.heap.size)]) (l2 := [(w148, w122.heap.size, w140.heap.size), (w232, w118.heap.size, w122.heap.size), (w118, w92.heap.size, w110.heap.size), (w92, w82.heap.size, w92.heap.size), (w82, w65.heap.size, w82.heap.size), (w65, w62.heap.size, w65.heap.size), (w54, w.heap.size, w54.heap.size)]) (by simp only [List.cons_append, List.nil_append]) H236.out.fixes) (R_fix F159.out H236.out.fixes.tl.tl.tl.tl.hd) A40.out).mono ?_; rintro e w241 ⟨rfl, hr243, hs242⟩; refine ⟨_, rfl, ?_⟩; have H244 : Aside0 (Hist w [(w219, w216.heap.size, w219.heap.size), (w199, w196.heap.size, w199.heap.size), (w188, w162.heap.size, w180.heap.size), (w162, w152.heap.size, w162.heap.size), (w241, w148.heap.size, w152.heap.size), (w148, w122.heap.size, w140.heap.size), (w232, w118.heap.size, w122.heap.size), (w118, w92.heap.size, w110.heap.size), (w92, w82.heap.size, w92.heap.size), (w82, w65.heap.size, w82.heap.size), (w65, w62.heap.size, w65.heap.size), (w54, w.heap.size, w54.heap.size)] w241) := ⟨Hist.mark' (w := w152) (b := w148.heap.size) (t := w152.heap.size) (l1 := [(w219, w216.heap.size, w219.heap.size), (w199, w196.heap.size, w199.heap.size), (w188, w162.heap.size, w180.heap.size), (w162, w152.heap.size, w162.heap.size)]) (l2 := [(w148, w122.heap.size, w140.heap.size), (w232, w118.heap.size, w122.heap.size), (w118, w92.heap.size, w110.heap.size), (w92, w82.heap.size, w92.heap.size), (w82, w65.heap.size, w82.heap.size), (w65, w62.heap.size, w65.heap.size), (w54, w.heap.size, w54.heap.size)]) (by simp only [List.cons_append, List.nil_append]) (by simp only [List.cons_append, List.nil_append]) H236.out hs242 (fun k_ hk_ => by first | exact hk_.2 | (rcases hk_ with hk_ <;> exact hk_.2))⟩; clear H236 hs242; have F245 := Aside0.mk hr243; have E246 := Aside0.mk (Kd.R_reads' hr243).1; clear hr243) | ((with_reducible refine gate_dst (N := 61) rfl ?_); refine ld ?hw rfl ?hx (blk_fix2 B185.out ⟨G186.out, L187.out⟩ H244.out.fixes.tl.tl.hd) Try.underlying35 rfl (by kernel_rfl) ?_; (case hw => rfl); (case hx => rfl)) | ((with_reducible refine gate_dst (N := 62) rfl ?_); refine ld ?hw rfl ?hx (blk_fix2 B115.out ⟨G116.out, L117.out⟩ H244.out.fixes.tl.tl.tl.tl.tl.tl.tl.hd) Try.underlying35 rfl (by kernel_rfl) ?_; (case hw => rfl); (case hx => rfl)) | (((with_reducible refine gate_callee (f := 24) rfl ?_)); refine goesW (some 63) rfl ?hw Try.func24 (by kernel_rfl) rfl #[.agg #[.slice Ao169 t135.length co170, .slice Ao173 t138.length co174, .int .i64 t141, .bool t142], .agg #[.slice Ao99 t114.length co100, .slice Ao103 t117.length co104, .int .i64 t120, .bool t121]] rfl (by (try simp only [List.map_toArray, List.map_cons, List.map_nil]); first | done | rfl | (simp only [List.length_drop, List.length_take]; rfl)) ?_; (case hw => rfl); with_reducible refine (laws_eqDev.calls k _ _ t135 _ _ t138 t141 t142 _ _ t114 _ _ t117 t120 t121 true _ ?side1 ?side2 ?side3 ?side4 ?side5 ?side6 ?side7 ?side8 A42.out).mono ?_; (case side1 => exact (Kd.R_reads' (R_fix F171.out H244.out.fixes.tl.tl.tl.hd)).2.2); (case side2 => exact R_capn (R_fix F171.out H244.out.fixes.tl.tl.tl.hd)); (case side3 => exact (Kd.S_reads' (S_fix F175.out H244.out.fixes.tl.tl.tl.hd)).2.2); (case side4 => exact S_capn (S_fix F175.out H244.out.fixes.tl.tl.tl.hd)); (case side5 => exact (Kd.R_reads' (R_fix F101.out H244.out.fixes.tl.tl.tl.tl.tl.tl.tl.tl.hd)).2.2); (case side6 => exact R_capn (R_fix F101.out H244.out.fixes.tl.tl.tl.tl.tl.tl.tl.tl.hd)); (case side7 => exact (Kd.S_reads' (S_fix F105.out H244.out.fixes.tl.tl.tl.tl.tl.tl.tl.tl.hd)).2.2); (case side8 => exact S_capn (S_fix F105.out H244.out.fixes.tl.tl.tl.tl.tl.tl.tl.tl.hd)); rintro e w247 ⟨rfl, hb248⟩; refine ⟨_, rfl, ?_⟩; have H249 := Aside0.mk (Hist.pass H244.out hb248); clear H244; clear hb248) | ((with_reducible refine gate_dst (N := 66) rfl ?_); refine ld ?hw rfl ?hx (blk_fix2 B185.out ⟨G186.out, L187.out⟩ H249.out.fixes.tl.tl.hd) Try.underlying35 rfl (by kernel_rfl) ?_; (case hw => rfl); (case hx => rfl)) | (((with_reducible refine gate_callee (f := 25) rfl ?_)); refine goesW (some 68) rfl ?hw Try.func25 (by kernel_rfl) rfl #[.agg #[.slice Ao169 t135.length co170, .slice Ao173 t138.length co174, .int .i64 t141, .bool t142], .int .i64 1] rfl (by (try simp only [List.map_toArray, List.map_cons, List.map_nil]); first | done | rfl | (simp only [List.length_drop, List.length_take]; rfl)) ?_; (case hw => rfl); with_reducible refine (mk_laws_markDev (Fixes.at (w := w162) (b := w152.heap.size) (t := w162.heap.size) (l1 := [(w219, w216.heap.size, w219.heap.size), (w199, w196.heap.size, w199.heap.size), (w188, w162.heap.size, w180.heap.size)]) (l2 := [(w241, w148.heap.size, w152.heap.size), (w148, w122.heap.size, w140.heap.size), (w232, w118.heap.size, w122.heap.size), (w118, w92.heap.size, w110.heap.size), (w92, w82.heap.size, w92.heap.size), (w82, w65.heap.size, w82.heap.size), (w65, w62.heap.size, w65.heap.size), (w54, w.heap.size, w54.heap.size)]) (by simp only [List.cons_append, List.nil_append]) H249.out.fixes) (R_fix F171.out H249.out.fixes.tl.tl.tl.hd) (S_fix F175.out H249.out.fixes.tl.tl.tl.hd) (fun _ h_ => h_.1) A44.out).mono ?_; rintro e w250 ⟨rfl, hr252, hr253, hs251⟩; refine ⟨_, rfl, ?_⟩; have H254 : Aside0 (Hist w [(w219, w216.heap.size, w219.heap.size), (w199, w196.heap.size, w199.heap.size), (w188, w162.heap.size, w180.heap.size), (w250, w152.heap.size, w162.heap.size), (w241, w148.heap.size, w152.heap.size), (w148, w122.heap.size, w140.heap.size), (w232, w118.heap.size, w122.heap.size), (w118, w92.heap.size, w110.heap.size), (w92, w82.heap.size, w92.heap.size), (w82, w65.heap.size, w82.heap.size), (w65, w62.heap.size, w65.heap.size), (w54, w.heap.size, w54.heap.size)] w250) := ⟨Hist.mark' (w := w162) (b := w152.heap.size) (t := w162.heap.size) (l1 := [(w219, w216.heap.size, w219.heap.size), (w199, w196.heap.size, w199.heap.size), (w188, w162.heap.size, w180.heap.size)]) (l2 := [(w241, w148.heap.size, w152.heap.size), (w148, w122.heap.size, w140.heap.size), (w232, w118.heap.size, w122.heap.size), (w118, w92.heap.size, w110.heap.size), (w92, w82.heap.size, w92.heap.size), (w82, w65.heap.size, w82.heap.size), (w65, w62.heap.size, w65.heap.size), (w54, w.heap.size, w54.heap.size)]) (by simp only [List.cons_append, List.nil_append]) (by simp only [List.cons_append, List.nil_append]) H249.out hs251 (fun k_ hk_ => by first | exact hk_.2 | (rcases hk_ with hk_ | hk_ <;> exact hk_.2))⟩; clear H249 hs251; have F255 := Aside0.mk hr252; have E256 := Aside0.mk (Kd.R_reads' hr252).1; clear hr252; have F257 := Aside0.mk hr253; have E258 := Aside0.mk (Kd.S_reads' hr253).1; clear hr253) | ((with_reducible refine gate_dst (N := 69) rfl ?_); refine ld ?hw rfl ?hx (blk_fix2 B185.out ⟨G186.out, L187.out⟩ H254.out.fixes.tl.tl.hd) Try.underlying35 rfl (by kernel_rfl) ?_; (case hw => rfl); (case hx => rfl)) | (((with_reducible refine gate_callee (f := 26) rfl ?_)); refine goesW (some 71) rfl ?hw Try.func26 (by kernel_rfl) rfl #[.agg #[.slice Ao169 t165.length co170, .slice Ao173 t166.length co174, .int .i64 t141, .bool t142], .int .i64 1] rfl (by (try simp only [List.map_toArray, List.map_cons, List.map_nil]); first | done | rfl | (rw [← E256.out, ← E258.out]; first | done | rfl) | (simp only [List.length_drop, List.length_take]; rfl)) ?_; (case hw => rfl); with_reducible refine (laws_heldDev.calls k _ _ t165 _ _ t166 t141 t142 1 t167 _ ?side1 ?side2 ?side3 ?side4 A45.out).mono ?_; (case side1 => exact (Kd.R_reads' (R_fix2 F255.out H254.out.fixes.tl.tl.tl.hd)).2.2); (case side2 => exact R_capn (R_fix2 F255.out H254.out.fixes.tl.tl.tl.hd)); (case side3 => exact (Kd.S_reads' (S_fix2 F257.out H254.out.fixes.tl.tl.tl.hd)).2.2); (case side4 => exact S_capn (S_fix2 F257.out H254.out.fixes.tl.tl.tl.hd)); rintro e w259 ⟨rfl, hb260⟩; refine ⟨_, rfl, ?_⟩; have H261 := Aside0.mk (Hist.pass H254.out hb260); clear H254; clear hb260) | ((with_reducible refine gate_dst (N := 77) rfl ?_); refine ld ?hw rfl ?hx (blk_fix2 B59.out ⟨G60.out, L61.out⟩ H261.out.fixes.tl.tl.tl.tl.tl.tl.tl.tl.tl.tl.tl.hd) Try.underlying42 rfl (by kernel_rfl) ?_; (case hw => rfl); (case hx => rfl)) | (((with_reducible refine gate_callee (f := 29) rfl ?_)); refine goesW (some 78) rfl ?hw Try.func29 (by kernel_rfl) rfl #[.agg #[.slice A0_0 l0_0.length c0_0, .slice A0_1 l0_1.length c0_1, .int .i64 a0_2, .bool a0_3]] rfl (by (try simp only [List.map_toArray, List.map_cons, List.map_nil]); first | done | rfl | (simp only [List.length_drop, List.length_take]; rfl)) ?_; (case hw => rfl); with_reducible refine (laws_toDev.calls k _ _ l0_0 _ _ l0_1 a0_2 a0_3 t168 t171 t174 t175 _ ?side1 ?side2 ?side3 ?side4 A48.out).mono ?_; (case side1 => exact Kd.C_below HR0_0.out H261.out.below); (case side2 => exact HC0_0.out); (case side3 => exact Kd.C_below HR0_1.out H261.out.below); (case side4 => exact HC0_1.out); rintro e w262 ⟨v263, v264, rfl, ho265, ho266, hb267⟩; refine ⟨_, rfl, ?_⟩; have H268 := Aside0.mk (Hist.step H261.out hb267); clear H261; clear hb267; have F271 := Aside0.mk ho265; clear ho265; have F275 := Aside0.mk ho266; clear ho266; obtain ⟨Ao269, co270, eo277⟩ := Kd.R_slice F271.out; (first | subst eo277 | (injection eo277 with f1_ f2_ f3_; have f4_ := f1_.symm; have f5_ := f3_.symm; clear f1_ f2_ f3_; subst f4_; subst f5_)); obtain ⟨Ao273, co274, eo278⟩ := Kd.S_slice F275.out; (first | subst eo278 | (injection eo278 with f1_ f2_ f3_; have f4_ := f1_.symm; have f5_ := f3_.symm; clear f1_ f2_ f3_; subst f4_; subst f5_))) | (((with_reducible refine gate_callee (f := 16) rfl ?_)); refine goesW (some 81) rfl ?hw Try.func16 (by kernel_rfl) rfl #[.slice A2 l2.length c2] rfl (by (try simp only [List.map_toArray, List.map_cons, List.map_nil]); first | done | rfl | (simp only [List.length_drop, List.length_take]; rfl)) ?_; (case hw => rfl); with_reducible refine (laws_toByteS.calls k _ _ l2 t176 _ ?side1 ?side2 A49.out).mono ?_; (case side1 => exact Kd.C_below HR2.out H268.out.below); (case side2 => exact HC2.out); rintro e w279 ⟨v280, rfl, ho281, hb282⟩; refine ⟨_, rfl, ?_⟩; have H283 := Aside0.mk (Hist.step H268.out hb282); clear H268; clear hb282; have F286 := Aside0.mk ho281; clear ho281; obtain ⟨Ao284, co285, eo288⟩ := Kd.R_slice F286.out; (first | subst eo288 | (injection eo288 with f1_ f2_ f3_; have f4_ := f1_.symm; have f5_ := f3_.symm; clear f1_ f2_ f3_; subst f4_; subst f5_))) | (((with_reducible refine gate_callee (f := 36) rfl ?_)); refine goesW (some 82) rfl ?hw Try.func36 (by kernel_rfl) rfl #[.agg #[.slice Ao269 t168.length co270, .slice Ao273 t171.length co274, .int .i64 t174, .bool t175], .int .i64 a1, .slice Ao284 t176.length co285] rfl (by (try simp only [List.map_toArray, List.map_cons, List.map_nil]); first | done | rfl | (simp only [List.length_drop, List.length_take]; rfl)) ?_; (case hw => rfl); with_reducible refine (impl_DevWrite.calls _ _ t168 _ _ t171 t174 t175 a1 _ _ t176 t179 t182 t185 t186 _ ?side1 ?side2 ?side3 ?side4 ?side5 ?side6 A50.out).mono ?_; (case side1 => exact (Kd.R_reads' (R_fix F271.out H283.out.fixes.tl.hd)).2.2); (case side2 => exact R_capn (R_fix F271.out H283.out.fixes.tl.hd)); (case side3 => exact (Kd.S_reads' (S_fix F275.out H283.out.fixes.tl.hd)).2.2); (case side4 => exact S_capn (S_fix F275.out H283.out.fixes.tl.hd)); (case side5 => exact (Kd.R_reads' (R_fix F286.out H283.out.fixes.hd)).2.2); (case side6 => exact R_capn (R_fix F286.out H283.out.fixes.hd)); rintro e w289 ⟨v290, v291, rfl, ho292, ho293, hb294⟩; refine ⟨_, rfl, ?_⟩; have H295 := Aside0.mk (Hist.step H283.out hb294); clear H283; clear hb294; have F298 := Aside0.mk ho292; clear ho292; have F302 := Aside0.mk ho293; clear ho293; obtain ⟨Ao296, co297, eo304⟩ := Kd.R_slice F298.out; (first | subst eo304 | (injection eo304 with f1_ f2_ f3_; have f4_ := f1_.symm; have f5_ := f3_.symm; clear f1_ f2_ f3_; subst f4_; subst f5_)); obtain ⟨Ao300, co301, eo305⟩ := Kd.S_slice F302.out; (first | subst eo305 | (injection eo305 with f1_ f2_ f3_; have f4_ := f1_.symm; have f5_ := f3_.symm; clear f1_ f2_ f3_; subst f4_; subst f5_))) | ((with_reducible refine gate_dst (N := 15) rfl ?_); refine mk ?hw (N := 15) ?hd (cs := #[.slice none 0 0, .slice none 0 0, .int .i64 0, .bool false]) (t := 35) ?hr ?_; (case hd => rfl); (case hw => rfl); (case hr => first | (go_simp; done) | (go_simp; rfl)); intro g306 hg310 w307 hbox309 hb308; have H311 := Aside0.mk (Hist.step H295.out hb308); clear H295; have B312 := Aside0.mk hbox309; have G313 := Aside0.mk (Nat.le_of_eq hg310.symm); have L314 := Aside0.mk (blk_lt hbox309); clear hb308 hbox309 hg310) | ((with_reducible refine gate_store (t := 35) (p := 15) rfl ?_); refine st_all ?hw ?hN rfl ?hp (cs := #[.slice Ao296 t179.length co297, .slice Ao300 t182.length co301, .int .i64 t185, .bool t186]) ?hx (blk_fix2 B312.out ⟨G313.out, L314.out⟩ H311.out.fixes.hd) (by kernel_rfl) rfl (by simp [Value.oneCell']) ?_; (case hw => rfl); (case hN => rfl); (case hp => rfl); (case hx => rfl); intro w315 hbox316 hs317; have H318 : Aside0 (Hist w [(w315, w289.heap.size, w307.heap.size), (w289, w279.heap.size, w289.heap.size), (w279, w262.heap.size, w279.heap.size), (w262, w259.heap.size, w262.heap.size), (w219, w216.heap.size, w219.heap.size), (w199, w196.heap.size, w199.heap.size), (w188, w162.heap.size, w180.heap.size), (w250, w152.heap.size, w162.heap.size), (w241, w148.heap.size, w152.heap.size), (w148, w122.heap.size, w140.heap.size), (w232, w118.heap.size, w122.heap.size), (w118, w92.heap.size, w110.heap.size), (w92, w82.heap.size, w92.heap.size), (w82, w65.heap.size, w82.heap.size), (w65, w62.heap.size, w65.heap.size), (w54, w.heap.size, w54.heap.size)] w315) := ⟨Hist.mark' (w := w307) (b := w289.heap.size) (t := w307.heap.size) (l1 := []) (l2 := [(w289, w279.heap.size, w289.heap.size), (w279, w262.heap.size, w279.heap.size), (w262, w259.heap.size, w262.heap.size), (w219, w216.heap.size, w219.heap.size), (w199, w196.heap.size, w199.heap.size), (w188, w162.heap.size, w180.heap.size), (w250, w152.heap.size, w162.heap.size), (w241, w148.heap.size, w152.heap.size), (w148, w122.heap.size, w140.heap.size), (w232, w118.heap.size, w122.heap.size), (w118, w92.heap.size, w110.heap.size), (w92, w82.heap.size, w92.heap.size), (w82, w65.heap.size, w82.heap.size), (w65, w62.heap.size, w65.heap.size), (w54, w.heap.size, w54.heap.size)]) (by simp only [List.cons_append, List.nil_append]) (by simp only [List.cons_append, List.nil_append]) H311.out hs317 (fun k_ hk_ => by rw [hk_]; exact ⟨G313.out, L314.out⟩)⟩; have B312n := Aside0.mk hbox316; clear hs317 hbox316 H311 B312; have B312 := B312n; clear B312n) | ((with_reducible refine gate_dst (N := 83) rfl ?_); refine ld ?hw rfl ?hx (blk_fix2 B312.out ⟨G313.out, L314.out⟩ H318.out.fixes.hd) Try.underlying35 rfl (by kernel_rfl) ?_; (case hw => rfl); (case hx => rfl)) | ((with_reducible refine gate_dst (N := 84) rfl ?_); refine ld ?hw rfl ?hx (blk_fix2 B115.out ⟨G116.out, L117.out⟩ H318.out.fixes.tl.tl.tl.tl.tl.tl.tl.tl.tl.tl.tl.hd) Try.underlying35 rfl (by kernel_rfl) ?_; (case hw => rfl); (case hx => rfl)) | (((with_reducible refine gate_callee (f := 24) rfl ?_)); refine goesW (some 85) rfl ?hw Try.func24 (by kernel_rfl) rfl #[.agg #[.slice Ao296 t179.length co297, .slice Ao300 t182.length co301, .int .i64 t185, .bool t186], .agg #[.slice Ao99 t114.length co100, .slice Ao103 t117.length co104, .int .i64 t120, .bool t121]] rfl (by (try simp only [List.map_toArray, List.map_cons, List.map_nil]); first | done | rfl | (simp only [List.length_drop, List.length_take]; rfl)) ?_; (case hw => rfl); with_reducible refine (laws_eqDev.calls k _ _ t179 _ _ t182 t185 t186 _ _ t114 _ _ t117 t120 t121 true _ ?side1 ?side2 ?side3 ?side4 ?side5 ?side6 ?side7 ?side8 A51.out).mono ?_; (case side1 => exact (Kd.R_reads' (R_fix F298.out H318.out.fixes.tl.hd)).2.2); (case side2 => exact R_capn (R_fix F298.out H318.out.fixes.tl.hd)); (case side3 => exact (Kd.S_reads' (S_fix F302.out H318.out.fixes.tl.hd)).2.2); (case side4 => exact S_capn (S_fix F302.out H318.out.fixes.tl.hd)); (case side5 => exact (Kd.R_reads' (R_fix F101.out H318.out.fixes.tl.tl.tl.tl.tl.tl.tl.tl.tl.tl.tl.tl.hd)).2.2); (case side6 => exact R_capn (R_fix F101.out H318.out.fixes.tl.tl.tl.tl.tl.tl.tl.tl.tl.tl.tl.tl.hd)); (case side7 => exact (Kd.S_reads' (S_fix F105.out H318.out.fixes.tl.tl.tl.tl.tl.tl.tl.tl.tl.tl.tl.tl.hd)).2.2); (case side8 => exact S_capn (S_fix F105.out H318.out.fixes.tl.tl.tl.tl.tl.tl.tl.tl.tl.tl.tl.tl.hd)); rintro e w319 ⟨rfl, hb320⟩; refine ⟨_, rfl, ?_⟩; have H321 := Aside0.mk (Hist.pass H318.out hb320); clear H318; clear hb320))
                      go_ret
                      exact ⟨rfl, by first | exact H321.out.below | exact Drawn0.refl _⟩
                    · rw [if_neg c52] at H
                      exact absurd H (by simp)
                  · rw [if_neg c47] at H
                    exact absurd H (by simp)
              · rw [if_neg c43] at H
                exact absurd H (by simp)
          · rw [if_neg c38] at H
            exact absurd H (by simp)
        · rw [if_neg c35] at H
          exact absurd H (by simp)
      · rw [if_neg c32] at H
        exact absurd H (by simp)

end Go.Proofs.Ytbdbeccaopphaaa.Q
namespace Go.Proofs.Ytbdbeccaopphaaa.O
open Go.RowKit Go.Proofs.YtbdbeccaopphaaaW.PrintWords

/-- Cells that read as data of type t are cells of the kind d, of a value that meets ok. -/
def Opens {α : Type} (P : Program) (t : TypeId) (d : Kd α) (ok : α → Prop) : Prop :=
  ∀ (H : Type) (enc : TypeId × Value → H) (w : World) (fuel : Nat) (cs : List Value) (y : DataW H × List MemPlace),
    DataW.trod enc P w 0 (fun _ => true) true fuel t cs = some y → ∃ x, d.K w x cs ∧ ok x

section
variable {α β : Type} {P : Program} {t e : TypeId} {d : Kd α} {ok : α → Prop}

theorem opens_int {k : IntKind} (ht : P.underlying t = some (.int k)) : Opens P t (Kd.int k) (fun n => (Lit.int k n).wf = true) := by
  intro H enc w fuel cs y h
  obtain ⟨n, rfl, _, hw⟩ := DataW.trod_int ht h
  exact ⟨n, rfl, hw⟩
theorem opens_bool (ht : P.underlying t = some .bool) : Opens P t Kd.bool (fun _ => True) := by
  intro H enc w fuel cs y h
  obtain ⟨n, rfl, _⟩ := DataW.trod_bool ht h
  exact ⟨n, rfl, trivial⟩
theorem list_of {p : Nat → α → Prop} : ∀ n, (∀ i, i < n → ∃ x, p i x) → ∃ xs : List α, xs.length = n ∧ ∀ i x, xs[i]? = some x → p i x
  | 0, _ => ⟨[], rfl, by simp⟩
  | n + 1, h => by
    obtain ⟨xs, hl, hp⟩ := list_of n (fun i hi => h i (by omega))
    obtain ⟨x, hx⟩ := h n (by omega)
    refine ⟨xs ++ [x], by simp [hl], fun i z hz => ?_⟩
    by_cases hi : i < n
    · rw [List.getElem?_append_left (by omega)] at hz
      exact hp i z hz
    · have : i < n + 1 := by
        have := (List.getElem?_eq_some_iff.1 hz).1
        simp [hl] at this
        exact this
      obtain rfl : i = n := by omega
      rw [List.getElem?_append_right (by omega)] at hz
      simp [hl] at hz
      exact hz ▸ hx
theorem opens_slice (ht : P.underlying t = some (.slice e)) (hc : P.cellsOf e = d.sz) (he : Opens P e d ok) :
    Opens P t (Kd.slice e d) (fun xs => xs.length ≤ 9223372036854775807 ∧ ∀ x ∈ xs, ok x) := by
  intro H enc w fuel cs y h
  rcases DataW.trod_slice ht h with ⟨rfl, _⟩ | ⟨a, len, cap, elems, rest, n, _, rfl, _, _, hl, hm, hlen, hel, _, _⟩
  · exact ⟨[], ⟨none, 0, rfl, Nat.le_refl _, Kd.C_nil d w⟩, by simp, by simp⟩
  · have each : ∀ i, i < len → ∃ x, ∃ c, w.cells? 0 (a.add (i * d.sz)) d.sz = some c ∧ d.K w x c ∧ ok x := by
      intro i hi
      have h1 := hel i hi
      rw [hc, List.getElem?_eq_getElem (by omega)] at h1
      obtain ⟨c, h2, h3⟩ := Option.bind_eq_some_iff.1 h1
      obtain ⟨x, hx, hok⟩ := he H enc w n c _ h3
      exact ⟨x, c, h2, hx, hok⟩
    obtain ⟨xs, hxl, hxs⟩ := list_of len each
    refine ⟨xs, ⟨some a, cap, by rw [hxl], by omega, ?_⟩, by unfold maxLen at hm; omega, fun x hx => ?_⟩
    · refine ⟨rfl, by unfold maxLen at hm; omega, fun _ => ⟨a, rfl, fun j p hp => ?_⟩⟩
      obtain ⟨c, h2, h3, _⟩ := hxs j p hp
      refine ⟨c, d.K_len h3, h3, fun i u hu => ?_⟩
      have hi : i < c.length := (List.getElem?_eq_some_iff.1 hu).1
      have h4 := World.cells?_some h2
      rw [d.K_len h3] at hi
      rw [← Addr.add_add, (h4.2.2 i hi), hu]
    · obtain ⟨i, hi⟩ := List.getElem?_of_mem hx
      obtain ⟨_, _, _, hok⟩ := hxs i x hi
      exact hok
/-- A struct's fields from some field on. -/
def OpensFs {α : Type} (P : Program) (fs : List Field) (off : Nat) (d : Kd α) (ok : α → Prop) : Prop :=
  ∀ (H : Type) (enc : TypeId × Value → H) (w : World) (n : Nat) (cs : List Value) (xs : List (DataW H × List MemPlace)),
    cs.length = off + d.sz → (∀ (i : Nat) (f : Field), fs[i]? = some f → DataW.trod enc P w 0 (fun _ => true) true n f.type ((cs.drop f.offset).take (P.cellsOf f.type)) = xs[i]?) →
    fs.length ≤ xs.length → ∃ x, d.K w x (cs.drop off) ∧ ok x
theorem opensFs_one {f : Field} {off : Nat} (ho : f.offset = off) (hc : P.cellsOf f.type = d.sz) (h : Opens P f.type d ok) : OpensFs P [f] off d ok := by
  intro H enc w n cs xs hl hf hx
  have h1 := hf 0 f rfl
  simp only [List.length_cons, List.length_nil] at hx
  rw [List.getElem?_eq_getElem (by omega)] at h1
  rw [ho, hc, List.take_of_length_le (by simp; omega)] at h1
  exact h H enc w n _ _ h1
theorem opensFs_cons {f : Field} {fs : List Field} {off : Nat} {d2 : Kd β} {ok2 : β → Prop} (ho : f.offset = off) (hc : P.cellsOf f.type = d.sz) (h : Opens P f.type d ok)
    (h2 : OpensFs P fs (off + d.sz) d2 ok2) : OpensFs P (f :: fs) off (Kd.pair d d2) (fun x => ok x.1 ∧ ok2 x.2) := by
  intro H enc w n cs xs hl hf hx
  have hl' : cs.length = off + (d.sz + d2.sz) := hl
  simp only [List.length_cons] at hx
  have h1 := hf 0 f rfl
  rw [List.getElem?_eq_getElem (by omega)] at h1
  rw [ho, hc] at h1
  obtain ⟨x, hxk, hxo⟩ := h H enc w n _ _ h1
  obtain ⟨y, hyk, hyo⟩ := h2 H enc w n cs (xs.drop 1) (by omega) (fun i g hg => by
    have := hf (i + 1) g (by simpa using hg)
    rw [this, List.getElem?_drop]
    congr 1
    omega) (by simp; omega)
  refine ⟨(x, y), ⟨_, _, ?_, hxk, hyk⟩, hxo, hyo⟩
  rw [← List.drop_drop]
  exact (List.take_append_drop _ _).symm
theorem opens_struct {fs : List Field} (ht : P.underlying t = some (.struct fs.toArray)) (hc : P.cellsOf t = d.sz) (h : OpensFs P fs 0 d ok) (f : β → α) (g : α → β) (hfg : ∀ a, f (g a) = a) :
    Opens P t (Kd.iso d f) (fun x => ok (f x)) := by
  intro H enc w fuel cs y h0
  obtain ⟨xs, n, _, _, hlen, hxl, hf⟩ := DataW.trod_struct ht h0
  obtain ⟨a, hk, ho⟩ := h H enc w n cs xs (by omega) (fun i f hi => hf i f (by simpa using hi)) (by simp at hxl; omega)
  refine ⟨g a, ?_, ?_⟩
  · show d.K w (f (g a)) cs
    rw [hfg]
    simpa using hk
  · show ok (f (g a))
    rw [hfg]
    exact ho
end
end Go.Proofs.Ytbdbeccaopphaaa.O
namespace Go.Proofs.Ytbdbeccaopphaaa.Q
open Go.RowKit Go.Proofs.YtbdbeccaopphaaaW.PrintWords Go.Proofs.Ytbdbeccaopphaaa.O
def W139 (x : S139) : Prop := (Lit.int .i64 x.f0).wf = true ∧ (x.f1.length ≤ 9223372036854775807 ∧ ∀ z_ ∈ x.f1, (Lit.int .u8 z_).wf = true)
theorem opens_T139 : Opens Try.prog 139 k139 W139 := opens_struct Try.underlying139 (by kernel_rfl) (opensFs_cons rfl (by kernel_rfl) (opens_int Try.underlying2) (opensFs_one rfl (by kernel_rfl) (opens_slice Try.underlying23 (by kernel_rfl) (opens_int Try.underlying5)))) (fun x : S139 => (x.f0, x.f1)) (fun a => (⟨a.1, a.2⟩ : S139)) (fun _ => rfl)
def W42 (x : S42) : Prop := (x.f0.length ≤ 9223372036854775807 ∧ ∀ z_ ∈ x.f0, (Lit.int .u8 z_).wf = true) ∧ (x.f1.length ≤ 9223372036854775807 ∧ ∀ z_ ∈ x.f1, W139 z_) ∧ (Lit.int .i64 x.f2).wf = true ∧ True
theorem opens_T42 : Opens Try.prog 42 k42 W42 := opens_struct Try.underlying42 (by kernel_rfl) (opensFs_cons rfl (by kernel_rfl) (opens_slice Try.underlying23 (by kernel_rfl) (opens_int Try.underlying5)) (opensFs_cons rfl (by kernel_rfl) (opens_slice Try.underlying40 (by kernel_rfl) opens_T139) (opensFs_cons rfl (by kernel_rfl) (opens_int Try.underlying2) (opensFs_one rfl (by kernel_rfl) (opens_bool Try.underlying4))))) (fun x : S42 => (x.f0, x.f1, x.f2, x.f3)) (fun a => (⟨a.1, a.2.1, a.2.2.1, a.2.2.2⟩ : S42)) (fun _ => rfl)
def W152 (x : S152) : Prop := (Lit.int .i64 x.f0).wf = true ∧ (Lit.int .i64 x.f1).wf = true
theorem opens_T152 : Opens Try.prog 152 k152 W152 := opens_struct Try.underlying152 (by kernel_rfl) (opensFs_cons rfl (by kernel_rfl) (opens_int Try.underlying2) (opensFs_one rfl (by kernel_rfl) (opens_int Try.underlying2))) (fun x : S152 => (x.f0, x.f1)) (fun a => (⟨a.1, a.2⟩ : S152)) (fun _ => rfl)
def W71 (x : S71) : Prop := (x.f0.length ≤ 9223372036854775807 ∧ ∀ z_ ∈ x.f0, (Lit.int .i64 z_).wf = true) ∧ (x.f1.length ≤ 9223372036854775807 ∧ ∀ z_ ∈ x.f1, (Lit.int .i64 z_).wf = true) ∧ (Lit.int .i64 x.f2).wf = true ∧ (x.f3.length ≤ 9223372036854775807 ∧ ∀ z_ ∈ x.f3, W152 z_)
theorem opens_T71 : Opens Try.prog 71 k71 W71 := opens_struct Try.underlying71 (by kernel_rfl) (opensFs_cons rfl (by kernel_rfl) (opens_slice Try.underlying65 (by kernel_rfl) (opens_int Try.underlying2)) (opensFs_cons rfl (by kernel_rfl) (opens_slice Try.underlying65 (by kernel_rfl) (opens_int Try.underlying2)) (opensFs_cons rfl (by kernel_rfl) (opens_int Try.underlying2) (opensFs_one rfl (by kernel_rfl) (opens_slice Try.underlying69 (by kernel_rfl) opens_T152))))) (fun x : S71 => (x.f0, x.f1, x.f2, x.f3)) (fun a => (⟨a.1, a.2.1, a.2.2.1, a.2.2.2⟩ : S71)) (fun _ => rfl)
def W67 (x : S67) : Prop := (Lit.int .u32 x.f0).wf = true ∧ (Lit.int .u32 x.f1).wf = true ∧ (x.f2.length ≤ 9223372036854775807 ∧ ∀ z_ ∈ x.f2, (Lit.int .i64 z_).wf = true) ∧ (x.f3.length ≤ 9223372036854775807 ∧ ∀ z_ ∈ x.f3, (Lit.int .i64 z_).wf = true)
theorem opens_T67 : Opens Try.prog 67 k67 W67 := opens_struct Try.underlying67 (by kernel_rfl) (opensFs_cons rfl (by kernel_rfl) (opens_int Try.underlying24) (opensFs_cons rfl (by kernel_rfl) (opens_int Try.underlying24) (opensFs_cons rfl (by kernel_rfl) (opens_slice Try.underlying65 (by kernel_rfl) (opens_int Try.underlying2)) (opensFs_one rfl (by kernel_rfl) (opens_slice Try.underlying65 (by kernel_rfl) (opens_int Try.underlying2)))))) (fun x : S67 => (x.f0, x.f1, x.f2, x.f3)) (fun a => (⟨a.1, a.2.1, a.2.2.1, a.2.2.2⟩ : S67)) (fun _ => rfl)
def W149 (x : S149) : Prop := (Lit.int .u32 x.f0).wf = true ∧ (Lit.int .i64 x.f1).wf = true ∧ (Lit.int .u32 x.f2).wf = true ∧ (Lit.int .u32 x.f3).wf = true
theorem opens_T149 : Opens Try.prog 149 k149 W149 := opens_struct Try.underlying149 (by kernel_rfl) (opensFs_cons rfl (by kernel_rfl) (opens_int Try.underlying24) (opensFs_cons rfl (by kernel_rfl) (opens_int Try.underlying2) (opensFs_cons rfl (by kernel_rfl) (opens_int Try.underlying24) (opensFs_one rfl (by kernel_rfl) (opens_int Try.underlying24))))) (fun x : S149 => (x.f0, x.f1, x.f2, x.f3)) (fun a => (⟨a.1, a.2.1, a.2.2.1, a.2.2.2⟩ : S149)) (fun _ => rfl)
def W73 (x : S73) : Prop := True ∧ W67 x.f1 ∧ (x.f2.length ≤ 9223372036854775807 ∧ ∀ z_ ∈ x.f2, W149 z_) ∧ W71 x.f3 ∧ (Lit.int .u32 x.f4).wf = true
theorem opens_T73 : Opens Try.prog 73 k73 W73 := opens_struct Try.underlying73 (by kernel_rfl) (opensFs_cons rfl (by kernel_rfl) (opens_bool Try.underlying4) (opensFs_cons rfl (by kernel_rfl) opens_T67 (opensFs_cons rfl (by kernel_rfl) (opens_slice Try.underlying68 (by kernel_rfl) opens_T149) (opensFs_cons rfl (by kernel_rfl) opens_T71 (opensFs_one rfl (by kernel_rfl) (opens_int Try.underlying24)))))) (fun x : S73 => (x.f0, x.f1, x.f2, x.f3, x.f4)) (fun a => (⟨a.1, a.2.1, a.2.2.1, a.2.2.2.1, a.2.2.2.2⟩ : S73)) (fun _ => rfl)
end Go.Proofs.Ytbdbeccaopphaaa.Q
namespace Go.Proofs.Ytbdbeccaopphaaa.Q
open Go.RowKit Go.Proofs.YtbdbeccaopphaaaW.PrintWords Go.Proofs.YtbdbeccaopphaaaW.PrintLast Go.Proofs.Ytbdbeccaopphaaa.O
def laws_FnExactDevWrite.Pure : Prop := ∀ (x0 : S42) (a1 : Int) (l2 : List Int) , W42 x0 → (Lit.int .i64 a1).wf = true → (l2.length ≤ 9223372036854775807 ∧ ∀ z_ ∈ l2, (Lit.int .u8 z_).wf = true) → ∃ k, laws_FnExactDevWrite.f k x0.f0 x0.f1 x0.f2 x0.f3 a1 l2 = some true
end Go.Proofs.Ytbdbeccaopphaaa.Q
namespace Go.Proofs.Ytbdbeccaopphaaa.P
open Go.RowKit Go.Proofs.YtbdbeccaopphaaaW.PrintWords Go.Proofs.Ytbdbeccaopphaaa.Q
set_option linter.unusedVariables false
set_option linter.unusedSimpArgs false
theorem costP_le {B : Nat} : ∀ (l : List S101), (∀ p ∈ l, p.f1.length ≤ B) → costP l ≤ l.length * (B + 1)
  | [], _ => by simp [costP]
  | p :: ps, h => by
    have h1 := costP_le ps (fun q hq => h q (List.mem_cons_of_mem _ hq))
    have h2 := h p (List.mem_cons_self ..)
    simp only [costP, List.length_cons, Nat.add_mul, Nat.one_mul]
    omega
theorem cost_small {l : List S101} (hl : l.length ≤ 2097152) (h : ∀ p ∈ l, p.f1.length ≤ 2097152) : costP l ≤ 4398048608256 := by
  have h1 := costP_le l h
  have h2 : l.length * (2097152 + 1) ≤ 2097152 * (2097152 + 1) := Nat.mul_le_mul_right _ hl
  omega
/-- A device whose parts are not long. -/
structure Small (l0 : List Int) (l1 : List S101) : Prop where
  disk : l0.length ≤ 2097152
  cache : l1.length ≤ 2097152
  data : ∀ p ∈ l1, p.f1.length ≤ 2097152
theorem Small.eq {l0 : List Int} {l1 : List S101} (h : Small l0 l1) (a2 : Int) (a3 : Bool) : Ev (fun k => laws_eqDev.f k l0 l1 a2 a3 l0 l1 a2 a3) true :=
  eqDev_ev l0 l1 a2 a3 (Nat.le_trans h.disk (by decide)) (Nat.le_trans h.cache (by decide)) (fun p hp => Nat.le_trans (h.data p hp) (by decide))
/-- A small device is marked, and the marks are held. -/
theorem Small.mark {l0 : List Int} {l1 : List S101} (h : Small l0 l1) (a2 : Int) (a3 : Bool) (m : Int) (h0 : 0 ≤ m) (h1 : m ≤ 4611681000000000000) :
    ∃ r, Ev (fun k => laws_markDev.f k l0 l1 a2 a3 m) r ∧ m ≤ r.1 ∧ r.1 ≤ m + 4398050705408 ∧ Ev (fun k => laws_heldDev.f k r.2.1 r.2.2 a2 a3 m) r.1 := by
  have hc := cost_small h.cache h.data
  have hd := h.disk
  have hk := h.cache
  exact ⟨_, markDev_ev l0 l1 a2 a3 m h0 (by omega) (by omega), by show m ≤ m + _ + _; omega, by show m + _ + _ ≤ _; omega, heldDev_ev l0 l1 a2 a3 m h0 (by omega) (by omega)⟩
theorem devArg (x : S42) (hx : W42 x) :
    ∃ t, Ev (fun k => laws_szDev.f k x.f0 x.f1 x.f2 x.f3 1048576) t ∧ (t < 0 ∨ (0 ≤ t ∧ t ≤ 1048576 ∧ x.f0.length ≤ 1048576 ∧ x.f1.length ≤ 1048576 ∧ (∀ p ∈ x.f1.map cvPend, p.f1.length ≤ 1048576) ∧ Small x.f0 (x.f1.map cvPend) ∧ Ev (fun k => laws_toDev.f k x.f0 x.f1 x.f2 x.f3) (x.f0, x.f1.map cvPend, x.f2, x.f3))) := by
  obtain ⟨⟨hl0, -⟩, ⟨hl1, hp1⟩, hf2, -⟩ := hx
  have hp : ∀ p ∈ x.f1, p.f1.length ≤ 9223372036854775807 := fun p hp => (hp1 p hp).2.1
  obtain ⟨t, ht, hc⟩ := szDev_ev x.f0 x.f1 x.f2 x.f3 1048576 (by decide) (by decide) hl0 hl1 hp
  refine ⟨t, ht, ?_⟩
  rcases hc with hc | ⟨hc, hc1, h0, h1, h2⟩
  · exact .inl hc
  · have hm : ∀ p ∈ x.f1.map cvPend, p.f1.length ≤ 1048576 := by
      intro p hp
      obtain ⟨q, hq, rfl⟩ := List.mem_map.1 hp
      have := h2 q hq
      show q.f1.length ≤ _
      omega
    refine .inr ⟨hc, hc1, by omega, by omega, hm, ⟨by omega, by rw [List.length_map]; omega, fun p hp => by have := hm p hp; omega⟩, toDev_ev x.f0 x.f1 x.f2 x.f3 (by omega) (by omega) (fun p hp => by have := h2 p hp; omega)⟩
end Go.Proofs.Ytbdbeccaopphaaa.P
namespace Go.Proofs.Ytbdbeccaopphaaa.P
open Go.RowKit Go.Proofs.YtbdbeccaopphaaaW.PrintWords Go.Proofs.Ytbdbeccaopphaaa.Q
set_option linter.unusedVariables false
set_option linter.unusedSimpArgs false
theorem copy_ev (l0 : List Int) (l1 : List S101) (a2 : Int) (a3 : Bool) (h0 : l0.length ≤ 2097152) (h : l1.length ≤ 2097152) (hp : ∀ p ∈ l1, p.f1.length ≤ 2097152) : Ev (fun k => spec_l1Copy.f k l0 l1 a2 a3) (l0, l1, a2, a3) := by
  have h1 := Ev.loop0 (fun k (s : Int × List S101) => spec_l1Copy.l0 k s.1 l0 l1 a2 a3 l0 s.2 a2 a3) (fun i => ((i : Int), l1.take i)) l1.length (l0, l1, a2, a3) ?_ ?_
  · simp only [spec_l1Copy.f, Option.bind_some, List.length_nil, List.nil_append]
    exact Ev.pos (by omega) h1
  · intro i hi
    obtain ⟨p, hat⟩ := some_at hi
    have hpl := hp p (List.mem_of_getElem? hat)
    have ht : (l1.take i).length = i := by rw [List.length_take]; omega
    refine ⟨0, fun k _ => ?_⟩
    simp only [spec_l1Copy.l0, Option.bind_some, List.length_nil, List.nil_append]
    rw [if_pos (by omega), if_pos (by omega), rdP_at hat, if_pos (by omega), if_pos (by omega), w64s hi (by omega), List.take_add_one, hat]
    rfl
  · refine Ev.last ⟨0, fun k _ => ?_⟩
    simp only [spec_l1Copy.l0]
    rw [if_neg (by omega), List.take_length]
theorem step_ev (l0 : List Int) (l1 : List S101) (a2 : Int) (a3 : Bool) (h0 : l0.length ≤ 2097152) (h : l1.length ≤ 2097152) (hp : ∀ p ∈ l1, p.f1.length ≤ 2097152) (hf : -1 ≤ a2 ∧ a2 ≤ 1000000) : Ev (fun k => spec_l1Step.f k l0 l1 a2 a3) (l0, l1, fuelOf a2, deadOf a2 a3) := by
  simp only [spec_l1Step.f]
  refine Ev.bind (copy_ev l0 l1 a2 a3 h0 h hp) (Ev.const ?_)
  unfold fuelOf deadOf
  dsimp only
  by_cases c0 : a2 = 0
  · rw [if_pos c0, if_neg (by omega), if_pos c0]
  · rw [if_neg c0, if_neg c0]
    by_cases c1 : a2 > 0
    · rw [if_pos c1, if_pos c1, w64 (n := a2 - 1) (by omega) (by omega)]
    · rw [if_neg c1, if_neg c1]
end Go.Proofs.Ytbdbeccaopphaaa.P
namespace Go.Proofs.Ytbdbeccaopphaaa.Pure
open Go.RowKit Go.Proofs.Ytbdbeccaopphaaa.Q Go.Proofs.Ytbdbeccaopphaaa.P
set_option linter.unusedVariables false
theorem spec_write_ev (l0 : List Int) (l1 : List S101) (a2 : Int) (a3 : Bool) (s : Int) (data : List Int) (hl : l0.length ≤ 1048576) (h : l1.length ≤ 1048576) (hp : ∀ p ∈ l1, p.f1.length ≤ 1048576) (hd : data.length ≤ 1048576) :
    Ev (fun k => spec_DevWrite.f k l0 l1 a2 a3 s data) (if canWrite l0 l1 a2 a3 s data then devWritten l0 l1 a2 a3 s data else (l0, l1, a2, a3)) := by
  have ec := copy_ev l0 l1 a2 a3 (by omega) (by omega) (fun p hq => by have := hp p hq; omega)
  have no : Ev (fun k => spec_DevWrite.j0 k s data true l0 l1 a2 a3) (l0, l1, a2, a3) := by
    refine Ev.step (g := fun k => (spec_l1Copy.f k l0 l1 a2 a3).bind fun t => some (t.1, t.2.1, t.2.2.1, t.2.2.2)) ⟨0, fun k _ => ?_⟩ (Ev.bind ec (Ev.const rfl))
    simp only [spec_DevWrite.j0]
    rw [if_pos trivial]
  have ev := spec_ValidDev_ev l0 l1 a2 a3 (by omega) (by omega) (fun p hq => by have := hp p hq; omega)
  have e : wrap64 ((l0.length : Int) / 64) = ((l0.length / 64 : Nat) : Int) := by rw [w64 (by omega) (by omega)]; omega
  simp only [spec_DevWrite.f, spec_l1Sectors.f, Option.bind_some, e]
  clear e
  refine Ev.bind ev ?_
  by_cases hv : validDev l0 l1 a2 = true
  case neg =>
    rw [if_neg (fun h => hv h.1)]
    exact Ev.neg hv no
  refine Ev.pos hv ?_
  by_cases h3 : a3 = true
  case pos =>
    rw [if_neg (fun h => by rw [h3] at h; cases h.2.1)]
    exact Ev.pos h3 no
  refine Ev.neg h3 ?_
  by_cases h1 : s < 0
  case pos =>
    rw [if_neg (fun h => by have := h.2.2.1.1; omega)]
    exact Ev.pos h1 no
  refine Ev.neg h1 ?_
  by_cases h2 : s ≥ ((l0.length / 64 : Nat) : Int)
  case pos =>
    rw [if_neg (fun h => by have := h.2.2.1.2; omega)]
    exact Ev.pos h2 no
  refine Ev.neg h2 ?_
  by_cases h64 : (data.length : Int) = 64
  case neg =>
    rw [if_neg (fun h => by have := h.2.2.2.1; omega)]
    exact Ev.neg h64 no
  refine Ev.pos h64 ?_
  by_cases hfull : (l1.length : Int) = 1000
  case pos =>
    rw [if_neg (fun h => by have := h.2.2.2.2; omega), beq_iff_eq.mpr hfull]
    exact no
  have hcan : canWrite l0 l1 a2 a3 s data := ⟨hv, by simpa using h3, ⟨by omega, by omega⟩, by omega, by omega⟩
  rw [if_pos hcan, beq_eq_false_iff_ne.mpr hfull]
  have hf : -1 ≤ a2 ∧ a2 ≤ 1000000 := by have := (validDev_is.1 hv).1; unfold headDev at this; omega
  have es := step_ev l0 l1 a2 a3 (by omega) (by omega) (fun p hq => by have := hp p hq; omega) hf
  refine Ev.step (g := fun k => (spec_l1Step.f k l0 l1 a2 a3).bind fun t => if t.2.2.2 = true then some (t.1, t.2.1, t.2.2.1, t.2.2.2) else (some (([] : List Int) : List Int)).bind fun y => if y.length + data.length < 140737488355328 then (if t.2.1.length < 4398046511104 then some (t.1, t.2.1 ++ [(⟨s, y ++ data⟩ : S101)], t.2.2.1, t.2.2.2) else none) else none) ⟨0, fun k _ => ?_⟩ (Ev.bind es (Ev.const ?_))
  · simp only [spec_DevWrite.j0]
    rw [if_neg (by simp)]
  · unfold devWritten
    have hd3 : a3 = false := by simpa using h3
    by_cases hz : a2 = 0
    · rw [if_pos (show deadOf a2 a3 = true from if_pos hz), if_pos hz]
    · rw [if_neg (by rw [show deadOf a2 a3 = a3 from if_neg hz, hd3]; simp), if_neg hz]
      simp only [Option.bind_some, List.length_nil, List.nil_append]
      rw [if_pos (by omega), if_pos (by omega)]
theorem write_small (l0 : List Int) (l1 : List S101) (a2 : Int) (a3 : Bool) (s : Int) (data : List Int) (h0 : l0.length ≤ 1048576) (h : l1.length ≤ 1048576) (hp : ∀ p ∈ l1, p.f1.length ≤ 1048576) :
    ∃ (m0 : List Int) (m1 : List S101) (b2 : Int) (b3 : Bool), (if canWrite l0 l1 a2 a3 s data then devWritten l0 l1 a2 a3 s data else (l0, l1, a2, a3)) = (m0, m1, b2, b3) ∧ Small m0 m1 := by
  by_cases hc : canWrite l0 l1 a2 a3 s data
  · rw [if_pos hc]
    refine ⟨_, _, _, _, rfl, ⟨by omega, ?_, ?_⟩⟩
    · split
      · omega
      · rw [List.length_append, List.length_singleton]; omega
    · intro p hpm
      split at hpm
      · have := hp p hpm
        omega
      · rcases List.mem_append.1 hpm with hpm | hpm
        · have := hp p hpm
          omega
        · rw [List.mem_singleton] at hpm
          rw [hpm]
          have := hc.2.2.2.1
          show data.length ≤ _
          omega
  · rw [if_neg hc]
    exact ⟨_, _, _, _, rfl, ⟨by omega, by omega, fun p hpm => by have := hp p hpm; omega⟩⟩
theorem FnExactDevWrite : laws_FnExactDevWrite.Pure := by
  intro x s data hx hs hdata
  refine Ev.ex (f := fun k => laws_FnExactDevWrite.f k x.f0 x.f1 x.f2 x.f3 s data) ?_
  simp only [laws_FnExactDevWrite.f]
  by_cases hd : (data.length : Int) > 1048576
  · exact Ev.pos hd (Ev.const rfl)
  refine Ev.neg hd ?_
  obtain ⟨t, ht, hc⟩ := devArg x hx
  refine Ev.bind ht ?_
  rcases hc with hc | ⟨hc, -, h0, h1, hm, hS, ev⟩
  · exact Ev.pos hc (Ev.const rfl)
  have hlen : (x.f1.map cvPend).length ≤ 1048576 := by rw [List.length_map]; omega
  have et := toByteS_ev data (by omega)
  have ee := eqByteS_ev data (by omega)
  have es := spec_write_ev x.f0 (x.f1.map cvPend) x.f2 x.f3 s data h0 hlen hm (by omega)
  have ei : impl_DevWrite.f x.f0 (x.f1.map cvPend) x.f2 x.f3 s data = some (if canWrite x.f0 (x.f1.map cvPend) x.f2 x.f3 s data then devWritten x.f0 (x.f1.map cvPend) x.f2 x.f3 s data else (x.f0, x.f1.map cvPend, x.f2, x.f3)) := by
    unfold impl_DevWrite.f
    exact if_pos ⟨by omega, by omega, fun p hp => by have := hm p hp; omega, by omega⟩
  obtain ⟨m0, m1, b2, b3, hr, hSr⟩ := write_small x.f0 (x.f1.map cvPend) x.f2 x.f3 s data h0 hlen hm
  rw [hr] at es ei
  obtain ⟨m, emd, hm1, hm2, -⟩ := hS.mark x.f2 x.f3 1 (by decide) (by decide)
  obtain ⟨n, end_, hn1, -, ehd⟩ := hSr.mark b2 b3 1 (by decide) (by decide)
  have emb := markByteS_ev data m.1 (by omega) (by omega)
  have eq := hSr.eq b2 b3
  exact Ev.neg (by omega) (Ev.bind ev (Ev.bind et (Ev.bind es (Ev.bind ev (Ev.bind et (Ev.bind (Ev.const ei) (Ev.bind eq (Ev.pos rfl (Ev.bind ev (Ev.bind (hS.eq x.f2 x.f3) (Ev.pos rfl (Ev.bind et (Ev.bind ee (Ev.pos rfl (Ev.bind emd (Ev.bind emb (Ev.neg (by show ¬ m.1 + (data.length : Int) < 0; omega) (Ev.bind eq (Ev.pos rfl (Ev.bind end_ (Ev.bind ehd (Ev.neg (by omega) (Ev.pos rfl (Ev.bind ev (Ev.bind et (Ev.bind (Ev.const ei) (Ev.bind eq (Ev.pos rfl (Ev.const rfl)))))))))))))))))))))))))))))
end Go.Proofs.Ytbdbeccaopphaaa.Pure
namespace Go.Proofs.Ytbdbeccaopphaaa.fnExactDevWrite
open Go.ChangeShapes Go.WideShapes Go.ChangeAt Go.RowKit Go.Proofs.Ytbdbeccaopphaaa.Q Go.Proofs.YtbdbeccaopphaaaW.PrintWords Go.Proofs.Ytbdbeccaopphaaa.O
open Go.ChangeMaps (open_string shut_string)
set_option linter.unusedVariables false
theorem own : ownKnob Try.prog.godebug = none := by kernel_rfl
theorem laidOut : laidOutB Try.prog = true := by kernel_rfl
set_option maxRecDepth 100000 in
theorem lifted (os : Os) (started : os.Started) (H : Type) (enc : TypeId × Value → H) :
    ReturnsInHanded {} Try.checked os 9 .any (Rows.fnExactDevWriteSpec.pre6 enc Try.prog Try.f9 Rows.fnExactDevWriteRow.domain false) (Rows.fnExactDevWriteSpec.post enc Try.prog Try.f9 false true false false) := by
  refine returnsInHanded_of_change_sized (C := Try.checked) own started (by kernel_rfl) Try.func9
    (ChangeSpec.witness6 (enc := enc) (C := Try.checked) false ⟨#[], #[.agg #[.slice none 0 0, .slice none 0 0, .int .i64 0, .bool false], .int .i64 0, .slice none 0 0], []⟩ 8 (by kernel_rfl) (by kernel_rfl) (by kernel_rfl) (by kernel_rfl)) ?_
  intro W base args ds gs before hval0 hW hcnd hsz0 _
  have hval : ∀ (j : Nat) t v, Try.f9.params[j]? = some t → args[j]? = some v → Value.okWide Try.prog W .any base t v := hval0
  have hW' := hW
  obtain ⟨p, q, hA0, hV, rfl, hfz, hnd⟩ := hW
  have hA : DataW.TrodAll enc Try.prog W 0 (fun _ => true) true Try.f9.params.toList args.toList ds p := hA0
  rw [Try.params9] at hA hval
  obtain ⟨v0, vs0, d0, ds0, p0, q0, hargs, rfl, rfl, h0, r0⟩ := trodAll_cons hA
  obtain ⟨v1, vs1, d1, ds1, p1, q1, rfl, rfl, rfl, h1, r1⟩ := trodAll_cons r0
  obtain ⟨v2, vs2, d2, ds2, p2, q2, rfl, rfl, rfl, h2, r2⟩ := trodAll_cons r1
  obtain ⟨rfl, rfl, rfl⟩ := trodAll_nil r2
  obtain rfl : args = #[v0, v1, v2] := by cases args; simp_all
  obtain ⟨rfl, rfl⟩ := trodVars_none hV
  have k0 := h0
  have lt0 : ∀ x ∈ p0, x.block < W.heap.size := by obtain ⟨m, hm⟩ := k0; exact DataW.trod_lt m _ _ _ hm
  obtain ⟨cs0, rfl, _⟩ := okWide_struct Try.underlying42 (hval 0 42 v0 rfl rfl)
  obtain ⟨x0, hk0, w0⟩ : ∃ x, (k42).K W x cs0.toList ∧ W42 x := by
    obtain ⟨fuel, hf⟩ := h0
    exact opens_T42 H enc W fuel _ _ hf
  obtain ⟨cs0⟩ := cs0
  obtain ⟨A0_0, c0_0, A0_1, c0_1, h_0, m0_0, g0_0, m0_1, g0_1⟩ := k42_open hk0
  obtain rfl := (show cs0 = _ from h_0)
  obtain ⟨a1, rfl, rfl, rfl, w1⟩ := open_int Try.underlying2 (hval 1 2 v1 rfl rfl) h1
  have k2 := h2
  have lt2 : ∀ x ∈ p2, x.block < W.heap.size := by obtain ⟨m, hm⟩ := k2; exact DataW.trod_lt m _ _ _ hm
  obtain ⟨a2, len2, cap2, rfl⟩ := okWide_slice Try.underlying23 (hval 2 23 v2 rfl rfl)
  obtain ⟨l2, ⟨A2, c2, he2, m2, g2⟩, w2⟩ : ∃ x, ((Kd.slice 5 (Kd.int .u8))).K W x [.slice a2 len2 cap2] ∧ (x.length ≤ 9223372036854775807 ∧ ∀ z_ ∈ x, (Lit.int .u8 z_).wf = true) := by
    obtain ⟨fuel, hf⟩ := h2
    exact (opens_slice Try.underlying23 (by kernel_rfl) (opens_int Try.underlying5)) H enc W fuel _ _ hf
  obtain ⟨rfl, rfl, rfl⟩ : a2 = A2 ∧ len2 = l2.length ∧ cap2 = c2 := by simpa using he2
  clear hA0 hval0 hsz0
  obtain ⟨k, hp⟩ := Pure.FnExactDevWrite x0 a1 l2 w0 w1 w2
  refine (laws_FnExactDevWrite.calls k _ _ x0.f0 _ _ x0.f1 x0.f2 x0.f3 a1 _ _ l2 W g0_0 m0_0 g0_1 m0_1 g2 m2 hp).mono fun e W' ⟨he, bel⟩ => ?_
  subst he
  exact ⟨_, rfl, _, _, _, [], _, [], hW', trodAll_mk1 (shut_bool Try.underlying4 _), (trodAll_cons_mk (Below.trod laidOut (by kernel_rfl) (of_decide_eq_true (by kernel_rfl)) k0 bel lt0) (trodAll_cons_mk (shut_int Try.underlying2 w1) (trodAll_cons_mk (Below.trod laidOut (by kernel_rfl) (of_decide_eq_true (by kernel_rfl)) k2 bel lt2) trodAll_mk0))), rfl, bel.frame _, fun h => by cases h⟩
theorem over : Rows.fnExactDevWriteRow.holds Try.pinned (OpenSpec.ofChange Rows.fnExactDevWriteSpec) :=
  OpenClaim.holds_of_wide 9 Try.f9 rfl rfl rfl rfl rfl rfl rfl ⟨rfl, rfl, rfl, rfl, rfl⟩ rfl rfl rfl rfl rfl (by kernel_rfl) Try.func9 (by kernel_rfl)
    (of_decide_eq_true (by kernel_rfl)) (by unfold Func.isWrapper; first | (rw [if_pos (by decide +kernel)]; kernel_rfl) | (rw [if_neg (by decide +kernel)]; exact ⟨rfl, rfl⟩))
    (fun os started H enc _ => lifted os started H enc)
theorem proved : Rows.FnExactDevWriteSaid := over
#print axioms proved
end Go.Proofs.Ytbdbeccaopphaaa.fnExactDevWrite
namespace Go.Proofs.Ytbdbeccaopphaaa
/-- The row, under a short name, for the claim. -/
theorem fnExactDevWrite_holds : Rows.FnExactDevWriteSaid := fnExactDevWrite.proved
end Go.Proofs.Ytbdbeccaopphaaa
