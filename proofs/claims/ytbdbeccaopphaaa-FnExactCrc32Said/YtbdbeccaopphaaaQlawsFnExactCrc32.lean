-- By a program of this session's own out of the translation.
import Derived.Test.YtbdbeccaopphaaaQT
import Derived.Test.YtbdbeccaopphaaaQspecCrc32
import Derived.Test.YtbdbeccaopphaaaQlawstoByteS
import Derived.Test.YtbdbeccaopphaaaQimplCrc32
import Derived.Test.YtbdbeccaopphaaaQlawseqByteS
namespace Go.Proofs.Ytbdbeccaopphaaa.Q
open Go.RowKit Go.Proofs.YtbdbeccaopphaaaW.PrintWords Go.Proofs.YtbdbeccaopphaaaW.PrintLast Go.Proofs.Ytbdbeccaopphaaa.LK Go.Proofs.YtbdbeccaopphaaaW.PrintMore
attribute [local go_sem] max2_int min2_int max_two min_two max_three min_three max_four min_four   -- for this text's walks alone
set_option linter.unusedVariables false
set_option linter.unusedSimpArgs false

/-! ### laws_FnExactCrc32: function 4 -/
def laws_FnExactCrc32.f (k : Nat) (l0 : List Int) : Option (Bool) := if (l0.length : Int) > 1048576 then (some true) else ((laws_toByteS.f k l0).bind fun t101 => ((spec_Crc32.f k t101).bind fun t104 => ((laws_toByteS.f k l0).bind fun t105 => ((impl_Crc32.f k t105).bind fun t108 => (if t108 = t104 then ((laws_toByteS.f k l0).bind fun t109 => ((laws_eqByteS.f k t105 t109).bind fun t112 => (if t112 = true then (some true) else (some false)))) else (some false))))))
theorem laws_FnExactCrc32.mono : ∀ a0 k, LeO (laws_FnExactCrc32.f k a0) (laws_FnExactCrc32.f (k + 1) a0) := by
  intro a0 k
  unfold laws_FnExactCrc32.f
  repeat' first
      | (with_reducible exact impl_Crc32.mono _ _)
      | (with_reducible exact laws_eqByteS.mono _ _ _)
      | (with_reducible exact laws_toByteS.mono _ _)
      | (with_reducible exact spec_Crc32.mono _ _)
      | (with_reducible exact LeO.refl _)
      | (with_reducible exact LeO.none _)
      | (with_reducible refine LeO.ite ?_ ?_)
      | (with_reducible refine LeO.bind ?_ (fun _ => ?_))
      | exact impl_Crc32.mono _ _
      | exact laws_eqByteS.mono _ _ _
      | exact laws_toByteS.mono _ _
      | exact spec_Crc32.mono _ _
      | exact LeO.none _
      | refine LeO.ite ?_ ?_
      | refine LeO.bind ?_ (fun _ => ?_)
set_option maxHeartbeats 8000000 in
set_option maxRecDepth 100000 in
theorem laws_FnExactCrc32.calls (k : Nat) (A0 : Option Addr) (c0 : Nat) (l0 : List Int) (w : World) (hr0 : Kd.C (Kd.int .u8) w A0 l0.length l0) (hc0 : l0.length ≤ c0) (h : laws_FnExactCrc32.f k l0 = some true) :
    Calls Try.prog 4 #[.slice A0 l0.length c0] w fun e w' => e = .returned (.bool true) ∧ Below w.heap.size w w' := by
  have HR0 := Aside0.mk hr0
  have HC0 := Aside0.mk hc0
  clear hr0 hc0
  have HB := Aside0.mk (Below.refl w.heap.size w)
  have H : (if (l0.length : Int) > 1048576 then (some true) else ((laws_toByteS.f k l0).bind fun t101 => ((spec_Crc32.f k t101).bind fun t104 => ((laws_toByteS.f k l0).bind fun t105 => ((impl_Crc32.f k t105).bind fun t108 => (if t108 = t104 then ((laws_toByteS.f k l0).bind fun t109 => ((laws_eqByteS.f k t105 t109).bind fun t112 => (if t112 = true then (some true) else (some false)))) else (some false))))))) = some true := h
  clear h
  by_cases c1 : (l0.length : Int) > 1048576
  · rw [if_pos c1] at H
    have c1b0 : decide (1048576 < (l0.length : Int)) = true := decide_eq_true c1
    have c1b1 : decide (1048576 < l0.length) = true := decide_eq_true (by omega)
    clear c1
    clear H
    (try clear HB)
    have H0 := Aside0.mk (Hist.refl w)
    go_enter Try.func4, Try.ntmps4
    (try go_wp2)
    go_ret
    exact ⟨rfl, by first | exact H0.out.below | exact Drawn0.refl _⟩
  · rw [if_neg c1] at H
    have c1b0 : decide (1048576 < (l0.length : Int)) = false := decide_eq_false c1
    have c1b1 : decide (1048576 < l0.length) = false := decide_eq_false (by omega)
    clear c1
    replace H := Option.bind_eq_some_iff.mp H
    obtain ⟨t101, A2_, H⟩ := H
    have A2 := Aside0.mk A2_
    clear A2_
    (try dsimp only at H)
    replace H := Option.bind_eq_some_iff.mp H
    obtain ⟨t104, A3_, H⟩ := H
    have A3 := Aside0.mk A3_
    clear A3_
    (try dsimp only at H)
    replace H := Option.bind_eq_some_iff.mp H
    obtain ⟨t105, A4_, H⟩ := H
    have A4 := Aside0.mk A4_
    clear A4_
    (try dsimp only at H)
    replace H := Option.bind_eq_some_iff.mp H
    obtain ⟨t108, A5_, H⟩ := H
    have A5 := Aside0.mk A5_
    clear A5_
    (try dsimp only at H)
    by_cases c6 : t108 = t104
    · rw [if_pos c6] at H
      have c6b0 : (t108 == t104) = true := beq_iff_eq.mpr c6
      have c6b1 : (t108 != t104) = false := bne_eq_false_iff_eq.mpr c6
      clear c6
      replace H := Option.bind_eq_some_iff.mp H
      obtain ⟨t109, A7_, H⟩ := H
      have A7 := Aside0.mk A7_
      clear A7_
      (try dsimp only at H)
      replace H := Option.bind_eq_some_iff.mp H
      obtain ⟨t112, A8_, H⟩ := H
      have A8 := Aside0.mk A8_
      clear A8_
      (try dsimp only at H)
      by_cases c9 : t112 = true
      · rw [if_pos c9] at H
        subst c9
        clear H
        (try clear HB)
        have H0 := Aside0.mk (Hist.refl w)
        go_enter Try.func4, Try.ntmps4
        go_wp2_with (first | (((with_reducible refine gate_callee (f := 16) rfl ?_)); refine goesW (some 10) rfl ?hw Try.func16 (by kernel_rfl) rfl #[.slice A0 l0.length c0] rfl (by (try simp only [List.map_toArray, List.map_cons, List.map_nil]); first | done | rfl | (simp only [List.length_drop, List.length_take]; rfl)) ?_; (case hw => rfl); with_reducible refine (laws_toByteS.calls k _ _ l0 t101 _ ?side1 ?side2 A2.out).mono ?_; (case side1 => exact Kd.C_below HR0.out H0.out.below); (case side2 => exact HC0.out); rintro e w10 ⟨v11, rfl, ho12, hb13⟩; refine ⟨_, rfl, ?_⟩; have H14 := Aside0.mk (Hist.step H0.out hb13); clear H0; clear hb13; have F17 := Aside0.mk ho12; clear ho12; obtain ⟨Ao15, co16, eo19⟩ := Kd.R_slice F17.out; (first | subst eo19 | (injection eo19 with f1_ f2_ f3_; have f4_ := f1_.symm; have f5_ := f3_.symm; clear f1_ f2_ f3_; subst f4_; subst f5_))) | (((with_reducible refine gate_callee (f := 15) rfl ?_)); refine goesW (some 11) rfl ?hw Try.func15 (by kernel_rfl) rfl #[.slice Ao15 t101.length co16] rfl (by (try simp only [List.map_toArray, List.map_cons, List.map_nil]); first | done | rfl | (simp only [List.length_drop, List.length_take]; rfl)) ?_; (case hw => rfl); with_reducible refine (spec_Crc32.calls k _ _ t101 t104 _ ?side1 ?side2 A3.out).mono ?_; (case side1 => exact (Kd.R_reads' (R_fix F17.out H14.out.fixes.hd)).2.2); (case side2 => exact R_capn (R_fix F17.out H14.out.fixes.hd)); rintro e w20 ⟨rfl, hd_⟩; have hb21 := hd_.below; clear hd_; refine ⟨_, rfl, ?_⟩; have H22 := Aside0.mk (Hist.pass H14.out hb21); clear H14; clear hb21) | (((with_reducible refine gate_callee (f := 16) rfl ?_)); refine goesW (some 13) rfl ?hw Try.func16 (by kernel_rfl) rfl #[.slice A0 l0.length c0] rfl (by (try simp only [List.map_toArray, List.map_cons, List.map_nil]); first | done | rfl | (simp only [List.length_drop, List.length_take]; rfl)) ?_; (case hw => rfl); with_reducible refine (laws_toByteS.calls k _ _ l0 t105 _ ?side1 ?side2 A4.out).mono ?_; (case side1 => exact Kd.C_below HR0.out H22.out.below); (case side2 => exact HC0.out); rintro e w23 ⟨v24, rfl, ho25, hb26⟩; refine ⟨_, rfl, ?_⟩; have H27 := Aside0.mk (Hist.step H22.out hb26); clear H22; clear hb26; have F30 := Aside0.mk ho25; clear ho25; obtain ⟨Ao28, co29, eo32⟩ := Kd.R_slice F30.out; (first | subst eo32 | (injection eo32 with f1_ f2_ f3_; have f4_ := f1_.symm; have f5_ := f3_.symm; clear f1_ f2_ f3_; subst f4_; subst f5_))) | (((with_reducible refine gate_callee (f := 17) rfl ?_)); refine goesW (some 15) rfl ?hw Try.func17 (by kernel_rfl) rfl #[.slice Ao28 t105.length co29] rfl (by (try simp only [List.map_toArray, List.map_cons, List.map_nil]); first | done | rfl | (simp only [List.length_drop, List.length_take]; rfl)) ?_; (case hw => rfl); with_reducible refine (impl_Crc32.calls k _ _ t105 t108 _ ?side1 ?side2 A5.out).mono ?_; (case side1 => exact (Kd.R_reads' (R_fix F30.out H27.out.fixes.hd)).2.2); (case side2 => exact R_capn (R_fix F30.out H27.out.fixes.hd)); rintro e w33 ⟨rfl, hd_⟩; have hb34 := hd_.below; clear hd_; refine ⟨_, rfl, ?_⟩; have H35 := Aside0.mk (Hist.pass H27.out hb34); clear H27; clear hb34) | (((with_reducible refine gate_callee (f := 16) rfl ?_)); refine goesW (some 21) rfl ?hw Try.func16 (by kernel_rfl) rfl #[.slice A0 l0.length c0] rfl (by (try simp only [List.map_toArray, List.map_cons, List.map_nil]); first | done | rfl | (simp only [List.length_drop, List.length_take]; rfl)) ?_; (case hw => rfl); with_reducible refine (laws_toByteS.calls k _ _ l0 t109 _ ?side1 ?side2 A7.out).mono ?_; (case side1 => exact Kd.C_below HR0.out H35.out.below); (case side2 => exact HC0.out); rintro e w36 ⟨v37, rfl, ho38, hb39⟩; refine ⟨_, rfl, ?_⟩; have H40 := Aside0.mk (Hist.step H35.out hb39); clear H35; clear hb39; have F43 := Aside0.mk ho38; clear ho38; obtain ⟨Ao41, co42, eo45⟩ := Kd.R_slice F43.out; (first | subst eo45 | (injection eo45 with f1_ f2_ f3_; have f4_ := f1_.symm; have f5_ := f3_.symm; clear f1_ f2_ f3_; subst f4_; subst f5_))) | (((with_reducible refine gate_callee (f := 18) rfl ?_)); refine goesW (some 22) rfl ?hw Try.func18 (by kernel_rfl) rfl #[.slice Ao28 t105.length co29, .slice Ao41 t109.length co42] rfl (by (try simp only [List.map_toArray, List.map_cons, List.map_nil]); first | done | rfl | (simp only [List.length_drop, List.length_take]; rfl)) ?_; (case hw => rfl); with_reducible refine (laws_eqByteS.calls k _ _ t105 _ _ t109 true _ ?side1 ?side2 ?side3 ?side4 A8.out).mono ?_; (case side1 => exact (Kd.R_reads' (R_fix F30.out H40.out.fixes.tl.hd)).2.2); (case side2 => exact R_capn (R_fix F30.out H40.out.fixes.tl.hd)); (case side3 => exact (Kd.R_reads' (R_fix F43.out H40.out.fixes.hd)).2.2); (case side4 => exact R_capn (R_fix F43.out H40.out.fixes.hd)); rintro e w46 ⟨rfl, hd_⟩; have hb47 := hd_.below; clear hd_; refine ⟨_, rfl, ?_⟩; have H48 := Aside0.mk (Hist.pass H40.out hb47); clear H40; clear hb47))
        go_ret
        exact ⟨rfl, by first | exact H48.out.below | exact Drawn0.refl _⟩
      · rw [if_neg c9] at H
        exact absurd H (by simp)
    · rw [if_neg c6] at H
      exact absurd H (by simp)

end Go.Proofs.Ytbdbeccaopphaaa.Q
