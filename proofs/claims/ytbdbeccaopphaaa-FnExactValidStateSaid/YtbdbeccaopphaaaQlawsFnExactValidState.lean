-- By a program of this session's own out of the translation.
import Derived.Test.YtbdbeccaopphaaaQT
import Derived.Test.YtbdbeccaopphaaaQlawsszState
import Derived.Test.YtbdbeccaopphaaaQlawstoState
import Derived.Test.YtbdbeccaopphaaaQlawseqState
import Derived.Test.YtbdbeccaopphaaaQspecValidState
import Derived.Test.YtbdbeccaopphaaaHValidState
namespace Go.Proofs.Ytbdbeccaopphaaa.Q
open Go.RowKit Go.Proofs.YtbdbeccaopphaaaW.PrintWords Go.Proofs.YtbdbeccaopphaaaW.PrintLast Go.Proofs.Ytbdbeccaopphaaa.LK Go.Proofs.YtbdbeccaopphaaaW.PrintMore
attribute [local go_sem] max2_int min2_int max_two min_two max_three min_three max_four min_four   -- for this text's walks alone
set_option linter.unusedVariables false
set_option linter.unusedSimpArgs false

/-! ### laws_FnExactValidState: function 14 -/
def laws_FnExactValidState.f (k : Nat) (l0_0 : List Int) (l0_1 : List Int) (a0_2 : Int) (l0_3 : List (S152)) : Option (Bool) := (laws_szState.f l0_0 l0_1 a0_2 l0_3 1048576).bind fun t102 => (if t102 < 0 then (some true) else ((laws_toState.f k l0_0 l0_1 a0_2 l0_3).bind fun bt103 => ((spec_ValidState.f k bt103.1 bt103.2.1 bt103.2.2.1 bt103.2.2.2).bind fun t113 => ((laws_toState.f k l0_0 l0_1 a0_2 l0_3).bind fun bt114 => ((impl_ValidState.f bt114.1 bt114.2.1 bt114.2.2.1 bt114.2.2.2).bind fun t125 => (if (t125 != t113) = true then (some false) else ((laws_toState.f k l0_0 l0_1 a0_2 l0_3).bind fun bt126 => ((laws_eqState.f k bt114.1 bt114.2.1 bt114.2.2.1 bt114.2.2.2 bt126.1 bt126.2.1 bt126.2.2.1 bt126.2.2.2).bind fun t136 => (if t136 = true then (some true) else (some false))))))))))
theorem laws_FnExactValidState.mono : ∀ a0 a1 a2 a3 k, LeO (laws_FnExactValidState.f k a0 a1 a2 a3) (laws_FnExactValidState.f (k + 1) a0 a1 a2 a3) := by
  intro a0 a1 a2 a3 k
  unfold laws_FnExactValidState.f
  repeat' first
      | (with_reducible exact laws_eqState.mono _ _ _ _ _ _ _ _ _)
      | (with_reducible exact laws_toState.mono _ _ _ _ _)
      | (with_reducible exact spec_ValidState.mono _ _ _ _ _)
      | (with_reducible exact LeO.refl _)
      | (with_reducible exact LeO.none _)
      | (with_reducible refine LeO.ite ?_ ?_)
      | (with_reducible refine LeO.bind ?_ (fun _ => ?_))
      | exact laws_eqState.mono _ _ _ _ _ _ _ _ _
      | exact laws_toState.mono _ _ _ _ _
      | exact spec_ValidState.mono _ _ _ _ _
      | exact LeO.none _
      | refine LeO.ite ?_ ?_
      | refine LeO.bind ?_ (fun _ => ?_)
set_option maxHeartbeats 8000000 in
set_option maxRecDepth 100000 in
theorem laws_FnExactValidState.calls (k : Nat) (A0_0 : Option Addr) (c0_0 : Nat) (l0_0 : List Int) (A0_1 : Option Addr) (c0_1 : Nat) (l0_1 : List Int) (a0_2 : Int) (A0_3 : Option Addr) (c0_3 : Nat) (l0_3 : List (S152)) (w : World) (hr0_0 : Kd.C (Kd.int .i64) w A0_0 l0_0.length l0_0) (hc0_0 : l0_0.length ≤ c0_0) (hr0_1 : Kd.C (Kd.int .i64) w A0_1 l0_1.length l0_1) (hc0_1 : l0_1.length ≤ c0_1) (hr0_3 : Kd.C k152 w A0_3 l0_3.length l0_3) (hc0_3 : l0_3.length ≤ c0_3) (h : laws_FnExactValidState.f k l0_0 l0_1 a0_2 l0_3 = some true) :
    Calls Try.prog 14 #[.agg #[.slice A0_0 l0_0.length c0_0, .slice A0_1 l0_1.length c0_1, .int .i64 a0_2, .slice A0_3 l0_3.length c0_3]] w fun e w' => e = .returned (.bool true) ∧ Below w.heap.size w w' := by
  have hu71 := Try.underlying71
  have hu80 := Try.underlying80
  have HR0_0 := Aside0.mk hr0_0
  have HC0_0 := Aside0.mk hc0_0
  clear hr0_0 hc0_0
  have HR0_1 := Aside0.mk hr0_1
  have HC0_1 := Aside0.mk hc0_1
  clear hr0_1 hc0_1
  have HR0_3 := Aside0.mk hr0_3
  have HC0_3 := Aside0.mk hc0_3
  clear hr0_3 hc0_3
  have HB := Aside0.mk (Below.refl w.heap.size w)
  have H : ((laws_szState.f l0_0 l0_1 a0_2 l0_3 1048576).bind fun t102 => (if t102 < 0 then (some true) else ((laws_toState.f k l0_0 l0_1 a0_2 l0_3).bind fun bt103 => ((spec_ValidState.f k bt103.1 bt103.2.1 bt103.2.2.1 bt103.2.2.2).bind fun t113 => ((laws_toState.f k l0_0 l0_1 a0_2 l0_3).bind fun bt114 => ((impl_ValidState.f bt114.1 bt114.2.1 bt114.2.2.1 bt114.2.2.2).bind fun t125 => (if (t125 != t113) = true then (some false) else ((laws_toState.f k l0_0 l0_1 a0_2 l0_3).bind fun bt126 => ((laws_eqState.f k bt114.1 bt114.2.1 bt114.2.2.1 bt114.2.2.2 bt126.1 bt126.2.1 bt126.2.2.1 bt126.2.2.2).bind fun t136 => (if t136 = true then (some true) else (some false))))))))))) = some true := h
  clear h
  replace H := Option.bind_eq_some_iff.mp H
  obtain ⟨t102, A1_, H⟩ := H
  have A1 := Aside0.mk A1_
  clear A1_
  (try dsimp only at H)
  by_cases c2 : t102 < 0
  · rw [if_pos c2] at H
    have c2b0 : decide (t102 < 0) = true := decide_eq_true c2
    clear c2
    clear H
    (try clear HB)
    have H0 := Aside0.mk (Hist.refl w)
    go_enter Try.func14, Try.ntmps14
    go_wp2_with (first | ((with_reducible refine gate_dst (N := 1) rfl ?_); refine mk ?hw (N := 1) ?hd (cs := #[.slice A0_0 l0_0.length c0_0, .slice A0_1 l0_1.length c0_1, .int .i64 a0_2, .slice A0_3 l0_3.length c0_3]) (t := 71) ?hr ?_; (case hd => rfl); (case hw => rfl); (case hr => first | (go_simp; done) | (go_simp; rfl)); intro g3 hg7 w4 hbox6 hb5; have H8 := Aside0.mk (Hist.step H0.out hb5); clear H0; have B9 := Aside0.mk hbox6; have G10 := Aside0.mk (Nat.le_of_eq hg7.symm); have L11 := Aside0.mk (blk_lt hbox6); clear hb5 hbox6 hg7; refine normL (a' := ?_) ?hn ?_; (case hn => first | (simp only [Act.put, List.setIfInBounds_toArray, List.set_cons_zero, List.set_cons_succ]; rfl) | rfl)) | ((with_reducible refine gate_dst (N := 7) rfl ?_); refine ld ?hw rfl ?hx (blk_fix2 B9.out ⟨G10.out, L11.out⟩ H8.out.fixes.hd) Try.underlying71 rfl (by kernel_rfl) ?_; (case hw => rfl); (case hx => rfl); refine normL (a' := ?_) ?hn ?_; (case hn => first | (simp only [Act.put, List.setIfInBounds_toArray, List.set_cons_zero, List.set_cons_succ]; rfl) | rfl)) | (((with_reducible refine gate_callee (f := 52) rfl ?_)); refine goesW (some 9) rfl ?hw Try.func52 (by kernel_rfl) rfl #[.agg #[.slice A0_0 l0_0.length c0_0, .slice A0_1 l0_1.length c0_1, .int .i64 a0_2, .slice A0_3 l0_3.length c0_3], .int .i64 1048576] rfl (by (try simp only [List.map_toArray, List.map_cons, List.map_nil]); first | done | rfl | (simp only [List.length_drop, List.length_take]; rfl)) ?_; (case hw => rfl); with_reducible refine (laws_szState.calls _ _ l0_0 _ _ l0_1 a0_2 _ _ l0_3 1048576 t102 _ ?side1 ?side2 ?side3 ?side4 ?side5 ?side6 A1.out).mono ?_; (case side1 => exact Kd.C_below HR0_0.out H8.out.below); (case side2 => exact HC0_0.out); (case side3 => exact Kd.C_below HR0_1.out H8.out.below); (case side4 => exact HC0_1.out); (case side5 => exact Kd.C_below HR0_3.out H8.out.below); (case side6 => exact HC0_3.out); rintro e w12 ⟨rfl, hb13⟩; refine ⟨_, rfl, ?_⟩; have H14 := Aside0.mk (Hist.pass H8.out hb13); clear H8; clear hb13; refine normL (a' := ?_) ?hn ?_; (case hn => first | (simp only [Act.put, List.setIfInBounds_toArray, List.set_cons_zero, List.set_cons_succ]; rfl) | rfl)))
    go_ret
    exact ⟨rfl, by first | exact H14.out.below | exact Drawn0.refl _⟩
  · rw [if_neg c2] at H
    have c2b0 : decide (t102 < 0) = false := decide_eq_false c2
    clear c2
    replace H := Option.bind_eq_some_iff.mp H
    obtain ⟨⟨t103, t106, t109, t110⟩, A15_, H⟩ := H
    have A15 := Aside0.mk A15_
    clear A15_
    (try dsimp only at H)
    replace H := Option.bind_eq_some_iff.mp H
    obtain ⟨t113, A16_, H⟩ := H
    have A16 := Aside0.mk A16_
    clear A16_
    (try dsimp only at H)
    replace H := Option.bind_eq_some_iff.mp H
    obtain ⟨⟨t114, t117, t120, t121⟩, A17_, H⟩ := H
    have A17 := Aside0.mk A17_
    clear A17_
    (try dsimp only at H)
    replace H := Option.bind_eq_some_iff.mp H
    obtain ⟨t125, A18_, H⟩ := H
    have A18 := Aside0.mk A18_
    clear A18_
    (try dsimp only at H)
    by_cases c19 : (t125 != t113) = true
    · rw [if_pos c19] at H
      exact absurd H (by simp)
    · rw [if_neg c19] at H
      have c19b0 : (t125 != t113) = false := by simpa using c19
      (try (have c19b1 : decide (t125 = t113) = true := by simpa using c19))
      (try (have c19b2 : (t125 == t113) = true := by simpa using c19))
      replace H := Option.bind_eq_some_iff.mp H
      obtain ⟨⟨t126, t129, t132, t133⟩, A20_, H⟩ := H
      have A20 := Aside0.mk A20_
      clear A20_
      (try dsimp only at H)
      replace H := Option.bind_eq_some_iff.mp H
      obtain ⟨t136, A21_, H⟩ := H
      have A21 := Aside0.mk A21_
      clear A21_
      (try dsimp only at H)
      by_cases c22 : t136 = true
      · rw [if_pos c22] at H
        subst c22
        clear H
        (try clear HB)
        have H0 := Aside0.mk (Hist.refl w)
        go_enter Try.func14, Try.ntmps14
        go_wp2_with (first | ((with_reducible refine gate_dst (N := 1) rfl ?_); refine mk ?hw (N := 1) ?hd (cs := #[.slice A0_0 l0_0.length c0_0, .slice A0_1 l0_1.length c0_1, .int .i64 a0_2, .slice A0_3 l0_3.length c0_3]) (t := 71) ?hr ?_; (case hd => rfl); (case hw => rfl); (case hr => first | (go_simp; done) | (go_simp; rfl)); intro g23 hg27 w24 hbox26 hb25; have H28 := Aside0.mk (Hist.step H0.out hb25); clear H0; have B29 := Aside0.mk hbox26; have G30 := Aside0.mk (Nat.le_of_eq hg27.symm); have L31 := Aside0.mk (blk_lt hbox26); clear hb25 hbox26 hg27; refine normL (a' := ?_) ?hn ?_; (case hn => first | (simp only [Act.put, List.setIfInBounds_toArray, List.set_cons_zero, List.set_cons_succ]; rfl) | rfl)) | ((with_reducible refine gate_dst (N := 7) rfl ?_); refine ld ?hw rfl ?hx (blk_fix2 B29.out ⟨G30.out, L31.out⟩ H28.out.fixes.hd) Try.underlying71 rfl (by kernel_rfl) ?_; (case hw => rfl); (case hx => rfl); refine normL (a' := ?_) ?hn ?_; (case hn => first | (simp only [Act.put, List.setIfInBounds_toArray, List.set_cons_zero, List.set_cons_succ]; rfl) | rfl)) | (((with_reducible refine gate_callee (f := 52) rfl ?_)); refine goesW (some 9) rfl ?hw Try.func52 (by kernel_rfl) rfl #[.agg #[.slice A0_0 l0_0.length c0_0, .slice A0_1 l0_1.length c0_1, .int .i64 a0_2, .slice A0_3 l0_3.length c0_3], .int .i64 1048576] rfl (by (try simp only [List.map_toArray, List.map_cons, List.map_nil]); first | done | rfl | (simp only [List.length_drop, List.length_take]; rfl)) ?_; (case hw => rfl); with_reducible refine (laws_szState.calls _ _ l0_0 _ _ l0_1 a0_2 _ _ l0_3 1048576 t102 _ ?side1 ?side2 ?side3 ?side4 ?side5 ?side6 A1.out).mono ?_; (case side1 => exact Kd.C_below HR0_0.out H28.out.below); (case side2 => exact HC0_0.out); (case side3 => exact Kd.C_below HR0_1.out H28.out.below); (case side4 => exact HC0_1.out); (case side5 => exact Kd.C_below HR0_3.out H28.out.below); (case side6 => exact HC0_3.out); rintro e w32 ⟨rfl, hb33⟩; refine ⟨_, rfl, ?_⟩; have H34 := Aside0.mk (Hist.pass H28.out hb33); clear H28; clear hb33; refine normL (a' := ?_) ?hn ?_; (case hn => first | (simp only [Act.put, List.setIfInBounds_toArray, List.set_cons_zero, List.set_cons_succ]; rfl) | rfl)) | ((with_reducible refine gate_dst (N := 12) rfl ?_); refine ld ?hw rfl ?hx (blk_fix2 B29.out ⟨G30.out, L31.out⟩ H34.out.fixes.hd) Try.underlying71 rfl (by kernel_rfl) ?_; (case hw => rfl); (case hx => rfl); refine normL (a' := ?_) ?hn ?_; (case hn => first | (simp only [Act.put, List.setIfInBounds_toArray, List.set_cons_zero, List.set_cons_succ]; rfl) | rfl)) | (((with_reducible refine gate_callee (f := 54) rfl ?_)); refine goesW (some 13) rfl ?hw Try.func54 (by kernel_rfl) rfl #[.agg #[.slice A0_0 l0_0.length c0_0, .slice A0_1 l0_1.length c0_1, .int .i64 a0_2, .slice A0_3 l0_3.length c0_3]] rfl (by (try simp only [List.map_toArray, List.map_cons, List.map_nil]); first | done | rfl | (simp only [List.length_drop, List.length_take]; rfl)) ?_; (case hw => rfl); with_reducible refine (laws_toState.calls k _ _ l0_0 _ _ l0_1 a0_2 _ _ l0_3 t103 t106 t109 t110 _ ?side1 ?side2 ?side3 ?side4 ?side5 ?side6 A15.out).mono ?_; (case side1 => exact Kd.C_below HR0_0.out H34.out.below); (case side2 => exact HC0_0.out); (case side3 => exact Kd.C_below HR0_1.out H34.out.below); (case side4 => exact HC0_1.out); (case side5 => exact Kd.C_below HR0_3.out H34.out.below); (case side6 => exact HC0_3.out); rintro e w35 ⟨v36, v37, v38, rfl, ho39, ho40, ho41, hb42⟩; refine ⟨_, rfl, ?_⟩; have H43 := Aside0.mk (Hist.step H34.out hb42); clear H34; clear hb42; have F46 := Aside0.mk ho39; clear ho39; have F50 := Aside0.mk ho40; clear ho40; have F54 := Aside0.mk ho41; clear ho41; obtain ⟨Ao44, co45, eo56⟩ := Kd.R_slice F46.out; (first | subst eo56 | (injection eo56 with f1_ f2_ f3_; have f4_ := f1_.symm; have f5_ := f3_.symm; clear f1_ f2_ f3_; subst f4_; subst f5_)); obtain ⟨Ao48, co49, eo57⟩ := Kd.R_slice F50.out; (first | subst eo57 | (injection eo57 with f1_ f2_ f3_; have f4_ := f1_.symm; have f5_ := f3_.symm; clear f1_ f2_ f3_; subst f4_; subst f5_)); obtain ⟨Ao52, co53, eo58⟩ := Kd.R_slice F54.out; (first | subst eo58 | (injection eo58 with f1_ f2_ f3_; have f4_ := f1_.symm; have f5_ := f3_.symm; clear f1_ f2_ f3_; subst f4_; subst f5_)); refine normL (a' := ?_) ?hn ?_; (case hn => first | (simp only [Act.put, List.setIfInBounds_toArray, List.set_cons_zero, List.set_cons_succ]; rfl) | rfl)) | (((with_reducible refine gate_callee (f := 53) rfl ?_)); refine goesW (some 14) rfl ?hw Try.func53 (by kernel_rfl) rfl #[.agg #[.slice Ao44 t103.length co45, .slice Ao48 t106.length co49, .int .i64 t109, .slice Ao52 t110.length co53]] rfl (by (try simp only [List.map_toArray, List.map_cons, List.map_nil]); first | done | rfl | (simp only [List.length_drop, List.length_take]; rfl)) ?_; (case hw => rfl); with_reducible refine (spec_ValidState.calls k _ _ t103 _ _ t106 t109 _ _ t110 t113 _ ?side1 ?side2 ?side3 ?side4 ?side5 ?side6 A16.out).mono ?_; (case side1 => exact (Kd.R_reads' (R_fix F46.out H43.out.fixes.hd)).2.2); (case side2 => exact R_capn (R_fix F46.out H43.out.fixes.hd)); (case side3 => exact (Kd.R_reads' (R_fix F50.out H43.out.fixes.hd)).2.2); (case side4 => exact R_capn (R_fix F50.out H43.out.fixes.hd)); (case side5 => exact (Kd.R_reads' (R_fix F54.out H43.out.fixes.hd)).2.2); (case side6 => exact R_capn (R_fix F54.out H43.out.fixes.hd)); rintro e w59 ⟨rfl, hb60⟩; refine ⟨_, rfl, ?_⟩; have H61 := Aside0.mk (Hist.pass H43.out hb60); clear H43; clear hb60; refine normL (a' := ?_) ?hn ?_; (case hn => first | (simp only [Act.put, List.setIfInBounds_toArray, List.set_cons_zero, List.set_cons_succ]; rfl) | rfl)) | ((with_reducible refine gate_dst (N := 15) rfl ?_); refine ld ?hw rfl ?hx (blk_fix2 B29.out ⟨G30.out, L31.out⟩ H61.out.fixes.tl.hd) Try.underlying71 rfl (by kernel_rfl) ?_; (case hw => rfl); (case hx => rfl); refine normL (a' := ?_) ?hn ?_; (case hn => first | (simp only [Act.put, List.setIfInBounds_toArray, List.set_cons_zero, List.set_cons_succ]; rfl) | rfl)) | (((with_reducible refine gate_callee (f := 54) rfl ?_)); refine goesW (some 16) rfl ?hw Try.func54 (by kernel_rfl) rfl #[.agg #[.slice A0_0 l0_0.length c0_0, .slice A0_1 l0_1.length c0_1, .int .i64 a0_2, .slice A0_3 l0_3.length c0_3]] rfl (by (try simp only [List.map_toArray, List.map_cons, List.map_nil]); first | done | rfl | (simp only [List.length_drop, List.length_take]; rfl)) ?_; (case hw => rfl); with_reducible refine (laws_toState.calls k _ _ l0_0 _ _ l0_1 a0_2 _ _ l0_3 t114 t117 t120 t121 _ ?side1 ?side2 ?side3 ?side4 ?side5 ?side6 A17.out).mono ?_; (case side1 => exact Kd.C_below HR0_0.out H61.out.below); (case side2 => exact HC0_0.out); (case side3 => exact Kd.C_below HR0_1.out H61.out.below); (case side4 => exact HC0_1.out); (case side5 => exact Kd.C_below HR0_3.out H61.out.below); (case side6 => exact HC0_3.out); rintro e w62 ⟨v63, v64, v65, rfl, ho66, ho67, ho68, hb69⟩; refine ⟨_, rfl, ?_⟩; have H70 := Aside0.mk (Hist.step H61.out hb69); clear H61; clear hb69; have F73 := Aside0.mk ho66; clear ho66; have F77 := Aside0.mk ho67; clear ho67; have F81 := Aside0.mk ho68; clear ho68; obtain ⟨Ao71, co72, eo83⟩ := Kd.R_slice F73.out; (first | subst eo83 | (injection eo83 with f1_ f2_ f3_; have f4_ := f1_.symm; have f5_ := f3_.symm; clear f1_ f2_ f3_; subst f4_; subst f5_)); obtain ⟨Ao75, co76, eo84⟩ := Kd.R_slice F77.out; (first | subst eo84 | (injection eo84 with f1_ f2_ f3_; have f4_ := f1_.symm; have f5_ := f3_.symm; clear f1_ f2_ f3_; subst f4_; subst f5_)); obtain ⟨Ao79, co80, eo85⟩ := Kd.R_slice F81.out; (first | subst eo85 | (injection eo85 with f1_ f2_ f3_; have f4_ := f1_.symm; have f5_ := f3_.symm; clear f1_ f2_ f3_; subst f4_; subst f5_)); refine normL (a' := ?_) ?hn ?_; (case hn => first | (simp only [Act.put, List.setIfInBounds_toArray, List.set_cons_zero, List.set_cons_succ]; rfl) | rfl)) | ((with_reducible refine gate_dst (N := 5) rfl ?_); refine mk ?hw (N := 5) ?hd (cs := #[.slice none 0 0, .slice none 0 0, .int .i64 0, .slice none 0 0]) (t := 80) ?hr ?_; (case hd => rfl); (case hw => rfl); (case hr => first | (go_simp; done) | (go_simp; rfl)); intro g86 hg90 w87 hbox89 hb88; have H91 := Aside0.mk (Hist.step H70.out hb88); clear H70; have B92 := Aside0.mk hbox89; have G93 := Aside0.mk (Nat.le_of_eq hg90.symm); have L94 := Aside0.mk (blk_lt hbox89); clear hb88 hbox89 hg90; refine normL (a' := ?_) ?hn ?_; (case hn => first | (simp only [Act.put, List.setIfInBounds_toArray, List.set_cons_zero, List.set_cons_succ]; rfl) | rfl)) | ((with_reducible refine gate_store (t := 80) (p := 5) rfl ?_); refine st_all ?hw ?hN rfl ?hp (cs := #[.slice Ao71 t114.length co72, .slice Ao75 t117.length co76, .int .i64 t120, .slice Ao79 t121.length co80]) ?hx (blk_fix2 B92.out ⟨G93.out, L94.out⟩ H91.out.fixes.hd) (by kernel_rfl) rfl (by simp [Value.oneCell']) ?_; (case hw => rfl); (case hN => rfl); (case hp => rfl); (case hx => rfl); intro w95 hbox96 hs97; have H98 : Aside0 (Hist w [(w95, w62.heap.size, w87.heap.size), (w62, w59.heap.size, w62.heap.size), (w35, w32.heap.size, w35.heap.size), (w24, w.heap.size, w24.heap.size)] w95) := ⟨Hist.mark' (w := w87) (b := w62.heap.size) (t := w87.heap.size) (l1 := []) (l2 := [(w62, w59.heap.size, w62.heap.size), (w35, w32.heap.size, w35.heap.size), (w24, w.heap.size, w24.heap.size)]) (by simp only [List.cons_append, List.nil_append]) (by simp only [List.cons_append, List.nil_append]) H91.out hs97 (fun k_ hk_ => by rw [hk_]; exact ⟨G93.out, L94.out⟩)⟩; have B92n := Aside0.mk hbox96; clear hs97 hbox96 H91 B92; have B92 := B92n; clear B92n) | ((with_reducible refine gate_dst (N := 17) rfl ?_); refine ld ?hw rfl ?hx (blk_fix2 B92.out ⟨G93.out, L94.out⟩ H98.out.fixes.hd) Try.underlying80 rfl (by kernel_rfl) ?_; (case hw => rfl); (case hx => rfl); refine normL (a' := ?_) ?hn ?_; (case hn => first | (simp only [Act.put, List.setIfInBounds_toArray, List.set_cons_zero, List.set_cons_succ]; rfl) | rfl)) | (((with_reducible refine gate_callee (f := 55) rfl ?_)); refine goesW (some 18) rfl ?hw Try.func55 (by kernel_rfl) rfl #[.agg #[.slice Ao71 t114.length co72, .slice Ao75 t117.length co76, .int .i64 t120, .slice Ao79 t121.length co80]] rfl (by (try simp only [List.map_toArray, List.map_cons, List.map_nil]); first | done | rfl | (simp only [List.length_drop, List.length_take]; rfl)) ?_; (case hw => rfl); with_reducible refine (impl_ValidState.calls _ _ t114 _ _ t117 t120 _ _ t121 t125 _ ?side1 ?side2 ?side3 ?side4 ?side5 ?side6 A18.out).mono ?_; (case side1 => exact (Kd.R_reads' (R_fix F73.out H98.out.fixes.tl.hd)).2.2); (case side2 => exact R_capn (R_fix F73.out H98.out.fixes.tl.hd)); (case side3 => exact (Kd.R_reads' (R_fix F77.out H98.out.fixes.tl.hd)).2.2); (case side4 => exact R_capn (R_fix F77.out H98.out.fixes.tl.hd)); (case side5 => exact (Kd.R_reads' (R_fix F81.out H98.out.fixes.tl.hd)).2.2); (case side6 => exact R_capn (R_fix F81.out H98.out.fixes.tl.hd)); rintro e w99 ⟨rfl, hb100⟩; refine ⟨_, rfl, ?_⟩; have H101 := Aside0.mk (Hist.pass H98.out hb100); clear H98; clear hb100; refine normL (a' := ?_) ?hn ?_; (case hn => first | (simp only [Act.put, List.setIfInBounds_toArray, List.set_cons_zero, List.set_cons_succ]; rfl) | rfl)))
        have H102 := Aside0.mk (Hist.drew H101.out)
        clear H101
        refine start_ (n := 5) (S := fun w' => w'.heap[g86]? = some (.cells #[.slice Ao71 t114.length co72, .slice Ao75 t117.length co76, .int .i64 t120, .slice Ao79 t121.length co80] 80 (0, 0)) ∧ w'.heap[g23]? = some (.cells #[.slice A0_0 l0_0.length c0_0, .slice A0_1 l0_1.length c0_1, .int .i64 a0_2, .slice A0_3 l0_3.length c0_3] 71 (0, 0))) (ds := []) #[false, false, false, false, false] (by kernel_rfl) rfl rfl ⟨(blk_fix2 B92.out ⟨G93.out, L94.out⟩ H102.out.fixes.hd), (blk_fix2 B29.out ⟨G30.out, L31.out⟩ H102.out.fixes.tl.tl.tl.hd)⟩ (fun hHeld => ?_)
        generalize w99.drew = w103 at H102 hHeld ⊢
        refine take_ (i := 0) (N := some 22) (v := .agg #[.slice Ao71 t114.length co72, .slice Ao75 t117.length co76, .int .i64 t120, .slice Ao79 t121.length co80]) (a' := ?aaq104) #[true, false, false, false, false] rfl rfl (by kernel_rfl) (fun _ _ _ h => h) (Or.inl ⟨by rfl, ?ylq104⟩) hHeld ?haq104 ?hhq104
        case ylq104 =>
          rintro w' ⟨s0, s1⟩
          exact ld_run (x := .tmp 5) (by rfl) (by rfl) s0 Try.underlying80 rfl (by kernel_rfl)
        case haq104 =>
          simp only [Act.put, List.setIfInBounds_toArray, List.set_cons_zero, List.set_cons_succ, i64_w, i32_w]
          rfl
        refine take_ (i := 1) (N := some 23) (v := .agg #[.slice A0_0 l0_0.length c0_0, .slice A0_1 l0_1.length c0_1, .int .i64 a0_2, .slice A0_3 l0_3.length c0_3]) (a' := ?aaq105) #[true, true, false, false, false] rfl rfl (by kernel_rfl) (fun _ _ _ h => h) (Or.inl ⟨by rfl, ?ylq105⟩) hHeld ?haq105 ?hhq105
        case ylq105 =>
          rintro w' ⟨s0, s1⟩
          exact ld_run (x := .tmp 1) (by rfl) (by rfl) s1 Try.underlying71 rfl (by kernel_rfl)
        case haq105 =>
          simp only [Act.put, List.setIfInBounds_toArray, List.set_cons_zero, List.set_cons_succ, i64_w, i32_w]
          rfl
        refine one_ (i := 2) (N := some 24) #[true, true, true, false, false] rfl rfl (by kernel_rfl) (by decide) (fun K hK => ?_)
        refine goes_ Try.func54 (by kernel_rfl) rfl #[.agg #[.slice A0_0 l0_0.length c0_0, .slice A0_1 l0_1.length c0_1, .int .i64 a0_2, .slice A0_3 l0_3.length c0_3]] (by rfl) rfl rfl (by (try simp only [List.map_toArray, List.map_cons, List.map_nil]); first | done | rfl | (simp only [List.length_drop, List.length_take]; rfl)) ?_
        with_reducible refine (laws_toState.calls k _ _ l0_0 _ _ l0_1 a0_2 _ _ l0_3 t126 t129 t132 t133 _ ?side1 ?side2 ?side3 ?side4 ?side5 ?side6 A20.out).mono ?_
        (case side1 => exact Kd.C_below HR0_0.out H102.out.below)
        (case side2 => exact HC0_0.out)
        (case side3 => exact Kd.C_below HR0_1.out H102.out.below)
        (case side4 => exact HC0_1.out)
        (case side5 => exact Kd.C_below HR0_3.out H102.out.below)
        (case side6 => exact HC0_3.out)
        rintro e w106 ⟨v107, v108, v109, rfl, ho110, ho111, ho112, hb113⟩
        refine ⟨_, rfl, ?_⟩
        have H114 := Aside0.mk (Hist.step H102.out hb113)
        clear H102
        clear hb113
        have F117 := Aside0.mk ho110
        clear ho110
        have F121 := Aside0.mk ho111
        clear ho111
        have F125 := Aside0.mk ho112
        clear ho112
        obtain ⟨Ao115, co116, eo127⟩ := Kd.R_slice F117.out
        (first | subst eo127 | (injection eo127 with f1_ f2_ f3_; have f4_ := f1_.symm; have f5_ := f3_.symm; clear f1_ f2_ f3_; subst f4_; subst f5_))
        obtain ⟨Ao119, co120, eo128⟩ := Kd.R_slice F121.out
        (first | subst eo128 | (injection eo128 with f1_ f2_ f3_; have f4_ := f1_.symm; have f5_ := f3_.symm; clear f1_ f2_ f3_; subst f4_; subst f5_))
        obtain ⟨Ao123, co124, eo129⟩ := Kd.R_slice F125.out
        (first | subst eo129 | (injection eo129 with f1_ f2_ f3_; have f4_ := f1_.symm; have f5_ := f3_.symm; clear f1_ f2_ f3_; subst f4_; subst f5_))
        refine hK.out _ _ ⟨(blk_fix2 B92.out ⟨G93.out, L94.out⟩ H114.out.fixes.tl.hd), (blk_fix2 B29.out ⟨G30.out, L31.out⟩ H114.out.fixes.tl.tl.tl.tl.hd)⟩ (fun hHeld => ?_)
        clear hK K
        refine norm_ (a' := ?_) ?_ ?_
        rotate_left
        · show Act.put _ (some 24) _ = _
          simp only [Act.put, List.setIfInBounds_toArray, List.set_cons_zero, List.set_cons_succ, i64_w, i32_w]
          rfl
        refine one_ (i := 3) (N := some 25) #[true, true, true, true, false] rfl rfl (by kernel_rfl) (by decide) (fun K hK => ?_)
        refine goes_ Try.func56 (by kernel_rfl) rfl #[.agg #[.slice Ao71 t114.length co72, .slice Ao75 t117.length co76, .int .i64 t120, .slice Ao79 t121.length co80], .agg #[.slice Ao115 t126.length co116, .slice Ao119 t129.length co120, .int .i64 t132, .slice Ao123 t133.length co124]] (by rfl) rfl rfl (by (try simp only [List.map_toArray, List.map_cons, List.map_nil]); first | done | rfl | (simp only [List.length_drop, List.length_take]; rfl)) ?_
        with_reducible refine (laws_eqState.calls k _ _ t114 _ _ t117 t120 _ _ t121 _ _ t126 _ _ t129 t132 _ _ t133 true _ ?side1 ?side2 ?side3 ?side4 ?side5 ?side6 ?side7 ?side8 ?side9 ?side10 ?side11 ?side12 A21.out).mono ?_
        (case side1 => exact (Kd.R_reads' (R_fix F73.out H114.out.fixes.tl.tl.hd)).2.2)
        (case side2 => exact R_capn (R_fix F73.out H114.out.fixes.tl.tl.hd))
        (case side3 => exact (Kd.R_reads' (R_fix F77.out H114.out.fixes.tl.tl.hd)).2.2)
        (case side4 => exact R_capn (R_fix F77.out H114.out.fixes.tl.tl.hd))
        (case side5 => exact (Kd.R_reads' (R_fix F81.out H114.out.fixes.tl.tl.hd)).2.2)
        (case side6 => exact R_capn (R_fix F81.out H114.out.fixes.tl.tl.hd))
        (case side7 => exact (Kd.R_reads' (R_fix F117.out H114.out.fixes.hd)).2.2)
        (case side8 => exact R_capn (R_fix F117.out H114.out.fixes.hd))
        (case side9 => exact (Kd.R_reads' (R_fix F121.out H114.out.fixes.hd)).2.2)
        (case side10 => exact R_capn (R_fix F121.out H114.out.fixes.hd))
        (case side11 => exact (Kd.R_reads' (R_fix F125.out H114.out.fixes.hd)).2.2)
        (case side12 => exact R_capn (R_fix F125.out H114.out.fixes.hd))
        rintro e w130 ⟨rfl, hb131⟩
        refine ⟨_, rfl, ?_⟩
        have H132 := Aside0.mk (Hist.pass H114.out hb131)
        clear H114
        clear hb131
        refine hK.out _ _ ⟨(blk_fix2 B92.out ⟨G93.out, L94.out⟩ H132.out.fixes.tl.hd), (blk_fix2 B29.out ⟨G30.out, L31.out⟩ H132.out.fixes.tl.tl.tl.tl.hd)⟩ (fun hHeld => ?_)
        clear hK K
        refine norm_ (a' := ?_) ?_ ?_
        rotate_left
        · show Act.put _ (some 25) _ = _
          simp only [Act.put, List.setIfInBounds_toArray, List.set_cons_zero, List.set_cons_succ, i64_w, i32_w]
          rfl
        refine pure_ (i := 4) (N := some 26) (v := ?_) (a' := ?_) #[true, true, true, true, true] rfl rfl (by kernel_rfl) (fun _ _ _ h => h) (Or.inl ⟨by rfl, ?_⟩) ?_ ?_
        rotate_left
        · intro w'
          go_simp
          with_reducible rfl
        rotate_left
        · simp only [Act.put, List.setIfInBounds_toArray, List.set_cons_zero, List.set_cons_succ, i64_w, i32_w]
          rfl
        refine done_ (by kernel_rfl) ?_
        (try go_wp2)
        go_ret
        exact ⟨rfl, by first | exact H132.out.below | exact Drawn0.refl _⟩
      · rw [if_neg c22] at H
        exact absurd H (by simp)

end Go.Proofs.Ytbdbeccaopphaaa.Q
