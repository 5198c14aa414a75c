/- Part 8 of 8 of the proof that the law FnExactApplyFrame returns true at every input. No further condition. -/
import Derived.ChangeArms
import Derived.DataReads
import Derived.Test.YtgfadfahbhcllaaRows
import Derived.WalkKit
import Derived.ProofKit
import Derived.OpenShut
import Derived.ShutString
import Derived.ChangeOld
import Derived.Below
import Derived.SizedLaws
import Derived.Test.YtgfadfahbhcllaaMFnExactApplyFrame7
section
namespace Go.Proofs.Ytgfadfahbhcllaa.Q
open Go.RowKit Go.Proofs.YtgfadfahbhcllaaW.PrintWords Go.Proofs.YtgfadfahbhcllaaW.PrintLast Go.Proofs.Ytgfadfahbhcllaa.LK Go.Proofs.YtgfadfahbhcllaaW.PrintMore
attribute [local go_sem] max2_int min2_int max_two min_two max_three min_three max_four min_four
set_option linter.unusedVariables false
set_option linter.unusedSimpArgs false
def laws_FnExactApplyFrame.f (k : Nat) (l0_0 : List Int) (l0_1 : List Int) (a0_2 : Int) (l0_3 : List (S128)) (a1_0 : Int) (a1_1 : Int) (a1_2 : Int) (a1_3 : Int) : Option (Bool) := (laws_szState.f l0_0 l0_1 a0_2 l0_3 1048576).bind fun t103 => (if t103 < 0 then (some true) else ((laws_toState.f k l0_0 l0_1 a0_2 l0_3).bind fun bt104 => ((laws_toFrame.f a1_0 a1_1 a1_2 a1_3).bind fun bt114 => ((spec_ApplyFrame.f k bt104.1 bt104.2.1 bt104.2.2.1 bt104.2.2.2 bt114.1 bt114.2.1 bt114.2.2.1 bt114.2.2.2).bind fun bt118 => ((laws_toState.f k l0_0 l0_1 a0_2 l0_3).bind fun bt130 => ((laws_toFrame.f a1_0 a1_1 a1_2 a1_3).bind fun bt141 => ((impl_ApplyFrame.f bt130.1 bt130.2.1 bt130.2.2.1 bt130.2.2.2 bt141.1 bt141.2.1 bt141.2.2.1 bt141.2.2.2).bind fun bt145 => ((laws_eqApplyRes.f k bt145.1 bt145.2.1 bt145.2.2.1 bt145.2.2.2.1 bt145.2.2.2.2 bt118.1 bt118.2.1 bt118.2.2.1 bt118.2.2.2.1 bt118.2.2.2.2).bind fun t157 => (if t157 = true then ((laws_toState.f k l0_0 l0_1 a0_2 l0_3).bind fun bt158 => ((laws_eqState.f k bt130.1 bt130.2.1 bt130.2.2.1 bt130.2.2.2 bt158.1 bt158.2.1 bt158.2.2.1 bt158.2.2.2).bind fun t168 => (if t168 = true then ((laws_markState.f k bt130.1 bt130.2.1 bt130.2.2.1 bt130.2.2.2 1).bind fun bt169 => (if bt169.1 < 0 then (some false) else ((laws_eqApplyRes.f k bt145.1 bt145.2.1 bt145.2.2.1 bt145.2.2.2.1 bt145.2.2.2.2 bt118.1 bt118.2.1 bt118.2.2.1 bt118.2.2.2.1 bt118.2.2.2.2).bind fun t173 => (if t173 = true then ((laws_markApplyRes.f k bt145.1 bt145.2.1 bt145.2.2.1 bt145.2.2.2.1 bt145.2.2.2.2 1).bind fun bt174 => ((laws_heldApplyRes.f k bt145.1 bt174.2.1 bt174.2.2.1 bt145.2.2.2.1 bt174.2.2.2 1).bind fun t178 => (if t178 < 0 then (some false) else (if t178 = bt174.1 then ((laws_toState.f k l0_0 l0_1 a0_2 l0_3).bind fun bt179 => ((laws_toFrame.f a1_0 a1_1 a1_2 a1_3).bind fun bt189 => ((impl_ApplyFrame.f bt179.1 bt179.2.1 bt179.2.2.1 bt179.2.2.2 bt189.1 bt189.2.1 bt189.2.2.1 bt189.2.2.2).bind fun bt193 => ((laws_eqApplyRes.f k bt193.1 bt193.2.1 bt193.2.2.1 bt193.2.2.2.1 bt193.2.2.2.2 bt118.1 bt118.2.1 bt118.2.2.1 bt118.2.2.2.1 bt118.2.2.2.2).bind fun t205 => (if t205 = true then (some true) else (some false)))))) else (some false))))) else (some false))))) else (some false)))) else (some false))))))))))
set_option maxHeartbeats 8000000 in
set_option maxRecDepth 100000 in
theorem laws_FnExactApplyFrame.calls (k : Nat) (A0_0 : Option Addr) (c0_0 : Nat) (l0_0 : List Int) (A0_1 : Option Addr) (c0_1 : Nat) (l0_1 : List Int) (a0_2 : Int) (A0_3 : Option Addr) (c0_3 : Nat) (l0_3 : List (S128)) (a1_0 : Int) (a1_1 : Int) (a1_2 : Int) (a1_3 : Int) (w : World) (hr0_0 : Kd.C (Kd.int .i64) w A0_0 l0_0.length l0_0) (hc0_0 : l0_0.length ≤ c0_0) (hr0_1 : Kd.C (Kd.int .i64) w A0_1 l0_1.length l0_1) (hc0_1 : l0_1.length ≤ c0_1) (hr0_3 : Kd.C k128 w A0_3 l0_3.length l0_3) (hc0_3 : l0_3.length ≤ c0_3) (h : laws_FnExactApplyFrame.f k l0_0 l0_1 a0_2 l0_3 a1_0 a1_1 a1_2 a1_3 = some true) :
    Calls Try.prog 10 #[.agg #[.slice A0_0 l0_0.length c0_0, .slice A0_1 l0_1.length c0_1, .int .i64 a0_2, .slice A0_3 l0_3.length c0_3], .agg #[.int .u32 a1_0, .int .i64 a1_1, .int .u32 a1_2, .int .u32 a1_3]] w fun e w' => e = .returned (.bool true) ∧ Below w.heap.size w w' := by
  have hu58 := Try.underlying58
  have hu24 := Try.underlying24
  have hu64 := Try.underlying64
  have hu62 := Try.underlying62
  have HR0_0 := Aside0.mk hr0_0
  have HC0_0 := Aside0.mk hc0_0
  clear hr0_0 hc0_0
  have HR0_1 := Aside0.mk hr0_1
  have HC0_1 := Aside0.mk hc0_1
  clear hr0_1 hc0_1
  have HR0_3 := Aside0.mk hr0_3
  have HC0_3 := Aside0.mk hc0_3
  clear hr0_3 hc0_3
  have HB := Aside0.mk (Below.refl w.heap.size w)
  have H : ((laws_szState.f l0_0 l0_1 a0_2 l0_3 1048576).bind fun t103 => (if t103 < 0 then (some true) else ((laws_toState.f k l0_0 l0_1 a0_2 l0_3).bind fun bt104 => ((laws_toFrame.f a1_0 a1_1 a1_2 a1_3).bind fun bt114 => ((spec_ApplyFrame.f k bt104.1 bt104.2.1 bt104.2.2.1 bt104.2.2.2 bt114.1 bt114.2.1 bt114.2.2.1 bt114.2.2.2).bind fun bt118 => ((laws_toState.f k l0_0 l0_1 a0_2 l0_3).bind fun bt130 => ((laws_toFrame.f a1_0 a1_1 a1_2 a1_3).bind fun bt141 => ((impl_ApplyFrame.f bt130.1 bt130.2.1 bt130.2.2.1 bt130.2.2.2 bt141.1 bt141.2.1 bt141.2.2.1 bt141.2.2.2).bind fun bt145 => ((laws_eqApplyRes.f k bt145.1 bt145.2.1 bt145.2.2.1 bt145.2.2.2.1 bt145.2.2.2.2 bt118.1 bt118.2.1 bt118.2.2.1 bt118.2.2.2.1 bt118.2.2.2.2).bind fun t157 => (if t157 = true then ((laws_toState.f k l0_0 l0_1 a0_2 l0_3).bind fun bt158 => ((laws_eqState.f k bt130.1 bt130.2.1 bt130.2.2.1 bt130.2.2.2 bt158.1 bt158.2.1 bt158.2.2.1 bt158.2.2.2).bind fun t168 => (if t168 = true then ((laws_markState.f k bt130.1 bt130.2.1 bt130.2.2.1 bt130.2.2.2 1).bind fun bt169 => (if bt169.1 < 0 then (some false) else ((laws_eqApplyRes.f k bt145.1 bt145.2.1 bt145.2.2.1 bt145.2.2.2.1 bt145.2.2.2.2 bt118.1 bt118.2.1 bt118.2.2.1 bt118.2.2.2.1 bt118.2.2.2.2).bind fun t173 => (if t173 = true then ((laws_markApplyRes.f k bt145.1 bt145.2.1 bt145.2.2.1 bt145.2.2.2.1 bt145.2.2.2.2 1).bind fun bt174 => ((laws_heldApplyRes.f k bt145.1 bt174.2.1 bt174.2.2.1 bt145.2.2.2.1 bt174.2.2.2 1).bind fun t178 => (if t178 < 0 then (some false) else (if t178 = bt174.1 then ((laws_toState.f k l0_0 l0_1 a0_2 l0_3).bind fun bt179 => ((laws_toFrame.f a1_0 a1_1 a1_2 a1_3).bind fun bt189 => ((impl_ApplyFrame.f bt179.1 bt179.2.1 bt179.2.2.1 bt179.2.2.2 bt189.1 bt189.2.1 bt189.2.2.1 bt189.2.2.2).bind fun bt193 => ((laws_eqApplyRes.f k bt193.1 bt193.2.1 bt193.2.2.1 bt193.2.2.2.1 bt193.2.2.2.2 bt118.1 bt118.2.1 bt118.2.2.1 bt118.2.2.2.1 bt118.2.2.2.2).bind fun t205 => (if t205 = true then (some true) else (some false)))))) else (some false))))) else (some false))))) else (some false)))) else (some false))))))))))) = some true := h
  clear h
  replace H := Option.bind_eq_some_iff.mp H
  obtain ⟨t103, A1_, H⟩ := H
  have A1 := Aside0.mk A1_
  clear A1_
  (try dsimp only at H)
  by_cases c2 : t103 < 0
  · rw [if_pos c2] at H
    have c2b0 : decide (t103 < 0) = true := decide_eq_true c2
    clear c2
    clear H
    (try clear HB)
    have H0 := Aside0.mk (Hist.refl w)
    go_enter Try.func10, Try.ntmps10
    go_wp2_with (first | ((with_reducible refine gate_dst (N := 2) rfl ?_); refine mk ?hw (N := 2) ?hd (cs := #[.slice A0_0 l0_0.length c0_0, .slice A0_1 l0_1.length c0_1, .int .i64 a0_2, .slice A0_3 l0_3.length c0_3]) (t := 58) ?hr ?_; (case hd => rfl); (case hw => rfl); (case hr => first | (go_simp; done) | (go_simp; rfl)); intro g3 hg7 w4 hbox6 hb5; have H8 := Aside0.mk (Hist.step H0.out hb5); clear H0; have B9 := Aside0.mk hbox6; have G10 := Aside0.mk (Nat.le_of_eq hg7.symm); have L11 := Aside0.mk (blk_lt hbox6); clear hb5 hbox6 hg7; refine normL (a' := ?_) ?hn ?_; (case hn => first | (simp only [Act.put, List.setIfInBounds_toArray, List.set_cons_zero, List.set_cons_succ]; rfl) | rfl)) | ((with_reducible refine gate_dst (N := 3) rfl ?_); refine mk ?hw (N := 3) ?hd (cs := #[.int .u32 a1_0, .int .i64 a1_1, .int .u32 a1_2, .int .u32 a1_3]) (t := 24) ?hr ?_; (case hd => rfl); (case hw => rfl); (case hr => first | (go_simp; done) | (go_simp; rfl)); intro g12 hg16 w13 hbox15 hb14; have H17 := Aside0.mk (Hist.step H8.out hb14); clear H8; have B18 := Aside0.mk hbox15; have G19 := Aside0.mk (Nat.le_of_eq hg16.symm); have L20 := Aside0.mk (blk_lt hbox15); clear hb14 hbox15 hg16; refine normL (a' := ?_) ?hn ?_; (case hn => first | (simp only [Act.put, List.setIfInBounds_toArray, List.set_cons_zero, List.set_cons_succ]; rfl) | rfl)) | ((with_reducible refine gate_dst (N := 13) rfl ?_); refine ld ?hw rfl ?hx (blk_fix2 B9.out ⟨G10.out, L11.out⟩ H17.out.fixes.tl.hd) Try.underlying58 rfl (by kernel_rfl) ?_; (case hw => rfl); (case hx => rfl); refine normL (a' := ?_) ?hn ?_; (case hn => first | (simp only [Act.put, List.setIfInBounds_toArray, List.set_cons_zero, List.set_cons_succ]; rfl) | rfl)) | (((with_reducible refine gate_callee (f := 38) rfl ?_)); refine goesW (some 15) rfl ?hw Try.func38 (by kernel_rfl) rfl #[.agg #[.slice A0_0 l0_0.length c0_0, .slice A0_1 l0_1.length c0_1, .int .i64 a0_2, .slice A0_3 l0_3.length c0_3], .int .i64 1048576] rfl (by (try simp only [List.map_toArray, List.map_cons, List.map_nil]); first | done | rfl | (simp only [List.length_drop, List.length_take]; rfl)) ?_; (case hw => rfl); with_reducible refine (laws_szState.calls _ _ l0_0 _ _ l0_1 a0_2 _ _ l0_3 1048576 t103 _ ?side1 ?side2 ?side3 ?side4 ?side5 ?side6 A1.out).mono ?_; (case side1 => exact Kd.C_below HR0_0.out H17.out.below); (case side2 => exact HC0_0.out); (case side3 => exact Kd.C_below HR0_1.out H17.out.below); (case side4 => exact HC0_1.out); (case side5 => exact Kd.C_below HR0_3.out H17.out.below); (case side6 => exact HC0_3.out); rintro e w21 ⟨rfl, hb22⟩; refine ⟨_, rfl, ?_⟩; have H23 := Aside0.mk (Hist.pass H17.out hb22); clear H17; clear hb22; refine normL (a' := ?_) ?hn ?_; (case hn => first | (simp only [Act.put, List.setIfInBounds_toArray, List.set_cons_zero, List.set_cons_succ]; rfl) | rfl)))
    go_ret
    exact ⟨rfl, by first | exact H23.out.below | exact Drawn0.refl _⟩
  · rw [if_neg c2] at H
    have c2b0 : decide (t103 < 0) = false := decide_eq_false c2
    clear c2
    replace H := Option.bind_eq_some_iff.mp H
    obtain ⟨⟨t104, t107, t110, t111⟩, A24_, H⟩ := H
    have A24 := Aside0.mk A24_
    clear A24_
    (try dsimp only at H)
    replace H := Option.bind_eq_some_iff.mp H
    obtain ⟨⟨t114, t115, t116, t117⟩, A25_, H⟩ := H
    have A25 := Aside0.mk A25_
    clear A25_
    (try dsimp only at H)
    replace H := Option.bind_eq_some_iff.mp H
    obtain ⟨⟨t118, t119, t122, t125, t126⟩, A26_, H⟩ := H
    have A26 := Aside0.mk A26_
    clear A26_
    (try dsimp only at H)
    replace H := Option.bind_eq_some_iff.mp H
    obtain ⟨⟨t130, t133, t136, t137⟩, A27_, H⟩ := H
    have A27 := Aside0.mk A27_
    clear A27_
    (try dsimp only at H)
    replace H := Option.bind_eq_some_iff.mp H
    obtain ⟨⟨t141, t142, t143, t144⟩, A28_, H⟩ := H
    have A28 := Aside0.mk A28_
    clear A28_
    (try dsimp only at H)
    replace H := Option.bind_eq_some_iff.mp H
    obtain ⟨⟨t145, t146, t149, t152, t153⟩, A29_, H⟩ := H
    have A29 := Aside0.mk A29_
    clear A29_
    (try dsimp only at H)
    replace H := Option.bind_eq_some_iff.mp H
    obtain ⟨t157, A30_, H⟩ := H
    have A30 := Aside0.mk A30_
    clear A30_
    (try dsimp only at H)
    by_cases c31 : t157 = true
    · rw [if_pos c31] at H
      subst c31
      replace H := Option.bind_eq_some_iff.mp H
      obtain ⟨⟨t158, t161, t164, t165⟩, A32_, H⟩ := H
      have A32 := Aside0.mk A32_
      clear A32_
      (try dsimp only at H)
      replace H := Option.bind_eq_some_iff.mp H
      obtain ⟨t168, A33_, H⟩ := H
      have A33 := Aside0.mk A33_
      clear A33_
      (try dsimp only at H)
      by_cases c34 : t168 = true
      · rw [if_pos c34] at H
        subst c34
        replace H := Option.bind_eq_some_iff.mp H
        obtain ⟨⟨t169, t170, t171, t172⟩, A35_, H⟩ := H
        have A35 := Aside0.mk A35_
        clear A35_
        (try dsimp only at H)
        by_cases c36 : t169 < 0
        · rw [if_pos c36] at H
          exact absurd H (by simp)
        · rw [if_neg c36] at H
          have c36b0 : decide (t169 < 0) = false := decide_eq_false c36
          clear c36
          replace H := Option.bind_eq_some_iff.mp H
          obtain ⟨t173, A37_, H⟩ := H
          have A37 := Aside0.mk A37_
          clear A37_
          (try dsimp only at H)
          by_cases c38 : t173 = true
          · rw [if_pos c38] at H
            subst c38
            replace H := Option.bind_eq_some_iff.mp H
            obtain ⟨⟨t174, t175, t176, t177⟩, A39_, H⟩ := H
            have A39 := Aside0.mk A39_
            clear A39_
            (try dsimp only at H)
            replace H := Option.bind_eq_some_iff.mp H
            obtain ⟨t178, A40_, H⟩ := H
            have A40 := Aside0.mk A40_
            clear A40_
            (try dsimp only at H)
            by_cases c41 : t178 < 0
            · rw [if_pos c41] at H
              exact absurd H (by simp)
            · rw [if_neg c41] at H
              have c41b0 : decide (t178 < 0) = false := decide_eq_false c41
              clear c41
              by_cases c42 : t178 = t174
              · rw [if_pos c42] at H
                have c42b0 : (t178 == t174) = true := beq_iff_eq.mpr c42
                have c42b1 : (t178 != t174) = false := bne_eq_false_iff_eq.mpr c42
                clear c42
                replace H := Option.bind_eq_some_iff.mp H
                obtain ⟨⟨t179, t182, t185, t186⟩, A43_, H⟩ := H
                have A43 := Aside0.mk A43_
                clear A43_
                (try dsimp only at H)
                replace H := Option.bind_eq_some_iff.mp H
                obtain ⟨⟨t189, t190, t191, t192⟩, A44_, H⟩ := H
                have A44 := Aside0.mk A44_
                clear A44_
                (try dsimp only at H)
                replace H := Option.bind_eq_some_iff.mp H
                obtain ⟨⟨t193, t194, t197, t200, t201⟩, A45_, H⟩ := H
                have A45 := Aside0.mk A45_
                clear A45_
                (try dsimp only at H)
                replace H := Option.bind_eq_some_iff.mp H
                obtain ⟨t205, A46_, H⟩ := H
                have A46 := Aside0.mk A46_
                clear A46_
                (try dsimp only at H)
                by_cases c47 : t205 = true
                · rw [if_pos c47] at H
                  subst c47
                  clear H
                  (try clear HB)
                  have H0 := Aside0.mk (Hist.refl w)
                  go_enter Try.func10, Try.ntmps10
                  go_wp2_with (first | ((with_reducible refine gate_dst (N := 2) rfl ?_); refine mk ?hw (N := 2) ?hd (cs := #[.slice A0_0 l0_0.length c0_0, .slice A0_1 l0_1.length c0_1, .int .i64 a0_2, .slice A0_3 l0_3.length c0_3]) (t := 58) ?hr ?_; (case hd => rfl); (case hw => rfl); (case hr => first | (go_simp; done) | (go_simp; rfl)); intro g48 hg52 w49 hbox51 hb50; have H53 := Aside0.mk (Hist.step H0.out hb50); clear H0; have B54 := Aside0.mk hbox51; have G55 := Aside0.mk (Nat.le_of_eq hg52.symm); have L56 := Aside0.mk (blk_lt hbox51); clear hb50 hbox51 hg52; refine normL (a' := ?_) ?hn ?_; (case hn => first | (simp only [Act.put, List.setIfInBounds_toArray, List.set_cons_zero, List.set_cons_succ]; rfl) | rfl)) | ((with_reducible refine gate_dst (N := 3) rfl ?_); refine mk ?hw (N := 3) ?hd (cs := #[.int .u32 a1_0, .int .i64 a1_1, .int .u32 a1_2, .int .u32 a1_3]) (t := 24) ?hr ?_; (case hd => rfl); (case hw => rfl); (case hr => first | (go_simp; done) | (go_simp; rfl)); intro g57 hg61 w58 hbox60 hb59; have H62 := Aside0.mk (Hist.step H53.out hb59); clear H53; have B63 := Aside0.mk hbox60; have G64 := Aside0.mk (Nat.le_of_eq hg61.symm); have L65 := Aside0.mk (blk_lt hbox60); clear hb59 hbox60 hg61; refine normL (a' := ?_) ?hn ?_; (case hn => first | (simp only [Act.put, List.setIfInBounds_toArray, List.set_cons_zero, List.set_cons_succ]; rfl) | rfl)) | ((with_reducible refine gate_dst (N := 13) rfl ?_); refine ld ?hw rfl ?hx (blk_fix2 B54.out ⟨G55.out, L56.out⟩ H62.out.fixes.tl.hd) Try.underlying58 rfl (by kernel_rfl) ?_; (case hw => rfl); (case hx => rfl); refine normL (a' := ?_) ?hn ?_; (case hn => first | (simp only [Act.put, List.setIfInBounds_toArray, List.set_cons_zero, List.set_cons_succ]; rfl) | rfl)) | (((with_reducible refine gate_callee (f := 38) rfl ?_)); refine goesW (some 15) rfl ?hw Try.func38 (by kernel_rfl) rfl #[.agg #[.slice A0_0 l0_0.length c0_0, .slice A0_1 l0_1.length c0_1, .int .i64 a0_2, .slice A0_3 l0_3.length c0_3], .int .i64 1048576] rfl (by (try simp only [List.map_toArray, List.map_cons, List.map_nil]); first | done | rfl | (simp only [List.length_drop, List.length_take]; rfl)) ?_; (case hw => rfl); with_reducible refine (laws_szState.calls _ _ l0_0 _ _ l0_1 a0_2 _ _ l0_3 1048576 t103 _ ?side1 ?side2 ?side3 ?side4 ?side5 ?side6 A1.out).mono ?_; (case side1 => exact Kd.C_below HR0_0.out H62.out.below); (case side2 => exact HC0_0.out); (case side3 => exact Kd.C_below HR0_1.out H62.out.below); (case side4 => exact HC0_1.out); (case side5 => exact Kd.C_below HR0_3.out H62.out.below); (case side6 => exact HC0_3.out); rintro e w66 ⟨rfl, hb67⟩; refine ⟨_, rfl, ?_⟩; have H68 := Aside0.mk (Hist.pass H62.out hb67); clear H62; clear hb67; refine normL (a' := ?_) ?hn ?_; (case hn => first | (simp only [Act.put, List.setIfInBounds_toArray, List.set_cons_zero, List.set_cons_succ]; rfl) | rfl)))
                  have H69 := Aside0.mk (Hist.drew H68.out)
                  clear H68
                  refine start_ (n := 7) (S := fun w' => w'.heap[g48]? = some (.cells #[.slice A0_0 l0_0.length c0_0, .slice A0_1 l0_1.length c0_1, .int .i64 a0_2, .slice A0_3 l0_3.length c0_3] 58 (0, 0)) ∧ w'.heap[g57]? = some (.cells #[.int .u32 a1_0, .int .i64 a1_1, .int .u32 a1_2, .int .u32 a1_3] 24 (0, 0))) (ds := []) #[false, false, false, false, false, false, false] (by kernel_rfl) rfl rfl ⟨(blk_fix2 B54.out ⟨G55.out, L56.out⟩ H69.out.fixes.tl.hd), (blk_fix2 B63.out ⟨G64.out, L65.out⟩ H69.out.fixes.hd)⟩ (fun hHeld => ?_)
                  generalize w66.drew = w70 at H69 hHeld ⊢
                  refine take_ (i := 0) (N := some 18) (v := .agg #[.slice A0_0 l0_0.length c0_0, .slice A0_1 l0_1.length c0_1, .int .i64 a0_2, .slice A0_3 l0_3.length c0_3]) (a' := ?aaq71) #[true, false, false, false, false, false, false] rfl rfl (by kernel_rfl) (fun _ _ _ h => h) (Or.inl ⟨by rfl, ?ylq71⟩) hHeld ?haq71 ?hhq71
                  case ylq71 =>
                    rintro w' ⟨s0, s1⟩
                    exact ld_run (x := .tmp 2) (by rfl) (by rfl) s0 Try.underlying58 rfl (by kernel_rfl)
                  case haq71 =>
                    simp only [Act.put, List.setIfInBounds_toArray, List.set_cons_zero, List.set_cons_succ, i64_w, i32_w]
                    rfl
                  refine take_ (i := 2) (N := some 20) (v := .agg #[.int .u32 a1_0, .int .i64 a1_1, .int .u32 a1_2, .int .u32 a1_3]) (a' := ?aaq72) #[true, false, true, false, false, false, false] rfl rfl (by kernel_rfl) (fun _ _ _ h => h) (Or.inl ⟨by rfl, ?ylq72⟩) hHeld ?haq72 ?hhq72
                  case ylq72 =>
                    rintro w' ⟨s0, s1⟩
                    exact ld_run (x := .tmp 3) (by rfl) (by rfl) s1 Try.underlying24 rfl (by kernel_rfl)
                  case haq72 =>
                    simp only [Act.put, List.setIfInBounds_toArray, List.set_cons_zero, List.set_cons_succ, i64_w, i32_w]
                    rfl
                  have HXB0 := Aside0.mk (blk_fix2 B54.out ⟨G55.out, L56.out⟩ H69.out.fixes.tl.hd)
                  have HXB1 := Aside0.mk (blk_fix2 B63.out ⟨G64.out, L65.out⟩ H69.out.fixes.hd)
                  have HBs := Aside0.mk (Below.refl w70.heap.size w70)
                  have HBw := Aside0.mk H69.out.below
                  refine join_ (σ := Nat × Value × Value × Value × Value × Value × Value) 1 #[true, true, true, true, true, true, false] (fun s_ => [(19, (.agg #[s_.2.1, s_.2.2.1, .int .i64 t110, s_.2.2.2.1])), (21, (.agg #[.int .u32 t114, .int .i64 t115, .int .u32 t116, .int .u32 t117])), (22, (.agg #[.bool t118, s_.2.2.2.2.1, s_.2.2.2.2.2.1, .int .i64 t125, s_.2.2.2.2.2.2])), (6, .pointer (some ⟨s_.1, 0, none⟩))]) (fun s_ w' => (w'.heap[g48]? = some (.cells #[.slice A0_0 l0_0.length c0_0, .slice A0_1 l0_1.length c0_1, .int .i64 a0_2, .slice A0_3 l0_3.length c0_3] 58 (0, 0)) ∧ w'.heap[g57]? = some (.cells #[.int .u32 a1_0, .int .i64 a1_1, .int .u32 a1_2, .int .u32 a1_3] 24 (0, 0))) ∧ (Below w70.heap.size w70 w') ∧ (w70.heap.size ≤ s_.1) ∧ (w'.heap[s_.1]? = some (.cells #[.bool false, .slice none 0 0, .slice none 0 0, .int .i64 0, .slice none 0 0] 64 (0, 0))) ∧ (Kd.R (Kd.int .i64) 2 w' w70.heap.size (fun k_ => some k_ ≠ (s_.2.2.2.2.2.1 : Value).ownBlock) s_.2.2.2.2.1 t119) ∧ (Kd.R (Kd.int .i64) 2 w' w70.heap.size (fun k_ => some k_ ≠ (s_.2.2.2.2.1 : Value).ownBlock) s_.2.2.2.2.2.1 t122) ∧ (Kd.R k111 111 w' w70.heap.size (fun _ => True) s_.2.2.2.2.2.2 t126)) ?_ ?_
                  rotate_left
                  · intro hCont
                    refine two_ (i := 1) (j := 5) (Ni := some 19) (Nj := some 6) #[true, true, true, false, false, false, false] #[true, false, true, false, false, true, false] rfl rfl rfl rfl (by kernel_rfl) (by decide) (by decide) (fun K hK => ?_) (fun K hK => ?_)
                    · skip
                      refine goes_ Try.func40 (by kernel_rfl) rfl #[.agg #[.slice A0_0 l0_0.length c0_0, .slice A0_1 l0_1.length c0_1, .int .i64 a0_2, .slice A0_3 l0_3.length c0_3]] (by rfl) rfl rfl (by (try simp only [List.map_toArray, List.map_cons, List.map_nil]); first | done | rfl | (simp only [List.length_drop, List.length_take]; rfl)) ?_
                      with_reducible refine (laws_toState.calls k _ _ l0_0 _ _ l0_1 a0_2 _ _ l0_3 t104 t107 t110 t111 _ (Kd.C_below HR0_0.out HBw.out) (HC0_0.out) (Kd.C_below HR0_1.out HBw.out) (HC0_1.out) (Kd.C_below HR0_3.out HBw.out) (HC0_3.out) A24.out).mono ?_
                      rintro e wn_ ⟨vr0_, vr1_, vr2_, rfl, hvr0_, hvr1_, hvr2_, hb_⟩
                      refine ⟨_, rfl, ?_⟩
                      have F75 := Aside0.mk (Kd.R_lower hvr0_ HBs.out.size)
                      have F78 := Aside0.mk (Kd.R_lower hvr1_ HBs.out.size)
                      have F81 := Aside0.mk (Kd.R_lower hvr2_ HBs.out.size)
                      obtain ⟨Ao73, co74, eo_⟩ := Kd.R_slice F75.out
                      subst eo_
                      obtain ⟨Ao76, co77, eo_⟩ := Kd.R_slice F78.out
                      subst eo_
                      obtain ⟨Ao79, co80, eo_⟩ := Kd.R_slice F81.out
                      subst eo_
                      clear hvr0_ hvr1_ hvr2_
                      replace HBs := Aside0.mk (below_step HBs.out hb_)
                      replace HBw := Aside0.mk (below_step HBw.out hb_)
                      clear hb_
                      refine hK.out _ _ ⟨((HBs.out.block _ (blk_lt HXB0.out)).trans HXB0.out), ((HBs.out.block _ (blk_lt HXB1.out)).trans HXB1.out)⟩ (fun hHeld => ?_)
                      clear hK K
                      refine norm_ (a' := ?_) ?_ ?_
                      rotate_left
                      · show Act.put _ (some 19) _ = _
                        simp only [Act.put, List.setIfInBounds_toArray, List.set_cons_zero, List.set_cons_succ, i64_w, i32_w]
                        rfl
                      refine two_ (i := 3) (j := 5) (Ni := some 21) (Nj := some 6) #[true, true, true, true, false, false, false] #[true, true, true, false, false, true, false] rfl rfl rfl rfl (by kernel_rfl) (by decide) (by decide) (fun K hK => ?_) (fun K hK => ?_)
                      · skip
                        refine goes_ Try.func12 (by kernel_rfl) rfl #[.agg #[.int .u32 a1_0, .int .i64 a1_1, .int .u32 a1_2, .int .u32 a1_3]] (by rfl) rfl rfl (by (try simp only [List.map_toArray, List.map_cons, List.map_nil]); first | done | rfl | (simp only [List.length_drop, List.length_take]; rfl)) ?_
                        with_reducible refine (laws_toFrame.calls a1_0 a1_1 a1_2 a1_3 t114 t115 t116 t117 _  A25.out).mono ?_
                        rintro e wn_ ⟨rfl, hb_⟩
                        refine ⟨_, rfl, ?_⟩
                        replace F75 := Aside0.mk (Kd.R_below F75.out hb_)
                        replace F78 := Aside0.mk (Kd.R_below F78.out hb_)
                        replace F81 := Aside0.mk (Kd.R_below F81.out hb_)
                        replace HBs := Aside0.mk (below_step HBs.out hb_)
                        replace HBw := Aside0.mk (below_step HBw.out hb_)
                        clear hb_
                        refine hK.out _ _ ⟨((HBs.out.block _ (blk_lt HXB0.out)).trans HXB0.out), ((HBs.out.block _ (blk_lt HXB1.out)).trans HXB1.out)⟩ (fun hHeld => ?_)
                        clear hK K
                        refine norm_ (a' := ?_) ?_ ?_
                        rotate_left
                        · show Act.put _ (some 21) _ = _
                          simp only [Act.put, List.setIfInBounds_toArray, List.set_cons_zero, List.set_cons_succ, i64_w, i32_w]
                          rfl
                        refine two_ (i := 4) (j := 5) (Ni := some 22) (Nj := some 6) #[true, true, true, true, true, false, false] #[true, true, true, true, false, true, false] rfl rfl rfl rfl (by kernel_rfl) (by decide) (by decide) (fun K hK => ?_) (fun K hK => ?_)
                        · skip
                          refine goes_ Try.func39 (by kernel_rfl) rfl #[.agg #[.slice Ao73 t104.length co74, .slice Ao76 t107.length co77, .int .i64 t110, .slice Ao79 t111.length co80], .agg #[.int .u32 t114, .int .i64 t115, .int .u32 t116, .int .u32 t117]] (by rfl) rfl rfl (by (try simp only [List.map_toArray, List.map_cons, List.map_nil]); first | done | rfl | (simp only [List.length_drop, List.length_take]; rfl)) ?_
                          with_reducible refine (spec_ApplyFrame.calls k _ _ t104 _ _ t107 t110 _ _ t111 t114 t115 t116 t117 t118 t119 t122 t125 t126 _ ((Kd.R_reads' F75.out).2.2) (R_capn F75.out) ((Kd.R_reads' F78.out).2.2) (R_capn F78.out) ((Kd.R_reads' F81.out).2.2) (R_capn F81.out) A26.out).mono ?_
                          rintro e wn_ ⟨vr3_, vr4_, vr5_, rfl, hvr3_, hvr4_, hvr5_, hb_⟩
                          refine ⟨_, rfl, ?_⟩
                          have F84 := Aside0.mk (Kd.R_lower hvr3_ HBs.out.size)
                          have F87 := Aside0.mk (Kd.R_lower hvr4_ HBs.out.size)
                          have F90 := Aside0.mk (Kd.R_lower hvr5_ HBs.out.size)
                          obtain ⟨Ao82, co83, eo_⟩ := Kd.R_slice F84.out
                          subst eo_
                          obtain ⟨Ao85, co86, eo_⟩ := Kd.R_slice F87.out
                          subst eo_
                          obtain ⟨Ao88, co89, eo_⟩ := Kd.R_slice F90.out
                          subst eo_
                          clear hvr3_ hvr4_ hvr5_
                          replace F75 := Aside0.mk (Kd.R_below F75.out hb_)
                          replace F78 := Aside0.mk (Kd.R_below F78.out hb_)
                          replace F81 := Aside0.mk (Kd.R_below F81.out hb_)
                          replace HBs := Aside0.mk (below_step HBs.out hb_)
                          replace HBw := Aside0.mk (below_step HBw.out hb_)
                          clear hb_
                          refine hK.out _ _ ⟨((HBs.out.block _ (blk_lt HXB0.out)).trans HXB0.out), ((HBs.out.block _ (blk_lt HXB1.out)).trans HXB1.out)⟩ (fun hHeld => ?_)
                          clear hK K
                          refine norm_ (a' := ?_) ?_ ?_
                          rotate_left
                          · show Act.put _ (some 22) _ = _
                            simp only [Act.put, List.setIfInBounds_toArray, List.set_cons_zero, List.set_cons_succ, i64_w, i32_w]
                            rfl
                          refine one_ (i := 5) (N := some 6) #[true, true, true, true, true, true, false] rfl rfl (by kernel_rfl) (by decide) (fun K hK => ?_)
                          refine box_step ?hg (N := 6) ?hd (cs := #[.bool false, .slice none 0 0, .slice none 0 0, .int .i64 0, .slice none 0 0]) (t := 64) ?hr ?_; (case hd => rfl); (case hg => rfl); (case hr => first | (go_simp; done) | (go_simp; rfl))
                          intro gn_ hg_ wn_ hbox_ hb_
                          have HGn := Aside0.mk (show w70.heap.size ≤ gn_ from by rw [hg_]; exact HBs.out.size)
                          have HBox := Aside0.mk hbox_
                          replace F75 := Aside0.mk (Kd.R_below F75.out hb_)
                          replace F78 := Aside0.mk (Kd.R_below F78.out hb_)
                          replace F81 := Aside0.mk (Kd.R_below F81.out hb_)
                          replace F84 := Aside0.mk (Kd.R_below F84.out hb_)
                          replace F87 := Aside0.mk (Kd.R_below F87.out hb_)
                          replace F90 := Aside0.mk (Kd.R_below F90.out hb_)
                          replace HBs := Aside0.mk (below_step HBs.out hb_)
                          replace HBw := Aside0.mk (below_step HBw.out hb_)
                          clear hg_ hbox_ hb_
                          refine hK.out _ _ ⟨((HBs.out.block _ (blk_lt HXB0.out)).trans HXB0.out), ((HBs.out.block _ (blk_lt HXB1.out)).trans HXB1.out)⟩ (fun hHeld => ?_)
                          clear hK K
                          refine norm_ (a' := ?_) ?_ ?_
                          rotate_left
                          · show Act.put _ (some 6) _ = _
                            simp only [Act.put, List.setIfInBounds_toArray, List.set_cons_zero, List.set_cons_succ, i64_w, i32_w]
                            rfl
                          exact norm_ (by simp only [putAll, Act.put, List.setIfInBounds_toArray, List.set_cons_zero, List.set_cons_succ]) (hCont (gn_, .slice Ao73 t104.length co74, .slice Ao76 t107.length co77, .slice Ao79 t111.length co80, .slice Ao82 t119.length co83, .slice Ao85 t122.length co86, .slice Ao88 t126.length co89) _ ⟨hHeld, HBs.out, HGn.out, HBox.out, F84.out, F87.out, F90.out⟩)
                        · skip
                          refine box_step ?hg (N := 6) ?hd (cs := #[.bool false, .slice none 0 0, .slice none 0 0, .int .i64 0, .slice none 0 0]) (t := 64) ?hr ?_; (case hd => rfl); (case hg => rfl); (case hr => first | (go_simp; done) | (go_simp; rfl))
                          intro gn_ hg_ wn_ hbox_ hb_
                          have HGn := Aside0.mk (show w70.heap.size ≤ gn_ from by rw [hg_]; exact HBs.out.size)
                          have HBox := Aside0.mk hbox_
                          replace F75 := Aside0.mk (Kd.R_below F75.out hb_)
                          replace F78 := Aside0.mk (Kd.R_below F78.out hb_)
                          replace F81 := Aside0.mk (Kd.R_below F81.out hb_)
                          replace HBs := Aside0.mk (below_step HBs.out hb_)
                          replace HBw := Aside0.mk (below_step HBw.out hb_)
                          clear hg_ hbox_ hb_
                          refine hK.out _ _ ⟨((HBs.out.block _ (blk_lt HXB0.out)).trans HXB0.out), ((HBs.out.block _ (blk_lt HXB1.out)).trans HXB1.out)⟩ (fun hHeld => ?_)
                          clear hK K
                          refine norm_ (a' := ?_) ?_ ?_
                          rotate_left
                          · show Act.put _ (some 6) _ = _
                            simp only [Act.put, List.setIfInBounds_toArray, List.set_cons_zero, List.set_cons_succ, i64_w, i32_w]
                            rfl
                          refine one_ (i := 4) (N := some 22) #[true, true, true, true, true, true, false] rfl rfl (by kernel_rfl) (by decide) (fun K hK => ?_)
                          refine goes_ Try.func39 (by kernel_rfl) rfl #[.agg #[.slice Ao73 t104.length co74, .slice Ao76 t107.length co77, .int .i64 t110, .slice Ao79 t111.length co80], .agg #[.int .u32 t114, .int .i64 t115, .int .u32 t116, .int .u32 t117]] (by rfl) rfl rfl (by (try simp only [List.map_toArray, List.map_cons, List.map_nil]); first | done | rfl | (simp only [List.length_drop, List.length_take]; rfl)) ?_
                          with_reducible refine (spec_ApplyFrame.calls k _ _ t104 _ _ t107 t110 _ _ t111 t114 t115 t116 t117 t118 t119 t122 t125 t126 _ ((Kd.R_reads' F75.out).2.2) (R_capn F75.out) ((Kd.R_reads' F78.out).2.2) (R_capn F78.out) ((Kd.R_reads' F81.out).2.2) (R_capn F81.out) A26.out).mono ?_
                          rintro e wn_ ⟨vr3_, vr4_, vr5_, rfl, hvr3_, hvr4_, hvr5_, hb_⟩
                          refine ⟨_, rfl, ?_⟩
                          have F84 := Aside0.mk (Kd.R_lower hvr3_ HBs.out.size)
                          have F87 := Aside0.mk (Kd.R_lower hvr4_ HBs.out.size)
                          have F90 := Aside0.mk (Kd.R_lower hvr5_ HBs.out.size)
                          obtain ⟨Ao82, co83, eo_⟩ := Kd.R_slice F84.out
                          subst eo_
                          obtain ⟨Ao85, co86, eo_⟩ := Kd.R_slice F87.out
                          subst eo_
                          obtain ⟨Ao88, co89, eo_⟩ := Kd.R_slice F90.out
                          subst eo_
                          clear hvr3_ hvr4_ hvr5_
                          replace HBox := Aside0.mk ((hb_.block _ (blk_lt HBox.out)).trans HBox.out)
                          replace F75 := Aside0.mk (Kd.R_below F75.out hb_)
                          replace F78 := Aside0.mk (Kd.R_below F78.out hb_)
                          replace F81 := Aside0.mk (Kd.R_below F81.out hb_)
                          replace HBs := Aside0.mk (below_step HBs.out hb_)
                          replace HBw := Aside0.mk (below_step HBw.out hb_)
                          clear hb_
                          refine hK.out _ _ ⟨((HBs.out.block _ (blk_lt HXB0.out)).trans HXB0.out), ((HBs.out.block _ (blk_lt HXB1.out)).trans HXB1.out)⟩ (fun hHeld => ?_)
                          clear hK K
                          refine norm_ (a' := ?_) ?_ ?_
                          rotate_left
                          · show Act.put _ (some 22) _ = _
                            simp only [Act.put, List.setIfInBounds_toArray, List.set_cons_zero, List.set_cons_succ, i64_w, i32_w]
                            rfl
                          exact norm_ (by simp only [putAll, Act.put, List.setIfInBounds_toArray, List.set_cons_zero, List.set_cons_succ]) (hCont (gn_, .slice Ao73 t104.length co74, .slice Ao76 t107.length co77, .slice Ao79 t111.length co80, .slice Ao82 t119.length co83, .slice Ao85 t122.length co86, .slice Ao88 t126.length co89) _ ⟨hHeld, HBs.out, HGn.out, HBox.out, F84.out, F87.out, F90.out⟩)
                      · skip
                        refine box_step ?hg (N := 6) ?hd (cs := #[.bool false, .slice none 0 0, .slice none 0 0, .int .i64 0, .slice none 0 0]) (t := 64) ?hr ?_; (case hd => rfl); (case hg => rfl); (case hr => first | (go_simp; done) | (go_simp; rfl))
                        intro gn_ hg_ wn_ hbox_ hb_
                        have HGn := Aside0.mk (show w70.heap.size ≤ gn_ from by rw [hg_]; exact HBs.out.size)
                        have HBox := Aside0.mk hbox_
                        replace F75 := Aside0.mk (Kd.R_below F75.out hb_)
                        replace F78 := Aside0.mk (Kd.R_below F78.out hb_)
                        replace F81 := Aside0.mk (Kd.R_below F81.out hb_)
                        replace HBs := Aside0.mk (below_step HBs.out hb_)
                        replace HBw := Aside0.mk (below_step HBw.out hb_)
                        clear hg_ hbox_ hb_
                        refine hK.out _ _ ⟨((HBs.out.block _ (blk_lt HXB0.out)).trans HXB0.out), ((HBs.out.block _ (blk_lt HXB1.out)).trans HXB1.out)⟩ (fun hHeld => ?_)
                        clear hK K
                        refine norm_ (a' := ?_) ?_ ?_
                        rotate_left
                        · show Act.put _ (some 6) _ = _
                          simp only [Act.put, List.setIfInBounds_toArray, List.set_cons_zero, List.set_cons_succ, i64_w, i32_w]
                          rfl
                        refine one_ (i := 3) (N := some 21) #[true, true, true, true, false, true, false] rfl rfl (by kernel_rfl) (by decide) (fun K hK => ?_)
                        refine goes_ Try.func12 (by kernel_rfl) rfl #[.agg #[.int .u32 a1_0, .int .i64 a1_1, .int .u32 a1_2, .int .u32 a1_3]] (by rfl) rfl rfl (by (try simp only [List.map_toArray, List.map_cons, List.map_nil]); first | done | rfl | (simp only [List.length_drop, List.length_take]; rfl)) ?_
                        with_reducible refine (laws_toFrame.calls a1_0 a1_1 a1_2 a1_3 t114 t115 t116 t117 _  A25.out).mono ?_
                        rintro e wn_ ⟨rfl, hb_⟩
                        refine ⟨_, rfl, ?_⟩
                        replace HBox := Aside0.mk ((hb_.block _ (blk_lt HBox.out)).trans HBox.out)
                        replace F75 := Aside0.mk (Kd.R_below F75.out hb_)
                        replace F78 := Aside0.mk (Kd.R_below F78.out hb_)
                        replace F81 := Aside0.mk (Kd.R_below F81.out hb_)
                        replace HBs := Aside0.mk (below_step HBs.out hb_)
                        replace HBw := Aside0.mk (below_step HBw.out hb_)
                        clear hb_
                        refine hK.out _ _ ⟨((HBs.out.block _ (blk_lt HXB0.out)).trans HXB0.out), ((HBs.out.block _ (blk_lt HXB1.out)).trans HXB1.out)⟩ (fun hHeld => ?_)
                        clear hK K
                        refine norm_ (a' := ?_) ?_ ?_
                        rotate_left
                        · show Act.put _ (some 21) _ = _
                          simp only [Act.put, List.setIfInBounds_toArray, List.set_cons_zero, List.set_cons_succ, i64_w, i32_w]
                          rfl
                        refine one_ (i := 4) (N := some 22) #[true, true, true, true, true, true, false] rfl rfl (by kernel_rfl) (by decide) (fun K hK => ?_)
                        refine goes_ Try.func39 (by kernel_rfl) rfl #[.agg #[.slice Ao73 t104.length co74, .slice Ao76 t107.length co77, .int .i64 t110, .slice Ao79 t111.length co80], .agg #[.int .u32 t114, .int .i64 t115, .int .u32 t116, .int .u32 t117]] (by rfl) rfl rfl (by (try simp only [List.map_toArray, List.map_cons, List.map_nil]); first | done | rfl | (simp only [List.length_drop, List.length_take]; rfl)) ?_
                        with_reducible refine (spec_ApplyFrame.calls k _ _ t104 _ _ t107 t110 _ _ t111 t114 t115 t116 t117 t118 t119 t122 t125 t126 _ ((Kd.R_reads' F75.out).2.2) (R_capn F75.out) ((Kd.R_reads' F78.out).2.2) (R_capn F78.out) ((Kd.R_reads' F81.out).2.2) (R_capn F81.out) A26.out).mono ?_
                        rintro e wn_ ⟨vr3_, vr4_, vr5_, rfl, hvr3_, hvr4_, hvr5_, hb_⟩
                        refine ⟨_, rfl, ?_⟩
                        have F84 := Aside0.mk (Kd.R_lower hvr3_ HBs.out.size)
                        have F87 := Aside0.mk (Kd.R_lower hvr4_ HBs.out.size)
                        have F90 := Aside0.mk (Kd.R_lower hvr5_ HBs.out.size)
                        obtain ⟨Ao82, co83, eo_⟩ := Kd.R_slice F84.out
                        subst eo_
                        obtain ⟨Ao85, co86, eo_⟩ := Kd.R_slice F87.out
                        subst eo_
                        obtain ⟨Ao88, co89, eo_⟩ := Kd.R_slice F90.out
                        subst eo_
                        clear hvr3_ hvr4_ hvr5_
                        replace HBox := Aside0.mk ((hb_.block _ (blk_lt HBox.out)).trans HBox.out)
                        replace F75 := Aside0.mk (Kd.R_below F75.out hb_)
                        replace F78 := Aside0.mk (Kd.R_below F78.out hb_)
                        replace F81 := Aside0.mk (Kd.R_below F81.out hb_)
                        replace HBs := Aside0.mk (below_step HBs.out hb_)
                        replace HBw := Aside0.mk (below_step HBw.out hb_)
                        clear hb_
                        refine hK.out _ _ ⟨((HBs.out.block _ (blk_lt HXB0.out)).trans HXB0.out), ((HBs.out.block _ (blk_lt HXB1.out)).trans HXB1.out)⟩ (fun hHeld => ?_)
                        clear hK K
                        refine norm_ (a' := ?_) ?_ ?_
                        rotate_left
                        · show Act.put _ (some 22) _ = _
                          simp only [Act.put, List.setIfInBounds_toArray, List.set_cons_zero, List.set_cons_succ, i64_w, i32_w]
                          rfl
                        exact norm_ (by simp only [putAll, Act.put, List.setIfInBounds_toArray, List.set_cons_zero, List.set_cons_succ]) (hCont (gn_, .slice Ao73 t104.length co74, .slice Ao76 t107.length co77, .slice Ao79 t111.length co80, .slice Ao82 t119.length co83, .slice Ao85 t122.length co86, .slice Ao88 t126.length co89) _ ⟨hHeld, HBs.out, HGn.out, HBox.out, F84.out, F87.out, F90.out⟩)
                    · skip
                      refine box_step ?hg (N := 6) ?hd (cs := #[.bool false, .slice none 0 0, .slice none 0 0, .int .i64 0, .slice none 0 0]) (t := 64) ?hr ?_; (case hd => rfl); (case hg => rfl); (case hr => first | (go_simp; done) | (go_simp; rfl))
                      intro gn_ hg_ wn_ hbox_ hb_
                      have HGn := Aside0.mk (show w70.heap.size ≤ gn_ from by rw [hg_]; exact HBs.out.size)
                      have HBox := Aside0.mk hbox_
                      replace HBs := Aside0.mk (below_step HBs.out hb_)
                      replace HBw := Aside0.mk (below_step HBw.out hb_)
                      clear hg_ hbox_ hb_
                      refine hK.out _ _ ⟨((HBs.out.block _ (blk_lt HXB0.out)).trans HXB0.out), ((HBs.out.block _ (blk_lt HXB1.out)).trans HXB1.out)⟩ (fun hHeld => ?_)
                      clear hK K
                      refine norm_ (a' := ?_) ?_ ?_
                      rotate_left
                      · show Act.put _ (some 6) _ = _
                        simp only [Act.put, List.setIfInBounds_toArray, List.set_cons_zero, List.set_cons_succ, i64_w, i32_w]
                        rfl
                      refine one_ (i := 1) (N := some 19) #[true, true, true, false, false, true, false] rfl rfl (by kernel_rfl) (by decide) (fun K hK => ?_)
                      refine goes_ Try.func40 (by kernel_rfl) rfl #[.agg #[.slice A0_0 l0_0.length c0_0, .slice A0_1 l0_1.length c0_1, .int .i64 a0_2, .slice A0_3 l0_3.length c0_3]] (by rfl) rfl rfl (by (try simp only [List.map_toArray, List.map_cons, List.map_nil]); first | done | rfl | (simp only [List.length_drop, List.length_take]; rfl)) ?_
                      with_reducible refine (laws_toState.calls k _ _ l0_0 _ _ l0_1 a0_2 _ _ l0_3 t104 t107 t110 t111 _ (Kd.C_below HR0_0.out HBw.out) (HC0_0.out) (Kd.C_below HR0_1.out HBw.out) (HC0_1.out) (Kd.C_below HR0_3.out HBw.out) (HC0_3.out) A24.out).mono ?_
                      rintro e wn_ ⟨vr0_, vr1_, vr2_, rfl, hvr0_, hvr1_, hvr2_, hb_⟩
                      refine ⟨_, rfl, ?_⟩
                      have F75 := Aside0.mk (Kd.R_lower hvr0_ HBs.out.size)
                      have F78 := Aside0.mk (Kd.R_lower hvr1_ HBs.out.size)
                      have F81 := Aside0.mk (Kd.R_lower hvr2_ HBs.out.size)
                      obtain ⟨Ao73, co74, eo_⟩ := Kd.R_slice F75.out
                      subst eo_
                      obtain ⟨Ao76, co77, eo_⟩ := Kd.R_slice F78.out
                      subst eo_
                      obtain ⟨Ao79, co80, eo_⟩ := Kd.R_slice F81.out
                      subst eo_
                      clear hvr0_ hvr1_ hvr2_
                      replace HBox := Aside0.mk ((hb_.block _ (blk_lt HBox.out)).trans HBox.out)
                      replace HBs := Aside0.mk (below_step HBs.out hb_)
                      replace HBw := Aside0.mk (below_step HBw.out hb_)
                      clear hb_
                      refine hK.out _ _ ⟨((HBs.out.block _ (blk_lt HXB0.out)).trans HXB0.out), ((HBs.out.block _ (blk_lt HXB1.out)).trans HXB1.out)⟩ (fun hHeld => ?_)
                      clear hK K
                      refine norm_ (a' := ?_) ?_ ?_
                      rotate_left
                      · show Act.put _ (some 19) _ = _
                        simp only [Act.put, List.setIfInBounds_toArray, List.set_cons_zero, List.set_cons_succ, i64_w, i32_w]
                        rfl
                      refine one_ (i := 3) (N := some 21) #[true, true, true, true, false, true, false] rfl rfl (by kernel_rfl) (by decide) (fun K hK => ?_)
                      refine goes_ Try.func12 (by kernel_rfl) rfl #[.agg #[.int .u32 a1_0, .int .i64 a1_1, .int .u32 a1_2, .int .u32 a1_3]] (by rfl) rfl rfl (by (try simp only [List.map_toArray, List.map_cons, List.map_nil]); first | done | rfl | (simp only [List.length_drop, List.length_take]; rfl)) ?_
                      with_reducible refine (laws_toFrame.calls a1_0 a1_1 a1_2 a1_3 t114 t115 t116 t117 _  A25.out).mono ?_
                      rintro e wn_ ⟨rfl, hb_⟩
                      refine ⟨_, rfl, ?_⟩
                      replace HBox := Aside0.mk ((hb_.block _ (blk_lt HBox.out)).trans HBox.out)
                      replace F75 := Aside0.mk (Kd.R_below F75.out hb_)
                      replace F78 := Aside0.mk (Kd.R_below F78.out hb_)
                      replace F81 := Aside0.mk (Kd.R_below F81.out hb_)
                      replace HBs := Aside0.mk (below_step HBs.out hb_)
                      replace HBw := Aside0.mk (below_step HBw.out hb_)
                      clear hb_
                      refine hK.out _ _ ⟨((HBs.out.block _ (blk_lt HXB0.out)).trans HXB0.out), ((HBs.out.block _ (blk_lt HXB1.out)).trans HXB1.out)⟩ (fun hHeld => ?_)
                      clear hK K
                      refine norm_ (a' := ?_) ?_ ?_
                      rotate_left
                      · show Act.put _ (some 21) _ = _
                        simp only [Act.put, List.setIfInBounds_toArray, List.set_cons_zero, List.set_cons_succ, i64_w, i32_w]
                        rfl
                      refine one_ (i := 4) (N := some 22) #[true, true, true, true, true, true, false] rfl rfl (by kernel_rfl) (by decide) (fun K hK => ?_)
                      refine goes_ Try.func39 (by kernel_rfl) rfl #[.agg #[.slice Ao73 t104.length co74, .slice Ao76 t107.length co77, .int .i64 t110, .slice Ao79 t111.length co80], .agg #[.int .u32 t114, .int .i64 t115, .int .u32 t116, .int .u32 t117]] (by rfl) rfl rfl (by (try simp only [List.map_toArray, List.map_cons, List.map_nil]); first | done | rfl | (simp only [List.length_drop, List.length_take]; rfl)) ?_
                      with_reducible refine (spec_ApplyFrame.calls k _ _ t104 _ _ t107 t110 _ _ t111 t114 t115 t116 t117 t118 t119 t122 t125 t126 _ ((Kd.R_reads' F75.out).2.2) (R_capn F75.out) ((Kd.R_reads' F78.out).2.2) (R_capn F78.out) ((Kd.R_reads' F81.out).2.2) (R_capn F81.out) A26.out).mono ?_
                      rintro e wn_ ⟨vr3_, vr4_, vr5_, rfl, hvr3_, hvr4_, hvr5_, hb_⟩
                      refine ⟨_, rfl, ?_⟩
                      have F84 := Aside0.mk (Kd.R_lower hvr3_ HBs.out.size)
                      have F87 := Aside0.mk (Kd.R_lower hvr4_ HBs.out.size)
                      have F90 := Aside0.mk (Kd.R_lower hvr5_ HBs.out.size)
                      obtain ⟨Ao82, co83, eo_⟩ := Kd.R_slice F84.out
                      subst eo_
                      obtain ⟨Ao85, co86, eo_⟩ := Kd.R_slice F87.out
                      subst eo_
                      obtain ⟨Ao88, co89, eo_⟩ := Kd.R_slice F90.out
                      subst eo_
                      clear hvr3_ hvr4_ hvr5_
                      replace HBox := Aside0.mk ((hb_.block _ (blk_lt HBox.out)).trans HBox.out)
                      replace F75 := Aside0.mk (Kd.R_below F75.out hb_)
                      replace F78 := Aside0.mk (Kd.R_below F78.out hb_)
                      replace F81 := Aside0.mk (Kd.R_below F81.out hb_)
                      replace HBs := Aside0.mk (below_step HBs.out hb_)
                      replace HBw := Aside0.mk (below_step HBw.out hb_)
                      clear hb_
                      refine hK.out _ _ ⟨((HBs.out.block _ (blk_lt HXB0.out)).trans HXB0.out), ((HBs.out.block _ (blk_lt HXB1.out)).trans HXB1.out)⟩ (fun hHeld => ?_)
                      clear hK K
                      refine norm_ (a' := ?_) ?_ ?_
                      rotate_left
                      · show Act.put _ (some 22) _ = _
                        simp only [Act.put, List.setIfInBounds_toArray, List.set_cons_zero, List.set_cons_succ, i64_w, i32_w]
                        rfl
                      exact norm_ (by simp only [putAll, Act.put, List.setIfInBounds_toArray, List.set_cons_zero, List.set_cons_succ]) (hCont (gn_, .slice Ao73 t104.length co74, .slice Ao76 t107.length co77, .slice Ao79 t111.length co80, .slice Ao82 t119.length co83, .slice Ao85 t122.length co86, .slice Ao88 t126.length co89) _ ⟨hHeld, HBs.out, HGn.out, HBox.out, F84.out, F87.out, F90.out⟩)
                  rintro ⟨g91, vr0_, vr1_, vr2_, vr3_, vr4_, vr5_⟩ w92 ⟨hHeld, hB_, hG_, hbox_, hvr3_, hvr4_, hvr5_⟩
                  obtain ⟨Ao82, co83, eo_⟩ := Kd.R_slice hvr3_
                  subst eo_
                  obtain ⟨Ao85, co86, eo_⟩ := Kd.R_slice hvr4_
                  subst eo_
                  obtain ⟨Ao88, co89, eo_⟩ := Kd.R_slice hvr5_
                  subst eo_
                  have H93 := Aside0.mk (Hist.step H69.out hB_)
                  clear H69 hB_ HBs HBw HXB0 HXB1
                  refine norm_ (a' := ?_) ?_ ?_
                  rotate_left
                  · simp only [putAll, Act.put, List.setIfInBounds_toArray, List.set_cons_zero, List.set_cons_succ]
                    rfl
                  have G95 := Aside0.mk hG_
                  have L96 := Aside0.mk (blk_lt hbox_)
                  have HBox := Aside0.mk hbox_
                  have F84 := Aside0.mk (Kd.R_mono (Kd.R_bound hvr3_) (fun k_ hk_ => (⟨hk_.1, hk_.2.1, hk_.2.2.1⟩ : _ ∧ w70.heap.size ≤ k_ ∧ k_ < w92.heap.size)))
                  clear hvr3_
                  have F87 := Aside0.mk (Kd.R_mono (Kd.R_bound hvr4_) (fun k_ hk_ => (⟨hk_.1, hk_.2.1, hk_.2.2.1⟩ : _ ∧ w70.heap.size ≤ k_ ∧ k_ < w92.heap.size)))
                  clear hvr4_
                  have F90 := Aside0.mk (Kd.R_mono (Kd.R_bound hvr5_) (fun k_ hk_ => (⟨hk_.1, hk_.2.1, hk_.2.2.1⟩ : _ ∧ w70.heap.size ≤ k_ ∧ k_ < w92.heap.size)))
                  clear hvr5_
                  clear hG_ hbox_
                  refine one_ (i := 6) (N := none) #[true, true, true, true, true, true, true] rfl rfl (by kernel_rfl) (by decide) (fun K hK => ?_)
                  refine st_step (by rfl) rfl rfl ?hp (cs := #[.bool t118, .slice Ao82 t119.length co83, .slice Ao85 t122.length co86, .int .i64 t125, .slice Ao88 t126.length co89]) ?hx HBox.out (by kernel_rfl) rfl (by simp [Value.oneCell']) ?_
                  case hp => rfl
                  case hx => rfl
                  intro w97 hbx_ hs_
                  have n_ := Aside0.mk (R_other F84.out HBox.out (by decide) hs_)
                  clear F84
                  have F84 := n_
                  clear n_
                  have n_ := Aside0.mk (R_other F87.out HBox.out (by decide) hs_)
                  clear F87
                  have F87 := n_
                  clear n_
                  have n_ := Aside0.mk (R_other F90.out HBox.out (by decide) hs_)
                  clear F90
                  have F90 := n_
                  clear n_
                  have H98 : Aside0 (Hist w [(w97, w70.heap.size, w92.heap.size), (w58, w49.heap.size, w58.heap.size), (w49, w.heap.size, w49.heap.size)] w97) := ⟨Hist.mark' (w := w92) (b := w70.heap.size) (t := w92.heap.size) (l1 := []) (l2 := [(w58, w49.heap.size, w58.heap.size), (w49, w.heap.size, w49.heap.size)]) (by simp only [List.cons_append, List.nil_append]) (by simp only [List.cons_append, List.nil_append]) H93.out hs_ (fun k_ hk_ => by rw [hk_]; exact ⟨G95.out, L96.out⟩)⟩
                  have B94 := Aside0.mk hbx_
                  clear H93 hs_ hbx_ HBox
                  refine hK.out _ _ ⟨(blk_fix2 B54.out ⟨G55.out, L56.out⟩ H98.out.fixes.tl.tl.hd), (blk_fix2 B63.out ⟨G64.out, L65.out⟩ H98.out.fixes.tl.hd)⟩ (fun hHeld => ?_)
                  clear hK K
                  refine done_ (by kernel_rfl) ?_
                  try dsimp only
                  go_wp2_with (first | ((with_reducible refine gate_dst (N := 23) rfl ?_); refine ld ?hw rfl ?hx (blk_fix2 B54.out ⟨G55.out, L56.out⟩ H98.out.fixes.tl.tl.hd) Try.underlying58 rfl (by kernel_rfl) ?_; (case hw => rfl); (case hx => rfl); refine normL (a' := ?_) ?hn ?_; (case hn => first | (simp only [Act.put, List.setIfInBounds_toArray, List.set_cons_zero, List.set_cons_succ]; rfl) | rfl)) | (((with_reducible refine gate_callee (f := 40) rfl ?_)); refine goesW (some 24) rfl ?hw Try.func40 (by kernel_rfl) rfl #[.agg #[.slice A0_0 l0_0.length c0_0, .slice A0_1 l0_1.length c0_1, .int .i64 a0_2, .slice A0_3 l0_3.length c0_3]] rfl (by (try simp only [List.map_toArray, List.map_cons, List.map_nil]); first | done | rfl | (simp only [List.length_drop, List.length_take]; rfl)) ?_; (case hw => rfl); with_reducible refine (laws_toState.calls k _ _ l0_0 _ _ l0_1 a0_2 _ _ l0_3 t130 t133 t136 t137 _ ?side1 ?side2 ?side3 ?side4 ?side5 ?side6 A27.out).mono ?_; (case side1 => exact Kd.C_below HR0_0.out H98.out.below); (case side2 => exact HC0_0.out); (case side3 => exact Kd.C_below HR0_1.out H98.out.below); (case side4 => exact HC0_1.out); (case side5 => exact Kd.C_below HR0_3.out H98.out.below); (case side6 => exact HC0_3.out); rintro e w99 ⟨v100, v101, v102, rfl, ho103, ho104, ho105, hb106⟩; refine ⟨_, rfl, ?_⟩; have H107 := Aside0.mk (Hist.step H98.out hb106); clear H98; clear hb106; have F110 := Aside0.mk ho103; clear ho103; have F114 := Aside0.mk ho104; clear ho104; have F118 := Aside0.mk ho105; clear ho105; obtain ⟨Ao108, co109, eo120⟩ := Kd.R_slice F110.out; (first | subst eo120 | (injection eo120 with f1_ f2_ f3_; have f4_ := f1_.symm; have f5_ := f3_.symm; clear f1_ f2_ f3_; subst f4_; subst f5_)); obtain ⟨Ao112, co113, eo121⟩ := Kd.R_slice F114.out; (first | subst eo121 | (injection eo121 with f1_ f2_ f3_; have f4_ := f1_.symm; have f5_ := f3_.symm; clear f1_ f2_ f3_; subst f4_; subst f5_)); obtain ⟨Ao116, co117, eo122⟩ := Kd.R_slice F118.out; (first | subst eo122 | (injection eo122 with f1_ f2_ f3_; have f4_ := f1_.symm; have f5_ := f3_.symm; clear f1_ f2_ f3_; subst f4_; subst f5_)); refine normL (a' := ?_) ?hn ?_; (case hn => first | (simp only [Act.put, List.setIfInBounds_toArray, List.set_cons_zero, List.set_cons_succ]; rfl) | rfl)) | ((with_reducible refine gate_dst (N := 7) rfl ?_); refine mk ?hw (N := 7) ?hd (cs := #[.slice none 0 0, .slice none 0 0, .int .i64 0, .slice none 0 0]) (t := 62) ?hr ?_; (case hd => rfl); (case hw => rfl); (case hr => first | (go_simp; done) | (go_simp; rfl)); intro g123 hg127 w124 hbox126 hb125; have H128 := Aside0.mk (Hist.step H107.out hb125); clear H107; have B129 := Aside0.mk hbox126; have G130 := Aside0.mk (Nat.le_of_eq hg127.symm); have L131 := Aside0.mk (blk_lt hbox126); clear hb125 hbox126 hg127; refine normL (a' := ?_) ?hn ?_; (case hn => first | (simp only [Act.put, List.setIfInBounds_toArray, List.set_cons_zero, List.set_cons_succ]; rfl) | rfl)) | ((with_reducible refine gate_store (t := 62) (p := 7) rfl ?_); refine st_all ?hw ?hN rfl ?hp (cs := #[.slice Ao108 t130.length co109, .slice Ao112 t133.length co113, .int .i64 t136, .slice Ao116 t137.length co117]) ?hx (blk_fix2 B129.out ⟨G130.out, L131.out⟩ H128.out.fixes.hd) (by kernel_rfl) rfl (by simp [Value.oneCell']) ?_; (case hw => rfl); (case hN => rfl); (case hp => rfl); (case hx => rfl); intro w132 hbox133 hs134; have H135 : Aside0 (Hist w [(w132, w99.heap.size, w124.heap.size), (w99, w97.heap.size, w99.heap.size), (w97, w70.heap.size, w92.heap.size), (w58, w49.heap.size, w58.heap.size), (w49, w.heap.size, w49.heap.size)] w132) := ⟨Hist.mark' (w := w124) (b := w99.heap.size) (t := w124.heap.size) (l1 := []) (l2 := [(w99, w97.heap.size, w99.heap.size), (w97, w70.heap.size, w92.heap.size), (w58, w49.heap.size, w58.heap.size), (w49, w.heap.size, w49.heap.size)]) (by simp only [List.cons_append, List.nil_append]) (by simp only [List.cons_append, List.nil_append]) H128.out hs134 (fun k_ hk_ => by rw [hk_]; exact ⟨G130.out, L131.out⟩)⟩; have B129n := Aside0.mk hbox133; clear hs134 hbox133 H128 B129; have B129 := B129n; clear B129n))
                  have H136 := Aside0.mk (Hist.drew H135.out)
                  clear H135
                  refine start_ (n := 6) (S := fun w' => w'.heap[g123]? = some (.cells #[.slice Ao108 t130.length co109, .slice Ao112 t133.length co113, .int .i64 t136, .slice Ao116 t137.length co117] 62 (0, 0)) ∧ w'.heap[g57]? = some (.cells #[.int .u32 a1_0, .int .i64 a1_1, .int .u32 a1_2, .int .u32 a1_3] 24 (0, 0))) (ds := []) #[false, false, false, false, false, false] (by kernel_rfl) rfl rfl ⟨(blk_fix2 B129.out ⟨G130.out, L131.out⟩ H136.out.fixes.hd), (blk_fix2 B63.out ⟨G64.out, L65.out⟩ H136.out.fixes.tl.tl.tl.hd)⟩ (fun hHeld => ?_)
                  generalize w132.drew = w137 at H136 hHeld ⊢
                  refine take_ (i := 0) (N := some 25) (v := .agg #[.slice Ao108 t130.length co109, .slice Ao112 t133.length co113, .int .i64 t136, .slice Ao116 t137.length co117]) (a' := ?aaq138) #[true, false, false, false, false, false] rfl rfl (by kernel_rfl) (fun _ _ _ h => h) (Or.inl ⟨by rfl, ?ylq138⟩) hHeld ?haq138 ?hhq138
                  case ylq138 =>
                    rintro w' ⟨s0, s1⟩
                    exact ld_run (x := .tmp 7) (by rfl) (by rfl) s0 Try.underlying62 rfl (by kernel_rfl)
                  case haq138 =>
                    simp only [Act.put, List.setIfInBounds_toArray, List.set_cons_zero, List.set_cons_succ, i64_w, i32_w]
                    rfl
                  refine take_ (i := 1) (N := some 26) (v := .agg #[.int .u32 a1_0, .int .i64 a1_1, .int .u32 a1_2, .int .u32 a1_3]) (a' := ?aaq139) #[true, true, false, false, false, false] rfl rfl (by kernel_rfl) (fun _ _ _ h => h) (Or.inl ⟨by rfl, ?ylq139⟩) hHeld ?haq139 ?hhq139
                  case ylq139 =>
                    rintro w' ⟨s0, s1⟩
                    exact ld_run (x := .tmp 3) (by rfl) (by rfl) s1 Try.underlying24 rfl (by kernel_rfl)
                  case haq139 =>
                    simp only [Act.put, List.setIfInBounds_toArray, List.set_cons_zero, List.set_cons_succ, i64_w, i32_w]
                    rfl
                  have HXB0 := Aside0.mk (blk_fix2 B129.out ⟨G130.out, L131.out⟩ H136.out.fixes.hd)
                  have HXB1 := Aside0.mk (blk_fix2 B63.out ⟨G64.out, L65.out⟩ H136.out.fixes.tl.tl.tl.hd)
                  have HBs := Aside0.mk (Below.refl w137.heap.size w137)
                  have HBw := Aside0.mk H136.out.below
                  have HXR0 := Aside0.mk (And.intro (Kd.R_reads' (R_fix F110.out H136.out.fixes.tl.hd)).2.2 (R_capn (R_fix F110.out H136.out.fixes.tl.hd)))
                  have HXR1 := Aside0.mk (And.intro (Kd.R_reads' (R_fix F114.out H136.out.fixes.tl.hd)).2.2 (R_capn (R_fix F114.out H136.out.fixes.tl.hd)))
                  have HXR2 := Aside0.mk (And.intro (Kd.R_reads' (R_fix F118.out H136.out.fixes.tl.hd)).2.2 (R_capn (R_fix F118.out H136.out.fixes.tl.hd)))
                  refine join_ (σ := Nat × Value × Value × Value) 1 #[true, true, true, true, true, false] (fun s_ => [(27, (.agg #[.int .u32 t141, .int .i64 t142, .int .u32 t143, .int .u32 t144])), (28, (.agg #[.bool t145, s_.2.1, s_.2.2.1, .int .i64 t152, s_.2.2.2])), (8, .pointer (some ⟨s_.1, 0, none⟩))]) (fun s_ w' => (w'.heap[g123]? = some (.cells #[.slice Ao108 t130.length co109, .slice Ao112 t133.length co113, .int .i64 t136, .slice Ao116 t137.length co117] 62 (0, 0)) ∧ w'.heap[g57]? = some (.cells #[.int .u32 a1_0, .int .i64 a1_1, .int .u32 a1_2, .int .u32 a1_3] 24 (0, 0))) ∧ (Below w137.heap.size w137 w') ∧ (w137.heap.size ≤ s_.1) ∧ (w'.heap[s_.1]? = some (.cells #[.bool false, .slice none 0 0, .slice none 0 0, .int .i64 0, .slice none 0 0] 64 (0, 0))) ∧ (Kd.R (Kd.int .i64) 2 w' w137.heap.size (fun k_ => some k_ ≠ (s_.2.2.1 : Value).ownBlock) s_.2.1 t146) ∧ (Kd.R (Kd.int .i64) 2 w' w137.heap.size (fun k_ => some k_ ≠ (s_.2.1 : Value).ownBlock) s_.2.2.1 t149) ∧ (Kd.R k111 111 w' w137.heap.size (fun _ => True) s_.2.2.2 t153)) ?_ ?_
                  rotate_left
                  · intro hCont
                    refine two_ (i := 2) (j := 4) (Ni := some 27) (Nj := some 8) #[true, true, true, false, false, false] #[true, true, false, false, true, false] rfl rfl rfl rfl (by kernel_rfl) (by decide) (by decide) (fun K hK => ?_) (fun K hK => ?_)
                    · skip
                      refine goes_ Try.func12 (by kernel_rfl) rfl #[.agg #[.int .u32 a1_0, .int .i64 a1_1, .int .u32 a1_2, .int .u32 a1_3]] (by rfl) rfl rfl (by (try simp only [List.map_toArray, List.map_cons, List.map_nil]); first | done | rfl | (simp only [List.length_drop, List.length_take]; rfl)) ?_
                      with_reducible refine (laws_toFrame.calls a1_0 a1_1 a1_2 a1_3 t141 t142 t143 t144 _  A28.out).mono ?_
                      rintro e wn_ ⟨rfl, hb_⟩
                      refine ⟨_, rfl, ?_⟩
                      replace HBs := Aside0.mk (below_step HBs.out hb_)
                      replace HBw := Aside0.mk (below_step HBw.out hb_)
                      clear hb_
                      refine hK.out _ _ ⟨((HBs.out.block _ (blk_lt HXB0.out)).trans HXB0.out), ((HBs.out.block _ (blk_lt HXB1.out)).trans HXB1.out)⟩ (fun hHeld => ?_)
                      clear hK K
                      refine norm_ (a' := ?_) ?_ ?_
                      rotate_left
                      · show Act.put _ (some 27) _ = _
                        simp only [Act.put, List.setIfInBounds_toArray, List.set_cons_zero, List.set_cons_succ, i64_w, i32_w]
                        rfl
                      refine two_ (i := 3) (j := 4) (Ni := some 28) (Nj := some 8) #[true, true, true, true, false, false] #[true, true, true, false, true, false] rfl rfl rfl rfl (by kernel_rfl) (by decide) (by decide) (fun K hK => ?_) (fun K hK => ?_)
                      · skip
                        refine goes_ Try.func41 (by kernel_rfl) rfl #[.agg #[.slice Ao108 t130.length co109, .slice Ao112 t133.length co113, .int .i64 t136, .slice Ao116 t137.length co117], .agg #[.int .u32 t141, .int .i64 t142, .int .u32 t143, .int .u32 t144]] (by rfl) rfl rfl (by (try simp only [List.map_toArray, List.map_cons, List.map_nil]); first | done | rfl | (simp only [List.length_drop, List.length_take]; rfl)) ?_
                        with_reducible refine (impl_ApplyFrame.calls _ _ t130 _ _ t133 t136 _ _ t137 t141 t142 t143 t144 t145 t146 t149 t152 t153 _ (Kd.C_below HXR0.out.1 HBs.out) (HXR0.out.2) (Kd.C_below HXR1.out.1 HBs.out) (HXR1.out.2) (Kd.C_below HXR2.out.1 HBs.out) (HXR2.out.2) A29.out).mono ?_
                        rintro e wn_ ⟨vr0_, vr1_, vr2_, rfl, hvr0_, hvr1_, hvr2_, hb_⟩
                        refine ⟨_, rfl, ?_⟩
                        have F142 := Aside0.mk (Kd.R_lower hvr0_ HBs.out.size)
                        have F145 := Aside0.mk (Kd.R_lower hvr1_ HBs.out.size)
                        have F148 := Aside0.mk (Kd.R_lower hvr2_ HBs.out.size)
                        obtain ⟨Ao140, co141, eo_⟩ := Kd.R_slice F142.out
                        subst eo_
                        obtain ⟨Ao143, co144, eo_⟩ := Kd.R_slice F145.out
                        subst eo_
                        obtain ⟨Ao146, co147, eo_⟩ := Kd.R_slice F148.out
                        subst eo_
                        clear hvr0_ hvr1_ hvr2_
                        replace HBs := Aside0.mk (below_step HBs.out hb_)
                        replace HBw := Aside0.mk (below_step HBw.out hb_)
                        clear hb_
                        refine hK.out _ _ ⟨((HBs.out.block _ (blk_lt HXB0.out)).trans HXB0.out), ((HBs.out.block _ (blk_lt HXB1.out)).trans HXB1.out)⟩ (fun hHeld => ?_)
                        clear hK K
                        refine norm_ (a' := ?_) ?_ ?_
                        rotate_left
                        · show Act.put _ (some 28) _ = _
                          simp only [Act.put, List.setIfInBounds_toArray, List.set_cons_zero, List.set_cons_succ, i64_w, i32_w]
                          rfl
                        refine one_ (i := 4) (N := some 8) #[true, true, true, true, true, false] rfl rfl (by kernel_rfl) (by decide) (fun K hK => ?_)
                        refine box_step ?hg (N := 8) ?hd (cs := #[.bool false, .slice none 0 0, .slice none 0 0, .int .i64 0, .slice none 0 0]) (t := 64) ?hr ?_; (case hd => rfl); (case hg => rfl); (case hr => first | (go_simp; done) | (go_simp; rfl))
                        intro gn_ hg_ wn_ hbox_ hb_
                        have HGn := Aside0.mk (show w137.heap.size ≤ gn_ from by rw [hg_]; exact HBs.out.size)
                        have HBox := Aside0.mk hbox_
                        replace F142 := Aside0.mk (Kd.R_below F142.out hb_)
                        replace F145 := Aside0.mk (Kd.R_below F145.out hb_)
                        replace F148 := Aside0.mk (Kd.R_below F148.out hb_)
                        replace HBs := Aside0.mk (below_step HBs.out hb_)
                        replace HBw := Aside0.mk (below_step HBw.out hb_)
                        clear hg_ hbox_ hb_
                        refine hK.out _ _ ⟨((HBs.out.block _ (blk_lt HXB0.out)).trans HXB0.out), ((HBs.out.block _ (blk_lt HXB1.out)).trans HXB1.out)⟩ (fun hHeld => ?_)
                        clear hK K
                        refine norm_ (a' := ?_) ?_ ?_
                        rotate_left
                        · show Act.put _ (some 8) _ = _
                          simp only [Act.put, List.setIfInBounds_toArray, List.set_cons_zero, List.set_cons_succ, i64_w, i32_w]
                          rfl
                        exact norm_ (by simp only [putAll, Act.put, List.setIfInBounds_toArray, List.set_cons_zero, List.set_cons_succ]) (hCont (gn_, .slice Ao140 t146.length co141, .slice Ao143 t149.length co144, .slice Ao146 t153.length co147) _ ⟨hHeld, HBs.out, HGn.out, HBox.out, F142.out, F145.out, F148.out⟩)
                      · skip
                        refine box_step ?hg (N := 8) ?hd (cs := #[.bool false, .slice none 0 0, .slice none 0 0, .int .i64 0, .slice none 0 0]) (t := 64) ?hr ?_; (case hd => rfl); (case hg => rfl); (case hr => first | (go_simp; done) | (go_simp; rfl))
                        intro gn_ hg_ wn_ hbox_ hb_
                        have HGn := Aside0.mk (show w137.heap.size ≤ gn_ from by rw [hg_]; exact HBs.out.size)
                        have HBox := Aside0.mk hbox_
                        replace HBs := Aside0.mk (below_step HBs.out hb_)
                        replace HBw := Aside0.mk (below_step HBw.out hb_)
                        clear hg_ hbox_ hb_
                        refine hK.out _ _ ⟨((HBs.out.block _ (blk_lt HXB0.out)).trans HXB0.out), ((HBs.out.block _ (blk_lt HXB1.out)).trans HXB1.out)⟩ (fun hHeld => ?_)
                        clear hK K
                        refine norm_ (a' := ?_) ?_ ?_
                        rotate_left
                        · show Act.put _ (some 8) _ = _
                          simp only [Act.put, List.setIfInBounds_toArray, List.set_cons_zero, List.set_cons_succ, i64_w, i32_w]
                          rfl
                        refine one_ (i := 3) (N := some 28) #[true, true, true, true, true, false] rfl rfl (by kernel_rfl) (by decide) (fun K hK => ?_)
                        refine goes_ Try.func41 (by kernel_rfl) rfl #[.agg #[.slice Ao108 t130.length co109, .slice Ao112 t133.length co113, .int .i64 t136, .slice Ao116 t137.length co117], .agg #[.int .u32 t141, .int .i64 t142, .int .u32 t143, .int .u32 t144]] (by rfl) rfl rfl (by (try simp only [List.map_toArray, List.map_cons, List.map_nil]); first | done | rfl | (simp only [List.length_drop, List.length_take]; rfl)) ?_
                        with_reducible refine (impl_ApplyFrame.calls _ _ t130 _ _ t133 t136 _ _ t137 t141 t142 t143 t144 t145 t146 t149 t152 t153 _ (Kd.C_below HXR0.out.1 HBs.out) (HXR0.out.2) (Kd.C_below HXR1.out.1 HBs.out) (HXR1.out.2) (Kd.C_below HXR2.out.1 HBs.out) (HXR2.out.2) A29.out).mono ?_
                        rintro e wn_ ⟨vr0_, vr1_, vr2_, rfl, hvr0_, hvr1_, hvr2_, hb_⟩
                        refine ⟨_, rfl, ?_⟩
                        have F142 := Aside0.mk (Kd.R_lower hvr0_ HBs.out.size)
                        have F145 := Aside0.mk (Kd.R_lower hvr1_ HBs.out.size)
                        have F148 := Aside0.mk (Kd.R_lower hvr2_ HBs.out.size)
                        obtain ⟨Ao140, co141, eo_⟩ := Kd.R_slice F142.out
                        subst eo_
                        obtain ⟨Ao143, co144, eo_⟩ := Kd.R_slice F145.out
                        subst eo_
                        obtain ⟨Ao146, co147, eo_⟩ := Kd.R_slice F148.out
                        subst eo_
                        clear hvr0_ hvr1_ hvr2_
                        replace HBox := Aside0.mk ((hb_.block _ (blk_lt HBox.out)).trans HBox.out)
                        replace HBs := Aside0.mk (below_step HBs.out hb_)
                        replace HBw := Aside0.mk (below_step HBw.out hb_)
                        clear hb_
                        refine hK.out _ _ ⟨((HBs.out.block _ (blk_lt HXB0.out)).trans HXB0.out), ((HBs.out.block _ (blk_lt HXB1.out)).trans HXB1.out)⟩ (fun hHeld => ?_)
                        clear hK K
                        refine norm_ (a' := ?_) ?_ ?_
                        rotate_left
                        · show Act.put _ (some 28) _ = _
                          simp only [Act.put, List.setIfInBounds_toArray, List.set_cons_zero, List.set_cons_succ, i64_w, i32_w]
                          rfl
                        exact norm_ (by simp only [putAll, Act.put, List.setIfInBounds_toArray, List.set_cons_zero, List.set_cons_succ]) (hCont (gn_, .slice Ao140 t146.length co141, .slice Ao143 t149.length co144, .slice Ao146 t153.length co147) _ ⟨hHeld, HBs.out, HGn.out, HBox.out, F142.out, F145.out, F148.out⟩)
                    · skip
                      refine box_step ?hg (N := 8) ?hd (cs := #[.bool false, .slice none 0 0, .slice none 0 0, .int .i64 0, .slice none 0 0]) (t := 64) ?hr ?_; (case hd => rfl); (case hg => rfl); (case hr => first | (go_simp; done) | (go_simp; rfl))
                      intro gn_ hg_ wn_ hbox_ hb_
                      have HGn := Aside0.mk (show w137.heap.size ≤ gn_ from by rw [hg_]; exact HBs.out.size)
                      have HBox := Aside0.mk hbox_
                      replace HBs := Aside0.mk (below_step HBs.out hb_)
                      replace HBw := Aside0.mk (below_step HBw.out hb_)
                      clear hg_ hbox_ hb_
                      refine hK.out _ _ ⟨((HBs.out.block _ (blk_lt HXB0.out)).trans HXB0.out), ((HBs.out.block _ (blk_lt HXB1.out)).trans HXB1.out)⟩ (fun hHeld => ?_)
                      clear hK K
                      refine norm_ (a' := ?_) ?_ ?_
                      rotate_left
                      · show Act.put _ (some 8) _ = _
                        simp only [Act.put, List.setIfInBounds_toArray, List.set_cons_zero, List.set_cons_succ, i64_w, i32_w]
                        rfl
                      refine one_ (i := 2) (N := some 27) #[true, true, true, false, true, false] rfl rfl (by kernel_rfl) (by decide) (fun K hK => ?_)
                      refine goes_ Try.func12 (by kernel_rfl) rfl #[.agg #[.int .u32 a1_0, .int .i64 a1_1, .int .u32 a1_2, .int .u32 a1_3]] (by rfl) rfl rfl (by (try simp only [List.map_toArray, List.map_cons, List.map_nil]); first | done | rfl | (simp only [List.length_drop, List.length_take]; rfl)) ?_
                      with_reducible refine (laws_toFrame.calls a1_0 a1_1 a1_2 a1_3 t141 t142 t143 t144 _  A28.out).mono ?_
                      rintro e wn_ ⟨rfl, hb_⟩
                      refine ⟨_, rfl, ?_⟩
                      replace HBox := Aside0.mk ((hb_.block _ (blk_lt HBox.out)).trans HBox.out)
                      replace HBs := Aside0.mk (below_step HBs.out hb_)
                      replace HBw := Aside0.mk (below_step HBw.out hb_)
                      clear hb_
                      refine hK.out _ _ ⟨((HBs.out.block _ (blk_lt HXB0.out)).trans HXB0.out), ((HBs.out.block _ (blk_lt HXB1.out)).trans HXB1.out)⟩ (fun hHeld => ?_)
                      clear hK K
                      refine norm_ (a' := ?_) ?_ ?_
                      rotate_left
                      · show Act.put _ (some 27) _ = _
                        simp only [Act.put, List.setIfInBounds_toArray, List.set_cons_zero, List.set_cons_succ, i64_w, i32_w]
                        rfl
                      refine one_ (i := 3) (N := some 28) #[true, true, true, true, true, false] rfl rfl (by kernel_rfl) (by decide) (fun K hK => ?_)
                      refine goes_ Try.func41 (by kernel_rfl) rfl #[.agg #[.slice Ao108 t130.length co109, .slice Ao112 t133.length co113, .int .i64 t136, .slice Ao116 t137.length co117], .agg #[.int .u32 t141, .int .i64 t142, .int .u32 t143, .int .u32 t144]] (by rfl) rfl rfl (by (try simp only [List.map_toArray, List.map_cons, List.map_nil]); first | done | rfl | (simp only [List.length_drop, List.length_take]; rfl)) ?_
                      with_reducible refine (impl_ApplyFrame.calls _ _ t130 _ _ t133 t136 _ _ t137 t141 t142 t143 t144 t145 t146 t149 t152 t153 _ (Kd.C_below HXR0.out.1 HBs.out) (HXR0.out.2) (Kd.C_below HXR1.out.1 HBs.out) (HXR1.out.2) (Kd.C_below HXR2.out.1 HBs.out) (HXR2.out.2) A29.out).mono ?_
                      rintro e wn_ ⟨vr0_, vr1_, vr2_, rfl, hvr0_, hvr1_, hvr2_, hb_⟩
                      refine ⟨_, rfl, ?_⟩
                      have F142 := Aside0.mk (Kd.R_lower hvr0_ HBs.out.size)
                      have F145 := Aside0.mk (Kd.R_lower hvr1_ HBs.out.size)
                      have F148 := Aside0.mk (Kd.R_lower hvr2_ HBs.out.size)
                      obtain ⟨Ao140, co141, eo_⟩ := Kd.R_slice F142.out
                      subst eo_
                      obtain ⟨Ao143, co144, eo_⟩ := Kd.R_slice F145.out
                      subst eo_
                      obtain ⟨Ao146, co147, eo_⟩ := Kd.R_slice F148.out
                      subst eo_
                      clear hvr0_ hvr1_ hvr2_
                      replace HBox := Aside0.mk ((hb_.block _ (blk_lt HBox.out)).trans HBox.out)
                      replace HBs := Aside0.mk (below_step HBs.out hb_)
                      replace HBw := Aside0.mk (below_step HBw.out hb_)
                      clear hb_
                      refine hK.out _ _ ⟨((HBs.out.block _ (blk_lt HXB0.out)).trans HXB0.out), ((HBs.out.block _ (blk_lt HXB1.out)).trans HXB1.out)⟩ (fun hHeld => ?_)
                      clear hK K
                      refine norm_ (a' := ?_) ?_ ?_
                      rotate_left
                      · show Act.put _ (some 28) _ = _
                        simp only [Act.put, List.setIfInBounds_toArray, List.set_cons_zero, List.set_cons_succ, i64_w, i32_w]
                        rfl
                      exact norm_ (by simp only [putAll, Act.put, List.setIfInBounds_toArray, List.set_cons_zero, List.set_cons_succ]) (hCont (gn_, .slice Ao140 t146.length co141, .slice Ao143 t149.length co144, .slice Ao146 t153.length co147) _ ⟨hHeld, HBs.out, HGn.out, HBox.out, F142.out, F145.out, F148.out⟩)
                  rintro ⟨g149, vr0_, vr1_, vr2_⟩ w150 ⟨hHeld, hB_, hG_, hbox_, hvr0_, hvr1_, hvr2_⟩
                  obtain ⟨Ao140, co141, eo_⟩ := Kd.R_slice hvr0_
                  subst eo_
                  obtain ⟨Ao143, co144, eo_⟩ := Kd.R_slice hvr1_
                  subst eo_
                  obtain ⟨Ao146, co147, eo_⟩ := Kd.R_slice hvr2_
                  subst eo_
                  have H151 := Aside0.mk (Hist.step H136.out hB_)
                  clear H136 hB_ HBs HBw HXB0 HXB1 HXR0 HXR1 HXR2
                  refine norm_ (a' := ?_) ?_ ?_
                  rotate_left
                  · simp only [putAll, Act.put, List.setIfInBounds_toArray, List.set_cons_zero, List.set_cons_succ]
                    rfl
                  have G153 := Aside0.mk hG_
                  have L154 := Aside0.mk (blk_lt hbox_)
                  have HBox := Aside0.mk hbox_
                  have F142 := Aside0.mk (Kd.R_mono (Kd.R_bound hvr0_) (fun k_ hk_ => (⟨hk_.1, hk_.2.1, hk_.2.2.1⟩ : _ ∧ w137.heap.size ≤ k_ ∧ k_ < w150.heap.size)))
                  clear hvr0_
                  have F145 := Aside0.mk (Kd.R_mono (Kd.R_bound hvr1_) (fun k_ hk_ => (⟨hk_.1, hk_.2.1, hk_.2.2.1⟩ : _ ∧ w137.heap.size ≤ k_ ∧ k_ < w150.heap.size)))
                  clear hvr1_
                  have F148 := Aside0.mk (Kd.R_mono (Kd.R_bound hvr2_) (fun k_ hk_ => (⟨hk_.1, hk_.2.1, hk_.2.2.1⟩ : _ ∧ w137.heap.size ≤ k_ ∧ k_ < w150.heap.size)))
                  clear hvr2_
                  clear hG_ hbox_
                  refine one_ (i := 5) (N := none) #[true, true, true, true, true, true] rfl rfl (by kernel_rfl) (by decide) (fun K hK => ?_)
                  refine st_step (by rfl) rfl rfl ?hp (cs := #[.bool t145, .slice Ao140 t146.length co141, .slice Ao143 t149.length co144, .int .i64 t152, .slice Ao146 t153.length co147]) ?hx HBox.out (by kernel_rfl) rfl (by simp [Value.oneCell']) ?_
                  case hp => rfl
                  case hx => rfl
                  intro w155 hbx_ hs_
                  have n_ := Aside0.mk (R_other F142.out HBox.out (by decide) hs_)
                  clear F142
                  have F142 := n_
                  clear n_
                  have n_ := Aside0.mk (R_other F145.out HBox.out (by decide) hs_)
                  clear F145
                  have F145 := n_
                  clear n_
                  have n_ := Aside0.mk (R_other F148.out HBox.out (by decide) hs_)
                  clear F148
                  have F148 := n_
                  clear n_
                  have H156 : Aside0 (Hist w [(w155, w137.heap.size, w150.heap.size), (w132, w99.heap.size, w124.heap.size), (w99, w97.heap.size, w99.heap.size), (w97, w70.heap.size, w92.heap.size), (w58, w49.heap.size, w58.heap.size), (w49, w.heap.size, w49.heap.size)] w155) := ⟨Hist.mark' (w := w150) (b := w137.heap.size) (t := w150.heap.size) (l1 := []) (l2 := [(w132, w99.heap.size, w124.heap.size), (w99, w97.heap.size, w99.heap.size), (w97, w70.heap.size, w92.heap.size), (w58, w49.heap.size, w58.heap.size), (w49, w.heap.size, w49.heap.size)]) (by simp only [List.cons_append, List.nil_append]) (by simp only [List.cons_append, List.nil_append]) H151.out hs_ (fun k_ hk_ => by rw [hk_]; exact ⟨G153.out, L154.out⟩)⟩
                  have B152 := Aside0.mk hbx_
                  clear H151 hs_ hbx_ HBox
                  refine hK.out _ _ ⟨(blk_fix2 B129.out ⟨G130.out, L131.out⟩ H156.out.fixes.tl.hd), (blk_fix2 B63.out ⟨G64.out, L65.out⟩ H156.out.fixes.tl.tl.tl.tl.hd)⟩ (fun hHeld => ?_)
                  clear hK K
                  refine done_ (by kernel_rfl) ?_
                  try dsimp only
                  go_wp2_with (first | ((with_reducible refine gate_dst (N := 29) rfl ?_); refine ld ?hw rfl ?hx (blk_fix2 B152.out ⟨G153.out, L154.out⟩ H156.out.fixes.hd) Try.underlying64 rfl (by kernel_rfl) ?_; (case hw => rfl); (case hx => rfl); refine normL (a' := ?_) ?hn ?_; (case hn => first | (simp only [Act.put, List.setIfInBounds_toArray, List.set_cons_zero, List.set_cons_succ]; rfl) | rfl)) | ((with_reducible refine gate_dst (N := 30) rfl ?_); refine ld ?hw rfl ?hx (blk_fix2 B94.out ⟨G95.out, L96.out⟩ H156.out.fixes.tl.tl.tl.hd) Try.underlying64 rfl (by kernel_rfl) ?_; (case hw => rfl); (case hx => rfl); refine normL (a' := ?_) ?hn ?_; (case hn => first | (simp only [Act.put, List.setIfInBounds_toArray, List.set_cons_zero, List.set_cons_succ]; rfl) | rfl)) | (((with_reducible refine gate_callee (f := 42) rfl ?_)); refine goesW (some 31) rfl ?hw Try.func42 (by kernel_rfl) rfl #[.agg #[.bool t145, .slice Ao140 t146.length co141, .slice Ao143 t149.length co144, .int .i64 t152, .slice Ao146 t153.length co147], .agg #[.bool t118, .slice Ao82 t119.length co83, .slice Ao85 t122.length co86, .int .i64 t125, .slice Ao88 t126.length co89]] rfl (by (try simp only [List.map_toArray, List.map_cons, List.map_nil]); first | done | rfl | (simp only [List.length_drop, List.length_take]; rfl)) ?_; (case hw => rfl); with_reducible refine (laws_eqApplyRes.calls k t145 _ _ t146 _ _ t149 t152 _ _ t153 t118 _ _ t119 _ _ t122 t125 _ _ t126 true _ ?side1 ?side2 ?side3 ?side4 ?side5 ?side6 ?side7 ?side8 ?side9 ?side10 ?side11 ?side12 A30.out).mono ?_; (case side1 => exact (Kd.R_reads' (R_fix2 F142.out H156.out.fixes.hd)).2.2); (case side2 => exact R_capn (R_fix2 F142.out H156.out.fixes.hd)); (case side3 => exact (Kd.R_reads' (R_fix2 F145.out H156.out.fixes.hd)).2.2); (case side4 => exact R_capn (R_fix2 F145.out H156.out.fixes.hd)); (case side5 => exact (Kd.R_reads' (R_fix2 F148.out H156.out.fixes.hd)).2.2); (case side6 => exact R_capn (R_fix2 F148.out H156.out.fixes.hd)); (case side7 => exact (Kd.R_reads' (R_fix2 F84.out H156.out.fixes.tl.tl.tl.hd)).2.2); (case side8 => exact R_capn (R_fix2 F84.out H156.out.fixes.tl.tl.tl.hd)); (case side9 => exact (Kd.R_reads' (R_fix2 F87.out H156.out.fixes.tl.tl.tl.hd)).2.2); (case side10 => exact R_capn (R_fix2 F87.out H156.out.fixes.tl.tl.tl.hd)); (case side11 => exact (Kd.R_reads' (R_fix2 F90.out H156.out.fixes.tl.tl.tl.hd)).2.2); (case side12 => exact R_capn (R_fix2 F90.out H156.out.fixes.tl.tl.tl.hd)); rintro e w157 ⟨rfl, hb158⟩; refine ⟨_, rfl, ?_⟩; have H159 := Aside0.mk (Hist.pass H156.out hb158); clear H156; clear hb158; refine normL (a' := ?_) ?hn ?_; (case hn => first | (simp only [Act.put, List.setIfInBounds_toArray, List.set_cons_zero, List.set_cons_succ]; rfl) | rfl)))
                  have H160 := Aside0.mk (Hist.drew H159.out)
                  clear H159
                  refine start_ (n := 5) (S := fun w' => w'.heap[g123]? = some (.cells #[.slice Ao108 t130.length co109, .slice Ao112 t133.length co113, .int .i64 t136, .slice Ao116 t137.length co117] 62 (0, 0)) ∧ w'.heap[g48]? = some (.cells #[.slice A0_0 l0_0.length c0_0, .slice A0_1 l0_1.length c0_1, .int .i64 a0_2, .slice A0_3 l0_3.length c0_3] 58 (0, 0))) (ds := []) #[false, false, false, false, false] (by kernel_rfl) rfl rfl ⟨(blk_fix2 B129.out ⟨G130.out, L131.out⟩ H160.out.fixes.tl.hd), (blk_fix2 B54.out ⟨G55.out, L56.out⟩ H160.out.fixes.tl.tl.tl.tl.tl.hd)⟩ (fun hHeld => ?_)
                  generalize w157.drew = w161 at H160 hHeld ⊢
                  refine take_ (i := 0) (N := some 33) (v := .agg #[.slice Ao108 t130.length co109, .slice Ao112 t133.length co113, .int .i64 t136, .slice Ao116 t137.length co117]) (a' := ?aaq162) #[true, false, false, false, false] rfl rfl (by kernel_rfl) (fun _ _ _ h => h) (Or.inl ⟨by rfl, ?ylq162⟩) hHeld ?haq162 ?hhq162
                  case ylq162 =>
                    rintro w' ⟨s0, s1⟩
                    exact ld_run (x := .tmp 7) (by rfl) (by rfl) s0 Try.underlying62 rfl (by kernel_rfl)
                  case haq162 =>
                    simp only [Act.put, List.setIfInBounds_toArray, List.set_cons_zero, List.set_cons_succ, i64_w, i32_w]
                    rfl
                  refine take_ (i := 1) (N := some 34) (v := .agg #[.slice A0_0 l0_0.length c0_0, .slice A0_1 l0_1.length c0_1, .int .i64 a0_2, .slice A0_3 l0_3.length c0_3]) (a' := ?aaq163) #[true, true, false, false, false] rfl rfl (by kernel_rfl) (fun _ _ _ h => h) (Or.inl ⟨by rfl, ?ylq163⟩) hHeld ?haq163 ?hhq163
                  case ylq163 =>
                    rintro w' ⟨s0, s1⟩
                    exact ld_run (x := .tmp 2) (by rfl) (by rfl) s1 Try.underlying58 rfl (by kernel_rfl)
                  case haq163 =>
                    simp only [Act.put, List.setIfInBounds_toArray, List.set_cons_zero, List.set_cons_succ, i64_w, i32_w]
                    rfl
                  refine one_ (i := 2) (N := some 35) #[true, true, true, false, false] rfl rfl (by kernel_rfl) (by decide) (fun K hK => ?_)
                  refine goes_ Try.func40 (by kernel_rfl) rfl #[.agg #[.slice A0_0 l0_0.length c0_0, .slice A0_1 l0_1.length c0_1, .int .i64 a0_2, .slice A0_3 l0_3.length c0_3]] (by rfl) rfl rfl (by (try simp only [List.map_toArray, List.map_cons, List.map_nil]); first | done | rfl | (simp only [List.length_drop, List.length_take]; rfl)) ?_
                  with_reducible refine (laws_toState.calls k _ _ l0_0 _ _ l0_1 a0_2 _ _ l0_3 t158 t161 t164 t165 _ ?side1 ?side2 ?side3 ?side4 ?side5 ?side6 A32.out).mono ?_
                  (case side1 => exact Kd.C_below HR0_0.out H160.out.below)
                  (case side2 => exact HC0_0.out)
                  (case side3 => exact Kd.C_below HR0_1.out H160.out.below)
                  (case side4 => exact HC0_1.out)
                  (case side5 => exact Kd.C_below HR0_3.out H160.out.below)
                  (case side6 => exact HC0_3.out)
                  rintro e w164 ⟨v165, v166, v167, rfl, ho168, ho169, ho170, hb171⟩
                  refine ⟨_, rfl, ?_⟩
                  have H172 := Aside0.mk (Hist.step H160.out hb171)
                  clear H160
                  clear hb171
                  have F175 := Aside0.mk ho168
                  clear ho168
                  have F179 := Aside0.mk ho169
                  clear ho169
                  have F183 := Aside0.mk ho170
                  clear ho170
                  obtain ⟨Ao173, co174, eo185⟩ := Kd.R_slice F175.out
                  (first | subst eo185 | (injection eo185 with f1_ f2_ f3_; have f4_ := f1_.symm; have f5_ := f3_.symm; clear f1_ f2_ f3_; subst f4_; subst f5_))
                  obtain ⟨Ao177, co178, eo186⟩ := Kd.R_slice F179.out
                  (first | subst eo186 | (injection eo186 with f1_ f2_ f3_; have f4_ := f1_.symm; have f5_ := f3_.symm; clear f1_ f2_ f3_; subst f4_; subst f5_))
                  obtain ⟨Ao181, co182, eo187⟩ := Kd.R_slice F183.out
                  (first | subst eo187 | (injection eo187 with f1_ f2_ f3_; have f4_ := f1_.symm; have f5_ := f3_.symm; clear f1_ f2_ f3_; subst f4_; subst f5_))
                  refine hK.out _ _ ⟨(blk_fix2 B129.out ⟨G130.out, L131.out⟩ H172.out.fixes.tl.tl.hd), (blk_fix2 B54.out ⟨G55.out, L56.out⟩ H172.out.fixes.tl.tl.tl.tl.tl.tl.hd)⟩ (fun hHeld => ?_)
                  clear hK K
                  refine norm_ (a' := ?_) ?_ ?_
                  rotate_left
                  · show Act.put _ (some 35) _ = _
                    simp only [Act.put, List.setIfInBounds_toArray, List.set_cons_zero, List.set_cons_succ, i64_w, i32_w]
                    rfl
                  refine one_ (i := 3) (N := some 36) #[true, true, true, true, false] rfl rfl (by kernel_rfl) (by decide) (fun K hK => ?_)
                  refine goes_ Try.func43 (by kernel_rfl) rfl #[.agg #[.slice Ao108 t130.length co109, .slice Ao112 t133.length co113, .int .i64 t136, .slice Ao116 t137.length co117], .agg #[.slice Ao173 t158.length co174, .slice Ao177 t161.length co178, .int .i64 t164, .slice Ao181 t165.length co182]] (by rfl) rfl rfl (by (try simp only [List.map_toArray, List.map_cons, List.map_nil]); first | done | rfl | (simp only [List.length_drop, List.length_take]; rfl)) ?_
                  with_reducible refine (laws_eqState.calls k _ _ t130 _ _ t133 t136 _ _ t137 _ _ t158 _ _ t161 t164 _ _ t165 true _ ?side1 ?side2 ?side3 ?side4 ?side5 ?side6 ?side7 ?side8 ?side9 ?side10 ?side11 ?side12 A33.out).mono ?_
                  (case side1 => exact (Kd.R_reads' (R_fix F110.out H172.out.fixes.tl.tl.tl.hd)).2.2)
                  (case side2 => exact R_capn (R_fix F110.out H172.out.fixes.tl.tl.tl.hd))
                  (case side3 => exact (Kd.R_reads' (R_fix F114.out H172.out.fixes.tl.tl.tl.hd)).2.2)
                  (case side4 => exact R_capn (R_fix F114.out H172.out.fixes.tl.tl.tl.hd))
                  (case side5 => exact (Kd.R_reads' (R_fix F118.out H172.out.fixes.tl.tl.tl.hd)).2.2)
                  (case side6 => exact R_capn (R_fix F118.out H172.out.fixes.tl.tl.tl.hd))
                  (case side7 => exact (Kd.R_reads' (R_fix F175.out H172.out.fixes.hd)).2.2)
                  (case side8 => exact R_capn (R_fix F175.out H172.out.fixes.hd))
                  (case side9 => exact (Kd.R_reads' (R_fix F179.out H172.out.fixes.hd)).2.2)
                  (case side10 => exact R_capn (R_fix F179.out H172.out.fixes.hd))
                  (case side11 => exact (Kd.R_reads' (R_fix F183.out H172.out.fixes.hd)).2.2)
                  (case side12 => exact R_capn (R_fix F183.out H172.out.fixes.hd))
                  rintro e w188 ⟨rfl, hb189⟩
                  refine ⟨_, rfl, ?_⟩
                  have H190 := Aside0.mk (Hist.pass H172.out hb189)
                  clear H172
                  clear hb189
                  refine hK.out _ _ ⟨(blk_fix2 B129.out ⟨G130.out, L131.out⟩ H190.out.fixes.tl.tl.hd), (blk_fix2 B54.out ⟨G55.out, L56.out⟩ H190.out.fixes.tl.tl.tl.tl.tl.tl.hd)⟩ (fun hHeld => ?_)
                  clear hK K
                  refine norm_ (a' := ?_) ?_ ?_
                  rotate_left
                  · show Act.put _ (some 36) _ = _
                    simp only [Act.put, List.setIfInBounds_toArray, List.set_cons_zero, List.set_cons_succ, i64_w, i32_w]
                    rfl
                  refine pure_ (i := 4) (N := some 37) (v := ?_) (a' := ?_) #[true, true, true, true, true] rfl rfl (by kernel_rfl) (fun _ _ _ h => h) (Or.inl ⟨by rfl, ?_⟩) ?_ ?_
                  rotate_left
                  · intro w'
                    go_simp
                    with_reducible rfl
                  rotate_left
                  · simp only [Act.put, List.setIfInBounds_toArray, List.set_cons_zero, List.set_cons_succ, i64_w, i32_w]
                    rfl
                  refine done_ (by kernel_rfl) ?_
                  go_wp2_with (first | ((with_reducible refine gate_dst (N := 38) rfl ?_); refine ld ?hw rfl ?hx (blk_fix2 B129.out ⟨G130.out, L131.out⟩ H190.out.fixes.tl.tl.hd) Try.underlying62 rfl (by kernel_rfl) ?_; (case hw => rfl); (case hx => rfl); refine normL (a' := ?_) ?hn ?_; (case hn => first | (simp only [Act.put, List.setIfInBounds_toArray, List.set_cons_zero, List.set_cons_succ]; rfl) | rfl)) | (((with_reducible refine gate_callee (f := 44) rfl ?_)); refine goesW (some 40) rfl ?hw Try.func44 (by kernel_rfl) rfl #[.agg #[.slice Ao108 t130.length co109, .slice Ao112 t133.length co113, .int .i64 t136, .slice Ao116 t137.length co117], .int .i64 1] rfl (by (try simp only [List.map_toArray, List.map_cons, List.map_nil]); first | done | rfl | (simp only [List.length_drop, List.length_take]; rfl)) ?_; (case hw => rfl); with_reducible refine (mk_laws_markState (Fixes.at (w := w99) (b := w97.heap.size) (t := w99.heap.size) (l1 := [(w164, w161.heap.size, w164.heap.size), (w155, w137.heap.size, w150.heap.size), (w132, w99.heap.size, w124.heap.size)]) (l2 := [(w97, w70.heap.size, w92.heap.size), (w58, w49.heap.size, w58.heap.size), (w49, w.heap.size, w49.heap.size)]) (by simp only [List.cons_append, List.nil_append]) H190.out.fixes) (R_fix F110.out H190.out.fixes.tl.tl.tl.hd) (R_fix F114.out H190.out.fixes.tl.tl.tl.hd) (R_fix F118.out H190.out.fixes.tl.tl.tl.hd) (fun _ h_ => h_.1) (fun _ h_ => h_.1) A35.out).mono ?_; rintro e w191 ⟨rfl, hr193, hr194, hr195, hs192⟩; refine ⟨_, rfl, ?_⟩; have H196 : Aside0 (Hist w [(w164, w161.heap.size, w164.heap.size), (w155, w137.heap.size, w150.heap.size), (w132, w99.heap.size, w124.heap.size), (w191, w97.heap.size, w99.heap.size), (w97, w70.heap.size, w92.heap.size), (w58, w49.heap.size, w58.heap.size), (w49, w.heap.size, w49.heap.size)] w191) := ⟨Hist.mark' (w := w99) (b := w97.heap.size) (t := w99.heap.size) (l1 := [(w164, w161.heap.size, w164.heap.size), (w155, w137.heap.size, w150.heap.size), (w132, w99.heap.size, w124.heap.size)]) (l2 := [(w97, w70.heap.size, w92.heap.size), (w58, w49.heap.size, w58.heap.size), (w49, w.heap.size, w49.heap.size)]) (by simp only [List.cons_append, List.nil_append]) (by simp only [List.cons_append, List.nil_append]) H190.out hs192 (fun k_ hk_ => by first | exact hk_.2 | (rcases hk_ with hk_ | hk_ | hk_ <;> exact hk_.2))⟩; clear H190 hs192; have F197 := Aside0.mk hr193; have E198 := Aside0.mk (Kd.R_reads' hr193).1; clear hr193; have F199 := Aside0.mk hr194; have E200 := Aside0.mk (Kd.R_reads' hr194).1; clear hr194; have F201 := Aside0.mk hr195; have E202 := Aside0.mk (Kd.R_reads' hr195).1; clear hr195; refine normL (a' := ?_) ?hn ?_; (case hn => first | (simp only [Act.put, List.setIfInBounds_toArray, List.set_cons_zero, List.set_cons_succ]; rfl) | rfl)) | ((with_reducible refine gate_dst (N := 44) rfl ?_); refine ld ?hw rfl ?hx (blk_fix2 B152.out ⟨G153.out, L154.out⟩ H196.out.fixes.tl.hd) Try.underlying64 rfl (by kernel_rfl) ?_; (case hw => rfl); (case hx => rfl); refine normL (a' := ?_) ?hn ?_; (case hn => first | (simp only [Act.put, List.setIfInBounds_toArray, List.set_cons_zero, List.set_cons_succ]; rfl) | rfl)) | ((with_reducible refine gate_dst (N := 45) rfl ?_); refine ld ?hw rfl ?hx (blk_fix2 B94.out ⟨G95.out, L96.out⟩ H196.out.fixes.tl.tl.tl.tl.hd) Try.underlying64 rfl (by kernel_rfl) ?_; (case hw => rfl); (case hx => rfl); refine normL (a' := ?_) ?hn ?_; (case hn => first | (simp only [Act.put, List.setIfInBounds_toArray, List.set_cons_zero, List.set_cons_succ]; rfl) | rfl)) | (((with_reducible refine gate_callee (f := 42) rfl ?_)); refine goesW (some 46) rfl ?hw Try.func42 (by kernel_rfl) rfl #[.agg #[.bool t145, .slice Ao140 t146.length co141, .slice Ao143 t149.length co144, .int .i64 t152, .slice Ao146 t153.length co147], .agg #[.bool t118, .slice Ao82 t119.length co83, .slice Ao85 t122.length co86, .int .i64 t125, .slice Ao88 t126.length co89]] rfl (by (try simp only [List.map_toArray, List.map_cons, List.map_nil]); first | done | rfl | (simp only [List.length_drop, List.length_take]; rfl)) ?_; (case hw => rfl); with_reducible refine (laws_eqApplyRes.calls k t145 _ _ t146 _ _ t149 t152 _ _ t153 t118 _ _ t119 _ _ t122 t125 _ _ t126 true _ ?side1 ?side2 ?side3 ?side4 ?side5 ?side6 ?side7 ?side8 ?side9 ?side10 ?side11 ?side12 A37.out).mono ?_; (case side1 => exact (Kd.R_reads' (R_fix2 F142.out H196.out.fixes.tl.hd)).2.2); (case side2 => exact R_capn (R_fix2 F142.out H196.out.fixes.tl.hd)); (case side3 => exact (Kd.R_reads' (R_fix2 F145.out H196.out.fixes.tl.hd)).2.2); (case side4 => exact R_capn (R_fix2 F145.out H196.out.fixes.tl.hd)); (case side5 => exact (Kd.R_reads' (R_fix2 F148.out H196.out.fixes.tl.hd)).2.2); (case side6 => exact R_capn (R_fix2 F148.out H196.out.fixes.tl.hd)); (case side7 => exact (Kd.R_reads' (R_fix2 F84.out H196.out.fixes.tl.tl.tl.tl.hd)).2.2); (case side8 => exact R_capn (R_fix2 F84.out H196.out.fixes.tl.tl.tl.tl.hd)); (case side9 => exact (Kd.R_reads' (R_fix2 F87.out H196.out.fixes.tl.tl.tl.tl.hd)).2.2); (case side10 => exact R_capn (R_fix2 F87.out H196.out.fixes.tl.tl.tl.tl.hd)); (case side11 => exact (Kd.R_reads' (R_fix2 F90.out H196.out.fixes.tl.tl.tl.tl.hd)).2.2); (case side12 => exact R_capn (R_fix2 F90.out H196.out.fixes.tl.tl.tl.tl.hd)); rintro e w203 ⟨rfl, hb204⟩; refine ⟨_, rfl, ?_⟩; have H205 := Aside0.mk (Hist.pass H196.out hb204); clear H196; clear hb204; refine normL (a' := ?_) ?hn ?_; (case hn => first | (simp only [Act.put, List.setIfInBounds_toArray, List.set_cons_zero, List.set_cons_succ]; rfl) | rfl)) | ((with_reducible refine gate_dst (N := 49) rfl ?_); refine ld ?hw rfl ?hx (blk_fix2 B152.out ⟨G153.out, L154.out⟩ H205.out.fixes.tl.hd) Try.underlying64 rfl (by kernel_rfl) ?_; (case hw => rfl); (case hx => rfl); refine normL (a' := ?_) ?hn ?_; (case hn => first | (simp only [Act.put, List.setIfInBounds_toArray, List.set_cons_zero, List.set_cons_succ]; rfl) | rfl)) | (((with_reducible refine gate_callee (f := 45) rfl ?_)); refine goesW (some 51) rfl ?hw Try.func45 (by kernel_rfl) rfl #[.agg #[.bool t145, .slice Ao140 t146.length co141, .slice Ao143 t149.length co144, .int .i64 t152, .slice Ao146 t153.length co147], .int .i64 1] rfl (by (try simp only [List.map_toArray, List.map_cons, List.map_nil]); first | done | rfl | (simp only [List.length_drop, List.length_take]; rfl)) ?_; (case hw => rfl); with_reducible refine (mk_laws_markApplyRes (Fixes.at (w := w155) (b := w137.heap.size) (t := w150.heap.size) (l1 := [(w164, w161.heap.size, w164.heap.size)]) (l2 := [(w132, w99.heap.size, w124.heap.size), (w191, w97.heap.size, w99.heap.size), (w97, w70.heap.size, w92.heap.size), (w58, w49.heap.size, w58.heap.size), (w49, w.heap.size, w49.heap.size)]) (by simp only [List.cons_append, List.nil_append]) H205.out.fixes) (Kd.R_types (R_fix2 F142.out H205.out.fixes.tl.hd) (blk_fix2 B152.out ⟨G153.out, L154.out⟩ H205.out.fixes.tl.hd) (by decide)) (Kd.R_types (R_fix2 F145.out H205.out.fixes.tl.hd) (blk_fix2 B152.out ⟨G153.out, L154.out⟩ H205.out.fixes.tl.hd) (by decide)) (Kd.R_types (R_fix2 F148.out H205.out.fixes.tl.hd) (blk_fix2 B152.out ⟨G153.out, L154.out⟩ H205.out.fixes.tl.hd) (by decide)) (fun _ h_ => h_.1.1) (fun _ h_ => h_.1.1) A39.out).mono ?_; rintro e w206 ⟨rfl, hr208, hr209, hr210, hs207⟩; refine ⟨_, rfl, ?_⟩; have B211 := Aside0.mk ((hs207.block _ (blk_lt (blk_fix2 B152.out ⟨G153.out, L154.out⟩ H205.out.fixes.tl.hd)) (fun hk_ => by first | exact absurd rfl hk_.2 | (rcases hk_ with hk_ | hk_ | hk_ <;> exact absurd rfl hk_.2))).trans (blk_fix2 B152.out ⟨G153.out, L154.out⟩ H205.out.fixes.tl.hd)); have H212 : Aside0 (Hist w [(w164, w161.heap.size, w164.heap.size), (w206, w137.heap.size, w150.heap.size), (w132, w99.heap.size, w124.heap.size), (w191, w97.heap.size, w99.heap.size), (w97, w70.heap.size, w92.heap.size), (w58, w49.heap.size, w58.heap.size), (w49, w.heap.size, w49.heap.size)] w206) := ⟨Hist.mark' (w := w155) (b := w137.heap.size) (t := w150.heap.size) (l1 := [(w164, w161.heap.size, w164.heap.size)]) (l2 := [(w132, w99.heap.size, w124.heap.size), (w191, w97.heap.size, w99.heap.size), (w97, w70.heap.size, w92.heap.size), (w58, w49.heap.size, w58.heap.size), (w49, w.heap.size, w49.heap.size)]) (by simp only [List.cons_append, List.nil_append]) (by simp only [List.cons_append, List.nil_append]) H205.out hs207 (fun k_ hk_ => by first | exact hk_.1.2 | (rcases hk_ with hk_ | hk_ | hk_ <;> exact hk_.1.2))⟩; clear H205 hs207; replace hr208 := Kd.R_mono hr208 (fun _ h_ => h_.1); replace hr209 := Kd.R_mono hr209 (fun _ h_ => h_.1); replace hr210 := Kd.R_mono hr210 (fun _ h_ => h_.1); have F213 := Aside0.mk hr208; have E214 := Aside0.mk (Kd.R_reads' hr208).1; clear hr208; have F215 := Aside0.mk hr209; have E216 := Aside0.mk (Kd.R_reads' hr209).1; clear hr209; have F217 := Aside0.mk hr210; have E218 := Aside0.mk (Kd.R_reads' hr210).1; clear hr210; refine normL (a' := ?_) ?hn ?_; (case hn => first | (simp only [Act.put, List.setIfInBounds_toArray, List.set_cons_zero, List.set_cons_succ]; rfl) | rfl)) | ((with_reducible refine gate_dst (N := 52) rfl ?_); refine ld ?hw rfl ?hx (blk_fix2 B211.out ⟨G153.out, L154.out⟩ H212.out.fixes.tl.hd) Try.underlying64 rfl (by kernel_rfl) ?_; (case hw => rfl); (case hx => rfl); refine normL (a' := ?_) ?hn ?_; (case hn => first | (simp only [Act.put, List.setIfInBounds_toArray, List.set_cons_zero, List.set_cons_succ]; rfl) | rfl)) | (((with_reducible refine gate_callee (f := 46) rfl ?_)); refine goesW (some 54) rfl ?hw Try.func46 (by kernel_rfl) rfl #[.agg #[.bool t145, .slice Ao140 t175.length co141, .slice Ao143 t176.length co144, .int .i64 t152, .slice Ao146 t177.length co147], .int .i64 1] rfl (by (try simp only [List.map_toArray, List.map_cons, List.map_nil]); first | done | rfl | (rw [← E214.out, ← E216.out, ← E218.out]; first | done | rfl) | (simp only [List.length_drop, List.length_take]; rfl)) ?_; (case hw => rfl); with_reducible refine (laws_heldApplyRes.calls k t145 _ _ t175 _ _ t176 t152 _ _ t177 1 t178 _ ?side1 ?side2 ?side3 ?side4 ?side5 ?side6 A40.out).mono ?_; (case side1 => exact (Kd.R_reads' (R_fix2 F213.out H212.out.fixes.tl.hd)).2.2); (case side2 => exact R_capn (R_fix2 F213.out H212.out.fixes.tl.hd)); (case side3 => exact (Kd.R_reads' (R_fix2 F215.out H212.out.fixes.tl.hd)).2.2); (case side4 => exact R_capn (R_fix2 F215.out H212.out.fixes.tl.hd)); (case side5 => exact (Kd.R_reads' (R_fix2 F217.out H212.out.fixes.tl.hd)).2.2); (case side6 => exact R_capn (R_fix2 F217.out H212.out.fixes.tl.hd)); rintro e w219 ⟨rfl, hb220⟩; refine ⟨_, rfl, ?_⟩; have H221 := Aside0.mk (Hist.pass H212.out hb220); clear H212; clear hb220; refine normL (a' := ?_) ?hn ?_; (case hn => first | (simp only [Act.put, List.setIfInBounds_toArray, List.set_cons_zero, List.set_cons_succ]; rfl) | rfl)))
                  have H222 := Aside0.mk (Hist.drew H221.out)
                  clear H221
                  refine start_ (n := 7) (S := fun w' => w'.heap[g48]? = some (.cells #[.slice A0_0 l0_0.length c0_0, .slice A0_1 l0_1.length c0_1, .int .i64 a0_2, .slice A0_3 l0_3.length c0_3] 58 (0, 0)) ∧ w'.heap[g57]? = some (.cells #[.int .u32 a1_0, .int .i64 a1_1, .int .u32 a1_2, .int .u32 a1_3] 24 (0, 0))) (ds := []) #[false, false, false, false, false, false, false] (by kernel_rfl) rfl rfl ⟨(blk_fix2 B54.out ⟨G55.out, L56.out⟩ H222.out.fixes.tl.tl.tl.tl.tl.tl.hd), (blk_fix2 B63.out ⟨G64.out, L65.out⟩ H222.out.fixes.tl.tl.tl.tl.tl.hd)⟩ (fun hHeld => ?_)
                  generalize w219.drew = w223 at H222 hHeld ⊢
                  refine take_ (i := 0) (N := some 60) (v := .agg #[.slice A0_0 l0_0.length c0_0, .slice A0_1 l0_1.length c0_1, .int .i64 a0_2, .slice A0_3 l0_3.length c0_3]) (a' := ?aaq224) #[true, false, false, false, false, false, false] rfl rfl (by kernel_rfl) (fun _ _ _ h => h) (Or.inl ⟨by rfl, ?ylq224⟩) hHeld ?haq224 ?hhq224
                  case ylq224 =>
                    rintro w' ⟨s0, s1⟩
                    exact ld_run (x := .tmp 2) (by rfl) (by rfl) s0 Try.underlying58 rfl (by kernel_rfl)
                  case haq224 =>
                    simp only [Act.put, List.setIfInBounds_toArray, List.set_cons_zero, List.set_cons_succ, i64_w, i32_w]
                    rfl
                  refine take_ (i := 2) (N := some 62) (v := .agg #[.int .u32 a1_0, .int .i64 a1_1, .int .u32 a1_2, .int .u32 a1_3]) (a' := ?aaq225) #[true, false, true, false, false, false, false] rfl rfl (by kernel_rfl) (fun _ _ _ h => h) (Or.inl ⟨by rfl, ?ylq225⟩) hHeld ?haq225 ?hhq225
                  case ylq225 =>
                    rintro w' ⟨s0, s1⟩
                    exact ld_run (x := .tmp 3) (by rfl) (by rfl) s1 Try.underlying24 rfl (by kernel_rfl)
                  case haq225 =>
                    simp only [Act.put, List.setIfInBounds_toArray, List.set_cons_zero, List.set_cons_succ, i64_w, i32_w]
                    rfl
                  have HXB0 := Aside0.mk (blk_fix2 B54.out ⟨G55.out, L56.out⟩ H222.out.fixes.tl.tl.tl.tl.tl.tl.hd)
                  have HXB1 := Aside0.mk (blk_fix2 B63.out ⟨G64.out, L65.out⟩ H222.out.fixes.tl.tl.tl.tl.tl.hd)
                  have HBs := Aside0.mk (Below.refl w223.heap.size w223)
                  have HBw := Aside0.mk H222.out.below
                  refine join_ (σ := Nat × Value × Value × Value × Value × Value × Value) 1 #[true, true, true, true, true, true, false] (fun s_ => [(61, (.agg #[s_.2.1, s_.2.2.1, .int .i64 t185, s_.2.2.2.1])), (63, (.agg #[.int .u32 t189, .int .i64 t190, .int .u32 t191, .int .u32 t192])), (64, (.agg #[.bool t193, s_.2.2.2.2.1, s_.2.2.2.2.2.1, .int .i64 t200, s_.2.2.2.2.2.2])), (12, .pointer (some ⟨s_.1, 0, none⟩))]) (fun s_ w' => (w'.heap[g48]? = some (.cells #[.slice A0_0 l0_0.length c0_0, .slice A0_1 l0_1.length c0_1, .int .i64 a0_2, .slice A0_3 l0_3.length c0_3] 58 (0, 0)) ∧ w'.heap[g57]? = some (.cells #[.int .u32 a1_0, .int .i64 a1_1, .int .u32 a1_2, .int .u32 a1_3] 24 (0, 0))) ∧ (Below w223.heap.size w223 w') ∧ (w223.heap.size ≤ s_.1) ∧ (w'.heap[s_.1]? = some (.cells #[.bool false, .slice none 0 0, .slice none 0 0, .int .i64 0, .slice none 0 0] 64 (0, 0))) ∧ (Kd.R (Kd.int .i64) 2 w' w223.heap.size (fun k_ => some k_ ≠ (s_.2.2.2.2.2.1 : Value).ownBlock) s_.2.2.2.2.1 t194) ∧ (Kd.R (Kd.int .i64) 2 w' w223.heap.size (fun k_ => some k_ ≠ (s_.2.2.2.2.1 : Value).ownBlock) s_.2.2.2.2.2.1 t197) ∧ (Kd.R k111 111 w' w223.heap.size (fun _ => True) s_.2.2.2.2.2.2 t201)) ?_ ?_
                  rotate_left
                  · intro hCont
                    refine two_ (i := 1) (j := 5) (Ni := some 61) (Nj := some 12) #[true, true, true, false, false, false, false] #[true, false, true, false, false, true, false] rfl rfl rfl rfl (by kernel_rfl) (by decide) (by decide) (fun K hK => ?_) (fun K hK => ?_)
                    · skip
                      refine goes_ Try.func40 (by kernel_rfl) rfl #[.agg #[.slice A0_0 l0_0.length c0_0, .slice A0_1 l0_1.length c0_1, .int .i64 a0_2, .slice A0_3 l0_3.length c0_3]] (by rfl) rfl rfl (by (try simp only [List.map_toArray, List.map_cons, List.map_nil]); first | done | rfl | (simp only [List.length_drop, List.length_take]; rfl)) ?_
                      with_reducible refine (laws_toState.calls k _ _ l0_0 _ _ l0_1 a0_2 _ _ l0_3 t179 t182 t185 t186 _ (Kd.C_below HR0_0.out HBw.out) (HC0_0.out) (Kd.C_below HR0_1.out HBw.out) (HC0_1.out) (Kd.C_below HR0_3.out HBw.out) (HC0_3.out) A43.out).mono ?_
                      rintro e wn_ ⟨vr0_, vr1_, vr2_, rfl, hvr0_, hvr1_, hvr2_, hb_⟩
                      refine ⟨_, rfl, ?_⟩
                      have F228 := Aside0.mk (Kd.R_lower hvr0_ HBs.out.size)
                      have F231 := Aside0.mk (Kd.R_lower hvr1_ HBs.out.size)
                      have F234 := Aside0.mk (Kd.R_lower hvr2_ HBs.out.size)
                      obtain ⟨Ao226, co227, eo_⟩ := Kd.R_slice F228.out
                      subst eo_
                      obtain ⟨Ao229, co230, eo_⟩ := Kd.R_slice F231.out
                      subst eo_
                      obtain ⟨Ao232, co233, eo_⟩ := Kd.R_slice F234.out
                      subst eo_
                      clear hvr0_ hvr1_ hvr2_
                      replace HBs := Aside0.mk (below_step HBs.out hb_)
                      replace HBw := Aside0.mk (below_step HBw.out hb_)
                      clear hb_
                      refine hK.out _ _ ⟨((HBs.out.block _ (blk_lt HXB0.out)).trans HXB0.out), ((HBs.out.block _ (blk_lt HXB1.out)).trans HXB1.out)⟩ (fun hHeld => ?_)
                      clear hK K
                      refine norm_ (a' := ?_) ?_ ?_
                      rotate_left
                      · show Act.put _ (some 61) _ = _
                        simp only [Act.put, List.setIfInBounds_toArray, List.set_cons_zero, List.set_cons_succ, i64_w, i32_w]
                        rfl
                      refine two_ (i := 3) (j := 5) (Ni := some 63) (Nj := some 12) #[true, true, true, true, false, false, false] #[true, true, true, false, false, true, false] rfl rfl rfl rfl (by kernel_rfl) (by decide) (by decide) (fun K hK => ?_) (fun K hK => ?_)
                      · skip
                        refine goes_ Try.func12 (by kernel_rfl) rfl #[.agg #[.int .u32 a1_0, .int .i64 a1_1, .int .u32 a1_2, .int .u32 a1_3]] (by rfl) rfl rfl (by (try simp only [List.map_toArray, List.map_cons, List.map_nil]); first | done | rfl | (simp only [List.length_drop, List.length_take]; rfl)) ?_
                        with_reducible refine (laws_toFrame.calls a1_0 a1_1 a1_2 a1_3 t189 t190 t191 t192 _  A44.out).mono ?_
                        rintro e wn_ ⟨rfl, hb_⟩
                        refine ⟨_, rfl, ?_⟩
                        replace F228 := Aside0.mk (Kd.R_below F228.out hb_)
                        replace F231 := Aside0.mk (Kd.R_below F231.out hb_)
                        replace F234 := Aside0.mk (Kd.R_below F234.out hb_)
                        replace HBs := Aside0.mk (below_step HBs.out hb_)
                        replace HBw := Aside0.mk (below_step HBw.out hb_)
                        clear hb_
                        refine hK.out _ _ ⟨((HBs.out.block _ (blk_lt HXB0.out)).trans HXB0.out), ((HBs.out.block _ (blk_lt HXB1.out)).trans HXB1.out)⟩ (fun hHeld => ?_)
                        clear hK K
                        refine norm_ (a' := ?_) ?_ ?_
                        rotate_left
                        · show Act.put _ (some 63) _ = _
                          simp only [Act.put, List.setIfInBounds_toArray, List.set_cons_zero, List.set_cons_succ, i64_w, i32_w]
                          rfl
                        refine two_ (i := 4) (j := 5) (Ni := some 64) (Nj := some 12) #[true, true, true, true, true, false, false] #[true, true, true, true, false, true, false] rfl rfl rfl rfl (by kernel_rfl) (by decide) (by decide) (fun K hK => ?_) (fun K hK => ?_)
                        · skip
                          refine goes_ Try.func41 (by kernel_rfl) rfl #[.agg #[.slice Ao226 t179.length co227, .slice Ao229 t182.length co230, .int .i64 t185, .slice Ao232 t186.length co233], .agg #[.int .u32 t189, .int .i64 t190, .int .u32 t191, .int .u32 t192]] (by rfl) rfl rfl (by (try simp only [List.map_toArray, List.map_cons, List.map_nil]); first | done | rfl | (simp only [List.length_drop, List.length_take]; rfl)) ?_
                          with_reducible refine (impl_ApplyFrame.calls _ _ t179 _ _ t182 t185 _ _ t186 t189 t190 t191 t192 t193 t194 t197 t200 t201 _ ((Kd.R_reads' F228.out).2.2) (R_capn F228.out) ((Kd.R_reads' F231.out).2.2) (R_capn F231.out) ((Kd.R_reads' F234.out).2.2) (R_capn F234.out) A45.out).mono ?_
                          rintro e wn_ ⟨vr3_, vr4_, vr5_, rfl, hvr3_, hvr4_, hvr5_, hb_⟩
                          refine ⟨_, rfl, ?_⟩
                          have F237 := Aside0.mk (Kd.R_lower hvr3_ HBs.out.size)
                          have F240 := Aside0.mk (Kd.R_lower hvr4_ HBs.out.size)
                          have F243 := Aside0.mk (Kd.R_lower hvr5_ HBs.out.size)
                          obtain ⟨Ao235, co236, eo_⟩ := Kd.R_slice F237.out
                          subst eo_
                          obtain ⟨Ao238, co239, eo_⟩ := Kd.R_slice F240.out
                          subst eo_
                          obtain ⟨Ao241, co242, eo_⟩ := Kd.R_slice F243.out
                          subst eo_
                          clear hvr3_ hvr4_ hvr5_
                          replace F228 := Aside0.mk (Kd.R_below F228.out hb_)
                          replace F231 := Aside0.mk (Kd.R_below F231.out hb_)
                          replace F234 := Aside0.mk (Kd.R_below F234.out hb_)
                          replace HBs := Aside0.mk (below_step HBs.out hb_)
                          replace HBw := Aside0.mk (below_step HBw.out hb_)
                          clear hb_
                          refine hK.out _ _ ⟨((HBs.out.block _ (blk_lt HXB0.out)).trans HXB0.out), ((HBs.out.block _ (blk_lt HXB1.out)).trans HXB1.out)⟩ (fun hHeld => ?_)
                          clear hK K
                          refine norm_ (a' := ?_) ?_ ?_
                          rotate_left
                          · show Act.put _ (some 64) _ = _
                            simp only [Act.put, List.setIfInBounds_toArray, List.set_cons_zero, List.set_cons_succ, i64_w, i32_w]
                            rfl
                          refine one_ (i := 5) (N := some 12) #[true, true, true, true, true, true, false] rfl rfl (by kernel_rfl) (by decide) (fun K hK => ?_)
                          refine box_step ?hg (N := 12) ?hd (cs := #[.bool false, .slice none 0 0, .slice none 0 0, .int .i64 0, .slice none 0 0]) (t := 64) ?hr ?_; (case hd => rfl); (case hg => rfl); (case hr => first | (go_simp; done) | (go_simp; rfl))
                          intro gn_ hg_ wn_ hbox_ hb_
                          have HGn := Aside0.mk (show w223.heap.size ≤ gn_ from by rw [hg_]; exact HBs.out.size)
                          have HBox := Aside0.mk hbox_
                          replace F228 := Aside0.mk (Kd.R_below F228.out hb_)
                          replace F231 := Aside0.mk (Kd.R_below F231.out hb_)
                          replace F234 := Aside0.mk (Kd.R_below F234.out hb_)
                          replace F237 := Aside0.mk (Kd.R_below F237.out hb_)
                          replace F240 := Aside0.mk (Kd.R_below F240.out hb_)
                          replace F243 := Aside0.mk (Kd.R_below F243.out hb_)
                          replace HBs := Aside0.mk (below_step HBs.out hb_)
                          replace HBw := Aside0.mk (below_step HBw.out hb_)
                          clear hg_ hbox_ hb_
                          refine hK.out _ _ ⟨((HBs.out.block _ (blk_lt HXB0.out)).trans HXB0.out), ((HBs.out.block _ (blk_lt HXB1.out)).trans HXB1.out)⟩ (fun hHeld => ?_)
                          clear hK K
                          refine norm_ (a' := ?_) ?_ ?_
                          rotate_left
                          · show Act.put _ (some 12) _ = _
                            simp only [Act.put, List.setIfInBounds_toArray, List.set_cons_zero, List.set_cons_succ, i64_w, i32_w]
                            rfl
                          exact norm_ (by simp only [putAll, Act.put, List.setIfInBounds_toArray, List.set_cons_zero, List.set_cons_succ]) (hCont (gn_, .slice Ao226 t179.length co227, .slice Ao229 t182.length co230, .slice Ao232 t186.length co233, .slice Ao235 t194.length co236, .slice Ao238 t197.length co239, .slice Ao241 t201.length co242) _ ⟨hHeld, HBs.out, HGn.out, HBox.out, F237.out, F240.out, F243.out⟩)
                        · skip
                          refine box_step ?hg (N := 12) ?hd (cs := #[.bool false, .slice none 0 0, .slice none 0 0, .int .i64 0, .slice none 0 0]) (t := 64) ?hr ?_; (case hd => rfl); (case hg => rfl); (case hr => first | (go_simp; done) | (go_simp; rfl))
                          intro gn_ hg_ wn_ hbox_ hb_
                          have HGn := Aside0.mk (show w223.heap.size ≤ gn_ from by rw [hg_]; exact HBs.out.size)
                          have HBox := Aside0.mk hbox_
                          replace F228 := Aside0.mk (Kd.R_below F228.out hb_)
                          replace F231 := Aside0.mk (Kd.R_below F231.out hb_)
                          replace F234 := Aside0.mk (Kd.R_below F234.out hb_)
                          replace HBs := Aside0.mk (below_step HBs.out hb_)
                          replace HBw := Aside0.mk (below_step HBw.out hb_)
                          clear hg_ hbox_ hb_
                          refine hK.out _ _ ⟨((HBs.out.block _ (blk_lt HXB0.out)).trans HXB0.out), ((HBs.out.block _ (blk_lt HXB1.out)).trans HXB1.out)⟩ (fun hHeld => ?_)
                          clear hK K
                          refine norm_ (a' := ?_) ?_ ?_
                          rotate_left
                          · show Act.put _ (some 12) _ = _
                            simp only [Act.put, List.setIfInBounds_toArray, List.set_cons_zero, List.set_cons_succ, i64_w, i32_w]
                            rfl
                          refine one_ (i := 4) (N := some 64) #[true, true, true, true, true, true, false] rfl rfl (by kernel_rfl) (by decide) (fun K hK => ?_)
                          refine goes_ Try.func41 (by kernel_rfl) rfl #[.agg #[.slice Ao226 t179.length co227, .slice Ao229 t182.length co230, .int .i64 t185, .slice Ao232 t186.length co233], .agg #[.int .u32 t189, .int .i64 t190, .int .u32 t191, .int .u32 t192]] (by rfl) rfl rfl (by (try simp only [List.map_toArray, List.map_cons, List.map_nil]); first | done | rfl | (simp only [List.length_drop, List.length_take]; rfl)) ?_
                          with_reducible refine (impl_ApplyFrame.calls _ _ t179 _ _ t182 t185 _ _ t186 t189 t190 t191 t192 t193 t194 t197 t200 t201 _ ((Kd.R_reads' F228.out).2.2) (R_capn F228.out) ((Kd.R_reads' F231.out).2.2) (R_capn F231.out) ((Kd.R_reads' F234.out).2.2) (R_capn F234.out) A45.out).mono ?_
                          rintro e wn_ ⟨vr3_, vr4_, vr5_, rfl, hvr3_, hvr4_, hvr5_, hb_⟩
                          refine ⟨_, rfl, ?_⟩
                          have F237 := Aside0.mk (Kd.R_lower hvr3_ HBs.out.size)
                          have F240 := Aside0.mk (Kd.R_lower hvr4_ HBs.out.size)
                          have F243 := Aside0.mk (Kd.R_lower hvr5_ HBs.out.size)
                          obtain ⟨Ao235, co236, eo_⟩ := Kd.R_slice F237.out
                          subst eo_
                          obtain ⟨Ao238, co239, eo_⟩ := Kd.R_slice F240.out
                          subst eo_
                          obtain ⟨Ao241, co242, eo_⟩ := Kd.R_slice F243.out
                          subst eo_
                          clear hvr3_ hvr4_ hvr5_
                          replace HBox := Aside0.mk ((hb_.block _ (blk_lt HBox.out)).trans HBox.out)
                          replace F228 := Aside0.mk (Kd.R_below F228.out hb_)
                          replace F231 := Aside0.mk (Kd.R_below F231.out hb_)
                          replace F234 := Aside0.mk (Kd.R_below F234.out hb_)
                          replace HBs := Aside0.mk (below_step HBs.out hb_)
                          replace HBw := Aside0.mk (below_step HBw.out hb_)
                          clear hb_
                          refine hK.out _ _ ⟨((HBs.out.block _ (blk_lt HXB0.out)).trans HXB0.out), ((HBs.out.block _ (blk_lt HXB1.out)).trans HXB1.out)⟩ (fun hHeld => ?_)
                          clear hK K
                          refine norm_ (a' := ?_) ?_ ?_
                          rotate_left
                          · show Act.put _ (some 64) _ = _
                            simp only [Act.put, List.setIfInBounds_toArray, List.set_cons_zero, List.set_cons_succ, i64_w, i32_w]
                            rfl
                          exact norm_ (by simp only [putAll, Act.put, List.setIfInBounds_toArray, List.set_cons_zero, List.set_cons_succ]) (hCont (gn_, .slice Ao226 t179.length co227, .slice Ao229 t182.length co230, .slice Ao232 t186.length co233, .slice Ao235 t194.length co236, .slice Ao238 t197.length co239, .slice Ao241 t201.length co242) _ ⟨hHeld, HBs.out, HGn.out, HBox.out, F237.out, F240.out, F243.out⟩)
                      · skip
                        refine box_step ?hg (N := 12) ?hd (cs := #[.bool false, .slice none 0 0, .slice none 0 0, .int .i64 0, .slice none 0 0]) (t := 64) ?hr ?_; (case hd => rfl); (case hg => rfl); (case hr => first | (go_simp; done) | (go_simp; rfl))
                        intro gn_ hg_ wn_ hbox_ hb_
                        have HGn := Aside0.mk (show w223.heap.size ≤ gn_ from by rw [hg_]; exact HBs.out.size)
                        have HBox := Aside0.mk hbox_
                        replace F228 := Aside0.mk (Kd.R_below F228.out hb_)
                        replace F231 := Aside0.mk (Kd.R_below F231.out hb_)
                        replace F234 := Aside0.mk (Kd.R_below F234.out hb_)
                        replace HBs := Aside0.mk (below_step HBs.out hb_)
                        replace HBw := Aside0.mk (below_step HBw.out hb_)
                        clear hg_ hbox_ hb_
                        refine hK.out _ _ ⟨((HBs.out.block _ (blk_lt HXB0.out)).trans HXB0.out), ((HBs.out.block _ (blk_lt HXB1.out)).trans HXB1.out)⟩ (fun hHeld => ?_)
                        clear hK K
                        refine norm_ (a' := ?_) ?_ ?_
                        rotate_left
                        · show Act.put _ (some 12) _ = _
                          simp only [Act.put, List.setIfInBounds_toArray, List.set_cons_zero, List.set_cons_succ, i64_w, i32_w]
                          rfl
                        refine one_ (i := 3) (N := some 63) #[true, true, true, true, false, true, false] rfl rfl (by kernel_rfl) (by decide) (fun K hK => ?_)
                        refine goes_ Try.func12 (by kernel_rfl) rfl #[.agg #[.int .u32 a1_0, .int .i64 a1_1, .int .u32 a1_2, .int .u32 a1_3]] (by rfl) rfl rfl (by (try simp only [List.map_toArray, List.map_cons, List.map_nil]); first | done | rfl | (simp only [List.length_drop, List.length_take]; rfl)) ?_
                        with_reducible refine (laws_toFrame.calls a1_0 a1_1 a1_2 a1_3 t189 t190 t191 t192 _  A44.out).mono ?_
                        rintro e wn_ ⟨rfl, hb_⟩
                        refine ⟨_, rfl, ?_⟩
                        replace HBox := Aside0.mk ((hb_.block _ (blk_lt HBox.out)).trans HBox.out)
                        replace F228 := Aside0.mk (Kd.R_below F228.out hb_)
                        replace F231 := Aside0.mk (Kd.R_below F231.out hb_)
                        replace F234 := Aside0.mk (Kd.R_below F234.out hb_)
                        replace HBs := Aside0.mk (below_step HBs.out hb_)
                        replace HBw := Aside0.mk (below_step HBw.out hb_)
                        clear hb_
                        refine hK.out _ _ ⟨((HBs.out.block _ (blk_lt HXB0.out)).trans HXB0.out), ((HBs.out.block _ (blk_lt HXB1.out)).trans HXB1.out)⟩ (fun hHeld => ?_)
                        clear hK K
                        refine norm_ (a' := ?_) ?_ ?_
                        rotate_left
                        · show Act.put _ (some 63) _ = _
                          simp only [Act.put, List.setIfInBounds_toArray, List.set_cons_zero, List.set_cons_succ, i64_w, i32_w]
                          rfl
                        refine one_ (i := 4) (N := some 64) #[true, true, true, true, true, true, false] rfl rfl (by kernel_rfl) (by decide) (fun K hK => ?_)
                        refine goes_ Try.func41 (by kernel_rfl) rfl #[.agg #[.slice Ao226 t179.length co227, .slice Ao229 t182.length co230, .int .i64 t185, .slice Ao232 t186.length co233], .agg #[.int .u32 t189, .int .i64 t190, .int .u32 t191, .int .u32 t192]] (by rfl) rfl rfl (by (try simp only [List.map_toArray, List.map_cons, List.map_nil]); first | done | rfl | (simp only [List.length_drop, List.length_take]; rfl)) ?_
                        with_reducible refine (impl_ApplyFrame.calls _ _ t179 _ _ t182 t185 _ _ t186 t189 t190 t191 t192 t193 t194 t197 t200 t201 _ ((Kd.R_reads' F228.out).2.2) (R_capn F228.out) ((Kd.R_reads' F231.out).2.2) (R_capn F231.out) ((Kd.R_reads' F234.out).2.2) (R_capn F234.out) A45.out).mono ?_
                        rintro e wn_ ⟨vr3_, vr4_, vr5_, rfl, hvr3_, hvr4_, hvr5_, hb_⟩
                        refine ⟨_, rfl, ?_⟩
                        have F237 := Aside0.mk (Kd.R_lower hvr3_ HBs.out.size)
                        have F240 := Aside0.mk (Kd.R_lower hvr4_ HBs.out.size)
                        have F243 := Aside0.mk (Kd.R_lower hvr5_ HBs.out.size)
                        obtain ⟨Ao235, co236, eo_⟩ := Kd.R_slice F237.out
                        subst eo_
                        obtain ⟨Ao238, co239, eo_⟩ := Kd.R_slice F240.out
                        subst eo_
                        obtain ⟨Ao241, co242, eo_⟩ := Kd.R_slice F243.out
                        subst eo_
                        clear hvr3_ hvr4_ hvr5_
                        replace HBox := Aside0.mk ((hb_.block _ (blk_lt HBox.out)).trans HBox.out)
                        replace F228 := Aside0.mk (Kd.R_below F228.out hb_)
                        replace F231 := Aside0.mk (Kd.R_below F231.out hb_)
                        replace F234 := Aside0.mk (Kd.R_below F234.out hb_)
                        replace HBs := Aside0.mk (below_step HBs.out hb_)
                        replace HBw := Aside0.mk (below_step HBw.out hb_)
                        clear hb_
                        refine hK.out _ _ ⟨((HBs.out.block _ (blk_lt HXB0.out)).trans HXB0.out), ((HBs.out.block _ (blk_lt HXB1.out)).trans HXB1.out)⟩ (fun hHeld => ?_)
                        clear hK K
                        refine norm_ (a' := ?_) ?_ ?_
                        rotate_left
                        · show Act.put _ (some 64) _ = _
                          simp only [Act.put, List.setIfInBounds_toArray, List.set_cons_zero, List.set_cons_succ, i64_w, i32_w]
                          rfl
                        exact norm_ (by simp only [putAll, Act.put, List.setIfInBounds_toArray, List.set_cons_zero, List.set_cons_succ]) (hCont (gn_, .slice Ao226 t179.length co227, .slice Ao229 t182.length co230, .slice Ao232 t186.length co233, .slice Ao235 t194.length co236, .slice Ao238 t197.length co239, .slice Ao241 t201.length co242) _ ⟨hHeld, HBs.out, HGn.out, HBox.out, F237.out, F240.out, F243.out⟩)
                    · skip
                      refine box_step ?hg (N := 12) ?hd (cs := #[.bool false, .slice none 0 0, .slice none 0 0, .int .i64 0, .slice none 0 0]) (t := 64) ?hr ?_; (case hd => rfl); (case hg => rfl); (case hr => first | (go_simp; done) | (go_simp; rfl))
                      intro gn_ hg_ wn_ hbox_ hb_
                      have HGn := Aside0.mk (show w223.heap.size ≤ gn_ from by rw [hg_]; exact HBs.out.size)
                      have HBox := Aside0.mk hbox_
                      replace HBs := Aside0.mk (below_step HBs.out hb_)
                      replace HBw := Aside0.mk (below_step HBw.out hb_)
                      clear hg_ hbox_ hb_
                      refine hK.out _ _ ⟨((HBs.out.block _ (blk_lt HXB0.out)).trans HXB0.out), ((HBs.out.block _ (blk_lt HXB1.out)).trans HXB1.out)⟩ (fun hHeld => ?_)
                      clear hK K
                      refine norm_ (a' := ?_) ?_ ?_
                      rotate_left
                      · show Act.put _ (some 12) _ = _
                        simp only [Act.put, List.setIfInBounds_toArray, List.set_cons_zero, List.set_cons_succ, i64_w, i32_w]
                        rfl
                      refine one_ (i := 1) (N := some 61) #[true, true, true, false, false, true, false] rfl rfl (by kernel_rfl) (by decide) (fun K hK => ?_)
                      refine goes_ Try.func40 (by kernel_rfl) rfl #[.agg #[.slice A0_0 l0_0.length c0_0, .slice A0_1 l0_1.length c0_1, .int .i64 a0_2, .slice A0_3 l0_3.length c0_3]] (by rfl) rfl rfl (by (try simp only [List.map_toArray, List.map_cons, List.map_nil]); first | done | rfl | (simp only [List.length_drop, List.length_take]; rfl)) ?_
                      with_reducible refine (laws_toState.calls k _ _ l0_0 _ _ l0_1 a0_2 _ _ l0_3 t179 t182 t185 t186 _ (Kd.C_below HR0_0.out HBw.out) (HC0_0.out) (Kd.C_below HR0_1.out HBw.out) (HC0_1.out) (Kd.C_below HR0_3.out HBw.out) (HC0_3.out) A43.out).mono ?_
                      rintro e wn_ ⟨vr0_, vr1_, vr2_, rfl, hvr0_, hvr1_, hvr2_, hb_⟩
                      refine ⟨_, rfl, ?_⟩
                      have F228 := Aside0.mk (Kd.R_lower hvr0_ HBs.out.size)
                      have F231 := Aside0.mk (Kd.R_lower hvr1_ HBs.out.size)
                      have F234 := Aside0.mk (Kd.R_lower hvr2_ HBs.out.size)
                      obtain ⟨Ao226, co227, eo_⟩ := Kd.R_slice F228.out
                      subst eo_
                      obtain ⟨Ao229, co230, eo_⟩ := Kd.R_slice F231.out
                      subst eo_
                      obtain ⟨Ao232, co233, eo_⟩ := Kd.R_slice F234.out
                      subst eo_
                      clear hvr0_ hvr1_ hvr2_
                      replace HBox := Aside0.mk ((hb_.block _ (blk_lt HBox.out)).trans HBox.out)
                      replace HBs := Aside0.mk (below_step HBs.out hb_)
                      replace HBw := Aside0.mk (below_step HBw.out hb_)
                      clear hb_
                      refine hK.out _ _ ⟨((HBs.out.block _ (blk_lt HXB0.out)).trans HXB0.out), ((HBs.out.block _ (blk_lt HXB1.out)).trans HXB1.out)⟩ (fun hHeld => ?_)
                      clear hK K
                      refine norm_ (a' := ?_) ?_ ?_
                      rotate_left
                      · show Act.put _ (some 61) _ = _
                        simp only [Act.put, List.setIfInBounds_toArray, List.set_cons_zero, List.set_cons_succ, i64_w, i32_w]
                        rfl
                      refine one_ (i := 3) (N := some 63) #[true, true, true, true, false, true, false] rfl rfl (by kernel_rfl) (by decide) (fun K hK => ?_)
                      refine goes_ Try.func12 (by kernel_rfl) rfl #[.agg #[.int .u32 a1_0, .int .i64 a1_1, .int .u32 a1_2, .int .u32 a1_3]] (by rfl) rfl rfl (by (try simp only [List.map_toArray, List.map_cons, List.map_nil]); first | done | rfl | (simp only [List.length_drop, List.length_take]; rfl)) ?_
                      with_reducible refine (laws_toFrame.calls a1_0 a1_1 a1_2 a1_3 t189 t190 t191 t192 _  A44.out).mono ?_
                      rintro e wn_ ⟨rfl, hb_⟩
                      refine ⟨_, rfl, ?_⟩
                      replace HBox := Aside0.mk ((hb_.block _ (blk_lt HBox.out)).trans HBox.out)
                      replace F228 := Aside0.mk (Kd.R_below F228.out hb_)
                      replace F231 := Aside0.mk (Kd.R_below F231.out hb_)
                      replace F234 := Aside0.mk (Kd.R_below F234.out hb_)
                      replace HBs := Aside0.mk (below_step HBs.out hb_)
                      replace HBw := Aside0.mk (below_step HBw.out hb_)
                      clear hb_
                      refine hK.out _ _ ⟨((HBs.out.block _ (blk_lt HXB0.out)).trans HXB0.out), ((HBs.out.block _ (blk_lt HXB1.out)).trans HXB1.out)⟩ (fun hHeld => ?_)
                      clear hK K
                      refine norm_ (a' := ?_) ?_ ?_
                      rotate_left
                      · show Act.put _ (some 63) _ = _
                        simp only [Act.put, List.setIfInBounds_toArray, List.set_cons_zero, List.set_cons_succ, i64_w, i32_w]
                        rfl
                      refine one_ (i := 4) (N := some 64) #[true, true, true, true, true, true, false] rfl rfl (by kernel_rfl) (by decide) (fun K hK => ?_)
                      refine goes_ Try.func41 (by kernel_rfl) rfl #[.agg #[.slice Ao226 t179.length co227, .slice Ao229 t182.length co230, .int .i64 t185, .slice Ao232 t186.length co233], .agg #[.int .u32 t189, .int .i64 t190, .int .u32 t191, .int .u32 t192]] (by rfl) rfl rfl (by (try simp only [List.map_toArray, List.map_cons, List.map_nil]); first | done | rfl | (simp only [List.length_drop, List.length_take]; rfl)) ?_
                      with_reducible refine (impl_ApplyFrame.calls _ _ t179 _ _ t182 t185 _ _ t186 t189 t190 t191 t192 t193 t194 t197 t200 t201 _ ((Kd.R_reads' F228.out).2.2) (R_capn F228.out) ((Kd.R_reads' F231.out).2.2) (R_capn F231.out) ((Kd.R_reads' F234.out).2.2) (R_capn F234.out) A45.out).mono ?_
                      rintro e wn_ ⟨vr3_, vr4_, vr5_, rfl, hvr3_, hvr4_, hvr5_, hb_⟩
                      refine ⟨_, rfl, ?_⟩
                      have F237 := Aside0.mk (Kd.R_lower hvr3_ HBs.out.size)
                      have F240 := Aside0.mk (Kd.R_lower hvr4_ HBs.out.size)
                      have F243 := Aside0.mk (Kd.R_lower hvr5_ HBs.out.size)
                      obtain ⟨Ao235, co236, eo_⟩ := Kd.R_slice F237.out
                      subst eo_
                      obtain ⟨Ao238, co239, eo_⟩ := Kd.R_slice F240.out
                      subst eo_
                      obtain ⟨Ao241, co242, eo_⟩ := Kd.R_slice F243.out
                      subst eo_
                      clear hvr3_ hvr4_ hvr5_
                      replace HBox := Aside0.mk ((hb_.block _ (blk_lt HBox.out)).trans HBox.out)
                      replace F228 := Aside0.mk (Kd.R_below F228.out hb_)
                      replace F231 := Aside0.mk (Kd.R_below F231.out hb_)
                      replace F234 := Aside0.mk (Kd.R_below F234.out hb_)
                      replace HBs := Aside0.mk (below_step HBs.out hb_)
                      replace HBw := Aside0.mk (below_step HBw.out hb_)
                      clear hb_
                      refine hK.out _ _ ⟨((HBs.out.block _ (blk_lt HXB0.out)).trans HXB0.out), ((HBs.out.block _ (blk_lt HXB1.out)).trans HXB1.out)⟩ (fun hHeld => ?_)
                      clear hK K
                      refine norm_ (a' := ?_) ?_ ?_
                      rotate_left
                      · show Act.put _ (some 64) _ = _
                        simp only [Act.put, List.setIfInBounds_toArray, List.set_cons_zero, List.set_cons_succ, i64_w, i32_w]
                        rfl
                      exact norm_ (by simp only [putAll, Act.put, List.setIfInBounds_toArray, List.set_cons_zero, List.set_cons_succ]) (hCont (gn_, .slice Ao226 t179.length co227, .slice Ao229 t182.length co230, .slice Ao232 t186.length co233, .slice Ao235 t194.length co236, .slice Ao238 t197.length co239, .slice Ao241 t201.length co242) _ ⟨hHeld, HBs.out, HGn.out, HBox.out, F237.out, F240.out, F243.out⟩)
                  rintro ⟨g244, vr0_, vr1_, vr2_, vr3_, vr4_, vr5_⟩ w245 ⟨hHeld, hB_, hG_, hbox_, hvr3_, hvr4_, hvr5_⟩
                  obtain ⟨Ao235, co236, eo_⟩ := Kd.R_slice hvr3_
                  subst eo_
                  obtain ⟨Ao238, co239, eo_⟩ := Kd.R_slice hvr4_
                  subst eo_
                  obtain ⟨Ao241, co242, eo_⟩ := Kd.R_slice hvr5_
                  subst eo_
                  have H246 := Aside0.mk (Hist.step H222.out hB_)
                  clear H222 hB_ HBs HBw HXB0 HXB1
                  refine norm_ (a' := ?_) ?_ ?_
                  rotate_left
                  · simp only [putAll, Act.put, List.setIfInBounds_toArray, List.set_cons_zero, List.set_cons_succ]
                    rfl
                  have G248 := Aside0.mk hG_
                  have L249 := Aside0.mk (blk_lt hbox_)
                  have HBox := Aside0.mk hbox_
                  have F237 := Aside0.mk (Kd.R_mono (Kd.R_bound hvr3_) (fun k_ hk_ => (⟨hk_.1, hk_.2.1, hk_.2.2.1⟩ : _ ∧ w223.heap.size ≤ k_ ∧ k_ < w245.heap.size)))
                  clear hvr3_
                  have F240 := Aside0.mk (Kd.R_mono (Kd.R_bound hvr4_) (fun k_ hk_ => (⟨hk_.1, hk_.2.1, hk_.2.2.1⟩ : _ ∧ w223.heap.size ≤ k_ ∧ k_ < w245.heap.size)))
                  clear hvr4_
                  have F243 := Aside0.mk (Kd.R_mono (Kd.R_bound hvr5_) (fun k_ hk_ => (⟨hk_.1, hk_.2.1, hk_.2.2.1⟩ : _ ∧ w223.heap.size ≤ k_ ∧ k_ < w245.heap.size)))
                  clear hvr5_
                  clear hG_ hbox_
                  refine one_ (i := 6) (N := none) #[true, true, true, true, true, true, true] rfl rfl (by kernel_rfl) (by decide) (fun K hK => ?_)
                  refine st_step (by rfl) rfl rfl ?hp (cs := #[.bool t193, .slice Ao235 t194.length co236, .slice Ao238 t197.length co239, .int .i64 t200, .slice Ao241 t201.length co242]) ?hx HBox.out (by kernel_rfl) rfl (by simp [Value.oneCell']) ?_
                  case hp => rfl
                  case hx => rfl
                  intro w250 hbx_ hs_
                  have n_ := Aside0.mk (R_other F237.out HBox.out (by decide) hs_)
                  clear F237
                  have F237 := n_
                  clear n_
                  have n_ := Aside0.mk (R_other F240.out HBox.out (by decide) hs_)
                  clear F240
                  have F240 := n_
                  clear n_
                  have n_ := Aside0.mk (R_other F243.out HBox.out (by decide) hs_)
                  clear F243
                  have F243 := n_
                  clear n_
                  have H251 : Aside0 (Hist w [(w250, w223.heap.size, w245.heap.size), (w164, w161.heap.size, w164.heap.size), (w206, w137.heap.size, w150.heap.size), (w132, w99.heap.size, w124.heap.size), (w191, w97.heap.size, w99.heap.size), (w97, w70.heap.size, w92.heap.size), (w58, w49.heap.size, w58.heap.size), (w49, w.heap.size, w49.heap.size)] w250) := ⟨Hist.mark' (w := w245) (b := w223.heap.size) (t := w245.heap.size) (l1 := []) (l2 := [(w164, w161.heap.size, w164.heap.size), (w206, w137.heap.size, w150.heap.size), (w132, w99.heap.size, w124.heap.size), (w191, w97.heap.size, w99.heap.size), (w97, w70.heap.size, w92.heap.size), (w58, w49.heap.size, w58.heap.size), (w49, w.heap.size, w49.heap.size)]) (by simp only [List.cons_append, List.nil_append]) (by simp only [List.cons_append, List.nil_append]) H246.out hs_ (fun k_ hk_ => by rw [hk_]; exact ⟨G248.out, L249.out⟩)⟩
                  have B247 := Aside0.mk hbx_
                  clear H246 hs_ hbx_ HBox
                  refine hK.out _ _ ⟨(blk_fix2 B54.out ⟨G55.out, L56.out⟩ H251.out.fixes.tl.tl.tl.tl.tl.tl.tl.hd), (blk_fix2 B63.out ⟨G64.out, L65.out⟩ H251.out.fixes.tl.tl.tl.tl.tl.tl.hd)⟩ (fun hHeld => ?_)
                  clear hK K
                  refine done_ (by kernel_rfl) ?_
                  try dsimp only
                  go_wp2_with (first | ((with_reducible refine gate_dst (N := 65) rfl ?_); refine ld ?hw rfl ?hx (blk_fix2 B247.out ⟨G248.out, L249.out⟩ H251.out.fixes.hd) Try.underlying64 rfl (by kernel_rfl) ?_; (case hw => rfl); (case hx => rfl); refine normL (a' := ?_) ?hn ?_; (case hn => first | (simp only [Act.put, List.setIfInBounds_toArray, List.set_cons_zero, List.set_cons_succ]; rfl) | rfl)) | ((with_reducible refine gate_dst (N := 66) rfl ?_); refine ld ?hw rfl ?hx (blk_fix2 B94.out ⟨G95.out, L96.out⟩ H251.out.fixes.tl.tl.tl.tl.tl.hd) Try.underlying64 rfl (by kernel_rfl) ?_; (case hw => rfl); (case hx => rfl); refine normL (a' := ?_) ?hn ?_; (case hn => first | (simp only [Act.put, List.setIfInBounds_toArray, List.set_cons_zero, List.set_cons_succ]; rfl) | rfl)) | (((with_reducible refine gate_callee (f := 42) rfl ?_)); refine goesW (some 67) rfl ?hw Try.func42 (by kernel_rfl) rfl #[.agg #[.bool t193, .slice Ao235 t194.length co236, .slice Ao238 t197.length co239, .int .i64 t200, .slice Ao241 t201.length co242], .agg #[.bool t118, .slice Ao82 t119.length co83, .slice Ao85 t122.length co86, .int .i64 t125, .slice Ao88 t126.length co89]] rfl (by (try simp only [List.map_toArray, List.map_cons, List.map_nil]); first | done | rfl | (simp only [List.length_drop, List.length_take]; rfl)) ?_; (case hw => rfl); with_reducible refine (laws_eqApplyRes.calls k t193 _ _ t194 _ _ t197 t200 _ _ t201 t118 _ _ t119 _ _ t122 t125 _ _ t126 true _ ?side1 ?side2 ?side3 ?side4 ?side5 ?side6 ?side7 ?side8 ?side9 ?side10 ?side11 ?side12 A46.out).mono ?_; (case side1 => exact (Kd.R_reads' (R_fix2 F237.out H251.out.fixes.hd)).2.2); (case side2 => exact R_capn (R_fix2 F237.out H251.out.fixes.hd)); (case side3 => exact (Kd.R_reads' (R_fix2 F240.out H251.out.fixes.hd)).2.2); (case side4 => exact R_capn (R_fix2 F240.out H251.out.fixes.hd)); (case side5 => exact (Kd.R_reads' (R_fix2 F243.out H251.out.fixes.hd)).2.2); (case side6 => exact R_capn (R_fix2 F243.out H251.out.fixes.hd)); (case side7 => exact (Kd.R_reads' (R_fix2 F84.out H251.out.fixes.tl.tl.tl.tl.tl.hd)).2.2); (case side8 => exact R_capn (R_fix2 F84.out H251.out.fixes.tl.tl.tl.tl.tl.hd)); (case side9 => exact (Kd.R_reads' (R_fix2 F87.out H251.out.fixes.tl.tl.tl.tl.tl.hd)).2.2); (case side10 => exact R_capn (R_fix2 F87.out H251.out.fixes.tl.tl.tl.tl.tl.hd)); (case side11 => exact (Kd.R_reads' (R_fix2 F90.out H251.out.fixes.tl.tl.tl.tl.tl.hd)).2.2); (case side12 => exact R_capn (R_fix2 F90.out H251.out.fixes.tl.tl.tl.tl.tl.hd)); rintro e w252 ⟨rfl, hb253⟩; refine ⟨_, rfl, ?_⟩; have H254 := Aside0.mk (Hist.pass H251.out hb253); clear H251; clear hb253; refine normL (a' := ?_) ?hn ?_; (case hn => first | (simp only [Act.put, List.setIfInBounds_toArray, List.set_cons_zero, List.set_cons_succ]; rfl) | rfl)))
                  go_ret
                  exact ⟨rfl, by first | exact H254.out.below | exact Drawn0.refl _⟩
                · rw [if_neg c47] at H
                  exact absurd H (by simp)
              · rw [if_neg c42] at H
                exact absurd H (by simp)
          · rw [if_neg c38] at H
            exact absurd H (by simp)
      · rw [if_neg c34] at H
        exact absurd H (by simp)
    · rw [if_neg c31] at H
      exact absurd H (by simp)
end Go.Proofs.Ytgfadfahbhcllaa.Q
end
section
namespace Go.Proofs.Ytgfadfahbhcllaa.O
open Go.RowKit Go.Proofs.YtgfadfahbhcllaaW.PrintWords
def Opens {α : Type} (P : Program) (t : TypeId) (d : Kd α) (ok : α → Prop) : Prop :=
  ∀ (H : Type) (enc : TypeId × Value → H) (w : World) (fuel : Nat) (cs : List Value) (y : DataW H × List MemPlace),
    DataW.trod enc P w 0 (fun _ => true) true fuel t cs = some y → ∃ x, d.K w x cs ∧ ok x
section
variable {α β : Type} {P : Program} {t e : TypeId} {d : Kd α} {ok : α → Prop}
theorem opens_int {k : IntKind} (ht : P.underlying t = some (.int k)) : Opens P t (Kd.int k) (fun n => (Lit.int k n).wf = true) := by
  intro H enc w fuel cs y h
  obtain ⟨n, rfl, _, hw⟩ := DataW.trod_int ht h
  exact ⟨n, rfl, hw⟩
theorem list_of {p : Nat → α → Prop} : ∀ n, (∀ i, i < n → ∃ x, p i x) → ∃ xs : List α, xs.length = n ∧ ∀ i x, xs[i]? = some x → p i x
  | 0, _ => ⟨[], rfl, by simp⟩
  | n + 1, h => by
    obtain ⟨xs, hl, hp⟩ := list_of n (fun i hi => h i (by omega))
    obtain ⟨x, hx⟩ := h n (by omega)
    refine ⟨xs ++ [x], by simp [hl], fun i z hz => ?_⟩
    by_cases hi : i < n
    · rw [List.getElem?_append_left (by omega)] at hz
      exact hp i z hz
    · have : i < n + 1 := by
        have := (List.getElem?_eq_some_iff.1 hz).1
        simp [hl] at this
        exact this
      obtain rfl : i = n := by omega
      rw [List.getElem?_append_right (by omega)] at hz
      simp [hl] at hz
      exact hz ▸ hx
theorem opens_slice (ht : P.underlying t = some (.slice e)) (hc : P.cellsOf e = d.sz) (he : Opens P e d ok) :
    Opens P t (Kd.slice e d) (fun xs => xs.length ≤ 9223372036854775807 ∧ ∀ x ∈ xs, ok x) := by
  intro H enc w fuel cs y h
  rcases DataW.trod_slice ht h with ⟨rfl, _⟩ | ⟨a, len, cap, elems, rest, n, _, rfl, _, _, hl, hm, hlen, hel, _, _⟩
  · exact ⟨[], ⟨none, 0, rfl, Nat.le_refl _, Kd.C_nil d w⟩, by simp, by simp⟩
  · have each : ∀ i, i < len → ∃ x, ∃ c, w.cells? 0 (a.add (i * d.sz)) d.sz = some c ∧ d.K w x c ∧ ok x := by
      intro i hi
      have h1 := hel i hi
      rw [hc, List.getElem?_eq_getElem (by omega)] at h1
      obtain ⟨c, h2, h3⟩ := Option.bind_eq_some_iff.1 h1
      obtain ⟨x, hx, hok⟩ := he H enc w n c _ h3
      exact ⟨x, c, h2, hx, hok⟩
    obtain ⟨xs, hxl, hxs⟩ := list_of len each
    refine ⟨xs, ⟨some a, cap, by rw [hxl], by omega, ?_⟩, by unfold maxLen at hm; omega, fun x hx => ?_⟩
    · refine ⟨rfl, by unfold maxLen at hm; omega, fun _ => ⟨a, rfl, fun j p hp => ?_⟩⟩
      obtain ⟨c, h2, h3, _⟩ := hxs j p hp
      refine ⟨c, d.K_len h3, h3, fun i u hu => ?_⟩
      have hi : i < c.length := (List.getElem?_eq_some_iff.1 hu).1
      have h4 := World.cells?_some h2
      rw [d.K_len h3] at hi
      rw [← Addr.add_add, (h4.2.2 i hi), hu]
    · obtain ⟨i, hi⟩ := List.getElem?_of_mem hx
      obtain ⟨_, _, _, hok⟩ := hxs i x hi
      exact hok
def OpensFs {α : Type} (P : Program) (fs : List Field) (off : Nat) (d : Kd α) (ok : α → Prop) : Prop :=
  ∀ (H : Type) (enc : TypeId × Value → H) (w : World) (n : Nat) (cs : List Value) (xs : List (DataW H × List MemPlace)),
    cs.length = off + d.sz → (∀ (i : Nat) (f : Field), fs[i]? = some f → DataW.trod enc P w 0 (fun _ => true) true n f.type ((cs.drop f.offset).take (P.cellsOf f.type)) = xs[i]?) →
    fs.length ≤ xs.length → ∃ x, d.K w x (cs.drop off) ∧ ok x
theorem opensFs_one {f : Field} {off : Nat} (ho : f.offset = off) (hc : P.cellsOf f.type = d.sz) (h : Opens P f.type d ok) : OpensFs P [f] off d ok := by
  intro H enc w n cs xs hl hf hx
  have h1 := hf 0 f rfl
  simp only [List.length_cons, List.length_nil] at hx
  rw [List.getElem?_eq_getElem (by omega)] at h1
  rw [ho, hc, List.take_of_length_le (by simp; omega)] at h1
  exact h H enc w n _ _ h1
theorem opensFs_cons {f : Field} {fs : List Field} {off : Nat} {d2 : Kd β} {ok2 : β → Prop} (ho : f.offset = off) (hc : P.cellsOf f.type = d.sz) (h : Opens P f.type d ok)
    (h2 : OpensFs P fs (off + d.sz) d2 ok2) : OpensFs P (f :: fs) off (Kd.pair d d2) (fun x => ok x.1 ∧ ok2 x.2) := by
  intro H enc w n cs xs hl hf hx
  have hl' : cs.length = off + (d.sz + d2.sz) := hl
  simp only [List.length_cons] at hx
  have h1 := hf 0 f rfl
  rw [List.getElem?_eq_getElem (by omega)] at h1
  rw [ho, hc] at h1
  obtain ⟨x, hxk, hxo⟩ := h H enc w n _ _ h1
  obtain ⟨y, hyk, hyo⟩ := h2 H enc w n cs (xs.drop 1) (by omega) (fun i g hg => by
    have := hf (i + 1) g (by simpa using hg)
    rw [this, List.getElem?_drop]
    congr 1
    omega) (by simp; omega)
  refine ⟨(x, y), ⟨_, _, ?_, hxk, hyk⟩, hxo, hyo⟩
  rw [← List.drop_drop]
  exact (List.take_append_drop _ _).symm
theorem opens_struct {fs : List Field} (ht : P.underlying t = some (.struct fs.toArray)) (hc : P.cellsOf t = d.sz) (h : OpensFs P fs 0 d ok) (f : β → α) (g : α → β) (hfg : ∀ a, f (g a) = a) :
    Opens P t (Kd.iso d f) (fun x => ok (f x)) := by
  intro H enc w fuel cs y h0
  obtain ⟨xs, n, _, _, hlen, hxl, hf⟩ := DataW.trod_struct ht h0
  obtain ⟨a, hk, ho⟩ := h H enc w n cs xs (by omega) (fun i f hi => hf i f (by simpa using hi)) (by simp at hxl; omega)
  refine ⟨g a, ?_, ?_⟩
  · show d.K w (f (g a)) cs
    rw [hfg]
    simpa using hk
  · show ok (f (g a))
    rw [hfg]
    exact ho
end
end Go.Proofs.Ytgfadfahbhcllaa.O
end
section
namespace Go.Proofs.Ytgfadfahbhcllaa.Q
open Go.RowKit Go.Proofs.YtgfadfahbhcllaaW.PrintWords Go.Proofs.Ytgfadfahbhcllaa.O
def W24 (x : S24) : Prop := (Lit.int .u32 x.f0).wf = true ∧ (Lit.int .i64 x.f1).wf = true ∧ (Lit.int .u32 x.f2).wf = true ∧ (Lit.int .u32 x.f3).wf = true
theorem opens_T24 : Opens Try.prog 24 k24 W24 := opens_struct Try.underlying24 (by kernel_rfl) (opensFs_cons rfl (by kernel_rfl) (opens_int Try.underlying22) (opensFs_cons rfl (by kernel_rfl) (opens_int Try.underlying2) (opensFs_cons rfl (by kernel_rfl) (opens_int Try.underlying22) (opensFs_one rfl (by kernel_rfl) (opens_int Try.underlying22))))) (fun x : S24 => (x.f0, x.f1, x.f2, x.f3)) (fun a => (⟨a.1, a.2.1, a.2.2.1, a.2.2.2⟩ : S24)) (fun _ => rfl)
def W128 (x : S128) : Prop := (Lit.int .i64 x.f0).wf = true ∧ (Lit.int .i64 x.f1).wf = true
theorem opens_T128 : Opens Try.prog 128 k128 W128 := opens_struct Try.underlying128 (by kernel_rfl) (opensFs_cons rfl (by kernel_rfl) (opens_int Try.underlying2) (opensFs_one rfl (by kernel_rfl) (opens_int Try.underlying2))) (fun x : S128 => (x.f0, x.f1)) (fun a => (⟨a.1, a.2⟩ : S128)) (fun _ => rfl)
def W58 (x : S58) : Prop := (x.f0.length ≤ 9223372036854775807 ∧ ∀ z_ ∈ x.f0, (Lit.int .i64 z_).wf = true) ∧ (x.f1.length ≤ 9223372036854775807 ∧ ∀ z_ ∈ x.f1, (Lit.int .i64 z_).wf = true) ∧ (Lit.int .i64 x.f2).wf = true ∧ (x.f3.length ≤ 9223372036854775807 ∧ ∀ z_ ∈ x.f3, W128 z_)
theorem opens_T58 : Opens Try.prog 58 k58 W58 := opens_struct Try.underlying58 (by kernel_rfl) (opensFs_cons rfl (by kernel_rfl) (opens_slice Try.underlying39 (by kernel_rfl) (opens_int Try.underlying2)) (opensFs_cons rfl (by kernel_rfl) (opens_slice Try.underlying39 (by kernel_rfl) (opens_int Try.underlying2)) (opensFs_cons rfl (by kernel_rfl) (opens_int Try.underlying2) (opensFs_one rfl (by kernel_rfl) (opens_slice Try.underlying56 (by kernel_rfl) opens_T128))))) (fun x : S58 => (x.f0, x.f1, x.f2, x.f3)) (fun a => (⟨a.1, a.2.1, a.2.2.1, a.2.2.2⟩ : S58)) (fun _ => rfl)
end Go.Proofs.Ytgfadfahbhcllaa.Q
end
section
namespace Go.Proofs.Ytgfadfahbhcllaa.Q
open Go.RowKit Go.Proofs.YtgfadfahbhcllaaW.PrintWords Go.Proofs.YtgfadfahbhcllaaW.PrintLast Go.Proofs.Ytgfadfahbhcllaa.O
def laws_FnExactApplyFrame.Pure : Prop := ∀ (x0 : S58) (x1 : S24) , W58 x0 → W24 x1 → ∃ k, laws_FnExactApplyFrame.f k x0.f0 x0.f1 x0.f2 x0.f3 x1.f0 x1.f1 x1.f2 x1.f3 = some true
end Go.Proofs.Ytgfadfahbhcllaa.Q
end
section
namespace Go.Proofs.Ytgfadfahbhcllaa.P
open Go.RowKit Go.Proofs.YtgfadfahbhcllaaW.PrintWords Go.Proofs.Ytgfadfahbhcllaa.Q
set_option linter.unusedVariables false
set_option linter.unusedSimpArgs false
theorem toInt64S_ev (l : List Int) (h : l.length ≤ 35184372088832) : Ev (fun k => laws_toInt64S.f k l) l := by
  have h1 := copy_ends (fun k y i => laws_toInt64S.l0 k l y i) id l (List.replicate ((l.length : Int)).toNat 0) (by simp) ?_ ?_
  · rw [List.map_id] at h1
    refine Ev.congr (fun k => ?_) h1
    simp only [laws_toInt64S.f]
    rw [if_pos (by omega), if_pos (by omega)]
  · intro i a y ha hi hy
    refine ⟨0, fun k _ => ?_⟩
    simp only [laws_toInt64S.l0]
    rw [if_pos (by omega), if_pos (by omega), if_pos (by omega), w64s hi (by omega), rd_at ha]
    rfl
  · intro k y hy
    simp only [laws_toInt64S.l0]
    rw [if_neg (by omega)]
theorem eqInt64S_ev (l : List Int) (h : l.length ≤ 4611686018427387904) : Ev (fun k => laws_eqInt64S.f k l l) true := by
  refine Ev.congr (fun k => ?_) (each_ends (fun k i => laws_eqInt64S.l0 k l l i) l.length true ?_ ?_)
  · simp only [laws_eqInt64S.f]
    rw [if_pos trivial]
  · intro i hi
    refine ⟨0, fun k _ => ?_⟩
    simp only [laws_eqInt64S.l0]
    rw [if_pos (by omega), if_pos (by omega), if_pos (by omega), if_pos trivial, w64s hi (by omega)]
  · intro k
    simp only [laws_eqInt64S.l0]
    rw [if_neg (by omega)]
theorem szInt64S_is (l : List Int) (a : Int) (h0 : 0 ≤ a) (h1 : a ≤ 1048576) (hl : l.length ≤ 9223372036854775807) : ∃ t, laws_szInt64S.f l a = some t ∧ (t < 0 ∨ (t = a - l.length ∧ 0 ≤ t)) := by
  simp only [laws_szInt64S.f]
  rw [w64 (by omega) (by omega)]
  by_cases h : a - (l.length : Int) < 0
  · rw [if_pos h]
    exact ⟨_, rfl, .inl (by omega)⟩
  · rw [if_neg h]
    exact ⟨_, rfl, .inr ⟨rfl, by omega⟩⟩
def mkInt64S (m : Int) (n : Nat) : List Int := ups (fun c => c) m n
theorem mkInt64S_length (m : Int) (n : Nat) : (mkInt64S m n).length = n := ups_length _ _ _
theorem mkInt64S_at (m : Int) {n i : Nat} (h : i < n) : (mkInt64S m n)[i]? = some ((fun c => c) (m + i)) := ups_at _ m h
theorem markInt64S_ev (l : List Int) (m : Int) (h0 : 0 ≤ m) (hm : m + l.length ≤ 4611686018427387904) : Ev (fun k => laws_markInt64S.f k l m) (m + l.length, mkInt64S m l.length) := by
  refine mark_ends (fun k y c i => laws_markInt64S.l0 k y c i) (fun c => c) l m h0 hm ?_ ?_
  · intro k i y c hi hy
    simp only [laws_markInt64S.l0]
    rw [if_pos (by omega), if_pos (by omega)]
    rfl
  · intro k y c hy
    simp only [laws_markInt64S.l0]
    rw [if_neg (by omega)]
theorem heldInt64S_ev (n : Nat) (m : Int) (h0 : 0 ≤ m) (hm : m + n ≤ 4611686018427387904) : Ev (fun k => laws_heldInt64S.f k (mkInt64S m n) m) (m + n) := by
  refine held_ends (fun k c i => laws_heldInt64S.l0 k (mkInt64S m n) c i) n m h0 hm ?_ ?_
  · intro k i hi
    simp only [laws_heldInt64S.l0, mkInt64S_length]
    rw [if_pos (by omega), if_pos (by omega), rd_at (mkInt64S_at m hi), if_pos rfl]
  · intro k
    simp only [laws_heldInt64S.l0, mkInt64S_length]
    rw [if_neg (by omega)]
end Go.Proofs.Ytgfadfahbhcllaa.P
end
section
namespace Go.Proofs.Ytgfadfahbhcllaa.P
open Go.RowKit Go.Proofs.YtgfadfahbhcllaaW.PrintWords Go.Proofs.Ytgfadfahbhcllaa.Q
set_option linter.unusedVariables false
set_option linter.unusedSimpArgs false
def cvTapRec (p : S128) : S111 := ⟨p.f0, p.f1⟩
theorem rdTapRec_at {xs : List S111} {i : Nat} {a : S111} (h : xs[i]? = some a) : rd_T111 xs (i : Int) = a := getD_at h
theorem rdLTapRec_at {xs : List S128} {i : Nat} {a : S128} (h : xs[i]? = some a) : rd_T128 xs (i : Int) = a := getD_at h
theorem toTapRecS_ev (l : List S128) (h : l.length ≤ 1048576) : Ev (fun k => laws_toTapRecS.f k l) (l.map cvTapRec) := by
  have h1 := copy_ends (fun k y i => laws_toTapRecS.l0 k l y i) cvTapRec l (List.replicate ((l.length : Int)).toNat z111) (by simp) ?_ ?_
  · refine Ev.congr (fun k => ?_) h1
    simp only [laws_toTapRecS.f]
    rw [if_pos (by omega), if_pos (by omega)]
  · intro i a y ha hi hy
    refine ⟨0, fun k _ => ?_⟩
    simp only [laws_toTapRecS.l0, laws_toTapRec.f, Option.bind_some]
    rw [if_pos (by omega), if_pos (by omega), if_pos (by omega), rdLTapRec_at ha, w64s hi (by omega)]
    rfl
  · intro k y hy
    simp only [laws_toTapRecS.l0]
    rw [if_neg (by omega)]
theorem eqTapRecS_ev (l : List S111) (h : l.length ≤ 4611686018427387904) : Ev (fun k => laws_eqTapRecS.f k l l) true := by
  refine Ev.congr (fun k => ?_) (each_ends (fun k i => laws_eqTapRecS.l0 k l l i) l.length true ?_ ?_)
  · simp only [laws_eqTapRecS.f]
    rw [if_pos trivial]
  · intro i hi
    refine ⟨0, fun k _ => ?_⟩
    simp only [laws_eqTapRecS.l0, laws_eqTapRec.f]
    rw [if_pos (by omega), if_pos (by omega), if_pos (by omega), w64s hi (by omega)]
    simp only [if_true, Option.bind_some]
  · intro k
    simp only [laws_eqTapRecS.l0]
    rw [if_neg (by omega)]
theorem szTapRecS_is (l : List S128) (a : Int) (h0 : 0 ≤ a) (h1 : a ≤ 1048576) (hl : l.length ≤ 9223372036854775807) : ∃ t, laws_szTapRecS.f l a = some t ∧ (t < 0 ∨ (t = a - l.length ∧ 0 ≤ t)) := by
  simp only [laws_szTapRecS.f]
  rw [w64 (by omega) (by omega)]
  by_cases h : a - (l.length : Int) < 0
  · rw [if_pos h]
    exact ⟨_, rfl, .inl (by omega)⟩
  · rw [if_neg h]
    exact ⟨_, rfl, .inr ⟨rfl, by omega⟩⟩
end Go.Proofs.Ytgfadfahbhcllaa.P
end
section
namespace Go.Proofs.Ytgfadfahbhcllaa.P
open Go.RowKit Go.Proofs.YtgfadfahbhcllaaW.PrintWords Go.Proofs.Ytgfadfahbhcllaa.Q
set_option linter.unusedVariables false
set_option linter.unusedSimpArgs false
theorem szState_is (l0 l1 : List Int) (a2 : Int) (l3 : List S128) (a : Int) (h0 : 0 ≤ a) (h1 : a ≤ 1048576) (hl0 : l0.length ≤ 9223372036854775807) (hl1 : l1.length ≤ 9223372036854775807) (hl3 : l3.length ≤ 9223372036854775807) :
    ∃ t, laws_szState.f l0 l1 a2 l3 a = some t ∧ (t < 0 ∨ (0 ≤ t ∧ t ≤ a ∧ (l0.length : Int) ≤ a ∧ (l1.length : Int) ≤ a ∧ (l3.length : Int) ≤ a)) := by
  obtain ⟨t, ht, hc⟩ := szInt64S_is l0 a h0 h1 hl0
  simp only [laws_szState.f, ht, Option.bind_some]
  rcases hc with hc | ⟨hc, hc0⟩
  · exact ⟨-1, if_pos hc, .inl (by omega)⟩
  · rw [if_neg (by omega)]
    obtain ⟨t2, h2, hc2⟩ := szInt64S_is l1 t hc0 (by omega) hl1
    simp only [h2, Option.bind_some]
    rcases hc2 with hc2 | ⟨hc2, hc20⟩
    · exact ⟨-1, if_pos hc2, .inl (by omega)⟩
    · rw [if_neg (by omega)]
      obtain ⟨t3, h3, hc3⟩ := szTapRecS_is l3 t2 hc20 (by omega) hl3
      simp only [h3, Option.bind_some]
      rcases hc3 with hc3 | ⟨hc3, hc30⟩
      · exact ⟨-1, if_pos hc3, .inl (by omega)⟩
      · exact ⟨t3, if_neg (by omega), .inr ⟨by omega, by omega, by omega, by omega, by omega⟩⟩
theorem toState_ev (l0 l1 : List Int) (a2 : Int) (l3 : List S128) (h0 : l0.length ≤ 1048576) (h1 : l1.length ≤ 1048576) (h3 : l3.length ≤ 1048576) : Ev (fun k => laws_toState.f k l0 l1 a2 l3) (l0, l1, a2, l3.map cvTapRec) := by
  simp only [laws_toState.f]
  exact Ev.bind (toInt64S_ev l0 (by omega)) (Ev.bind (toInt64S_ev l1 (by omega)) (Ev.bind (toTapRecS_ev l3 (by omega)) (Ev.const rfl)))
theorem eqState_ev (l0 l1 : List Int) (a2 : Int) (l3 : List S111) (h0 : l0.length ≤ 4611686018427387904) (h1 : l1.length ≤ 4611686018427387904) (h3 : l3.length ≤ 4611686018427387904) : Ev (fun k => laws_eqState.f k l0 l1 a2 l3 l0 l1 a2 l3) true := by
  simp only [laws_eqState.f]
  exact Ev.bind (eqInt64S_ev l0 h0) (Ev.pos rfl (Ev.bind (eqInt64S_ev l1 h1) (Ev.pos rfl (Ev.pos trivial (Ev.bind (eqTapRecS_ev l3 h3) (Ev.pos rfl (Ev.const rfl)))))))
end Go.Proofs.Ytgfadfahbhcllaa.P
end
section
namespace Go.Proofs.Ytgfadfahbhcllaa.P
open Go.RowKit Go.Proofs.YtgfadfahbhcllaaW.PrintWords Go.Proofs.Ytgfadfahbhcllaa.Q
set_option linter.unusedVariables false
set_option linter.unusedSimpArgs false
def mkTapRecS (m : Int) (n : Nat) : List S111 := (List.range n).map fun (i : Nat) => (⟨m + 2 * (i : Int), m + 2 * (i : Int) + 1⟩ : S111)
theorem mkTapRecS_length (m : Int) (n : Nat) : (mkTapRecS m n).length = n := by simp [mkTapRecS]
theorem mkTapRecS_at (m : Int) {n i : Nat} (h : i < n) : (mkTapRecS m n)[i]? = some ⟨m + 2 * (i : Int), m + 2 * (i : Int) + 1⟩ := by simp [mkTapRecS, h]
theorem markTapRecS_ev (l : List S111) (m : Int) (h0 : 0 ≤ m) (hm : m + 2 * l.length ≤ 4611686018427387904) : Ev (fun k => laws_markTapRecS.f k l m) (m + 2 * l.length, mkTapRecS m l.length) := by
  have h := Ev.loop0 (fun k (s : List S111 × Int × Int) => laws_markTapRecS.l0 k s.1 s.2.1 s.2.2) (fun i => ((mkTapRecS m l.length).take i ++ l.drop i, m + 2 * (i : Int), (i : Int))) l.length (m + 2 * l.length, mkTapRecS m l.length) ?_ ?_
  · simp only [laws_markTapRecS.f]
    simpa using h
  · intro i hi
    refine ⟨0, fun k _ => ?_⟩
    have hy : ((mkTapRecS m l.length).take i ++ l.drop i).length = l.length := by simp [mkTapRecS_length]; omega
    have hat := mkTapRecS_at m hi
    simp only [laws_markTapRecS.l0]
    rw [if_pos (by omega), if_pos (by omega), Option.bind_some, w64s hi (by omega), w64 (n := m + 2 * (i : Int) + 1) (by omega) (by omega), w64 (n := m + 2 * (i : Int) + 1 + 1) (by omega) (by omega), Int.toNat_natCast]
    have e1 : rd_T111 (((mkTapRecS m l.length).take i ++ l.drop i).set i (⟨m + 2 * (i : Int), (rd_T111 ((mkTapRecS m l.length).take i ++ l.drop i) (i : Int)).f1⟩ : S111)) (i : Int) = ⟨m + 2 * (i : Int), (rd_T111 ((mkTapRecS m l.length).take i ++ l.drop i) (i : Int)).f1⟩ := rdTapRec_at (List.getElem?_set_self (by omega))
    rw [e1]
    show laws_markTapRecS.l0 k ((((mkTapRecS m l.length).take i ++ l.drop i).set i _).set i (⟨m + 2 * (i : Int), m + 2 * (i : Int) + 1⟩ : S111)) _ _ = _
    rw [List.set_set, take_set (mkTapRecS m l.length) l i _ hat (mkTapRecS_length _ _), show m + 2 * (i : Int) + 1 + 1 = m + 2 * ((i + 1 : Nat) : Int) from by omega]
  · refine Ev.last ⟨0, fun k _ => ?_⟩
    have hy : ((mkTapRecS m l.length).take l.length ++ l.drop l.length).length = l.length := by simp [mkTapRecS_length]
    simp only [laws_markTapRecS.l0]
    rw [if_neg (by omega), List.take_of_length_le (by simp [mkTapRecS_length]), List.drop_of_length_le (by omega), List.append_nil]
theorem heldTapRecS_ev (n : Nat) (m : Int) (h0 : 0 ≤ m) (hm : m + 2 * n ≤ 4611686018427387904) : Ev (fun k => laws_heldTapRecS.f k (mkTapRecS m n) m) (m + 2 * n) := by
  have h := Ev.loop0 (fun k (s : Int × Int) => laws_heldTapRecS.l0 k (mkTapRecS m n) s.1 s.2) (fun i => (m + 2 * (i : Int), (i : Int))) n (m + 2 * n) ?_ ?_
  · simp only [laws_heldTapRecS.f]
    simpa using h
  · intro i hi
    refine ⟨0, fun k _ => ?_⟩
    simp only [laws_heldTapRecS.l0, mkTapRecS_length]
    rw [if_pos (by omega), if_pos (by omega), rdTapRec_at (mkTapRecS_at m hi), w64s hi (by omega), w64 (n := m + 2 * (i : Int) + 1) (by omega) (by omega), w64 (n := m + 2 * (i : Int) + 1 + 1) (by omega) (by omega), if_pos rfl, if_pos rfl, show m + 2 * (i : Int) + 1 + 1 = m + 2 * ((i + 1 : Nat) : Int) from by omega]
  · refine Ev.last ⟨0, fun k _ => ?_⟩
    simp only [laws_heldTapRecS.l0, mkTapRecS_length]
    rw [if_neg (by omega)]
theorem markState_ev (d u : List Int) (a : Int) (t : List S111) (m : Int) (h0 : 0 ≤ m) (hm : m + d.length + u.length + 2 * t.length ≤ 4611686018427387904) : Ev (fun k => laws_markState.f k d u a t m) (m + d.length + u.length + 2 * t.length, mkInt64S m d.length, mkInt64S (m + d.length) u.length, mkTapRecS (m + d.length + u.length) t.length) := by
  simp only [laws_markState.f]
  exact Ev.bind (markInt64S_ev d m h0 (by omega)) (Ev.bind (markInt64S_ev u (m + d.length) (by omega) (by omega)) (Ev.bind (markTapRecS_ev t (m + d.length + u.length) (by omega) hm) (Ev.const rfl)))
theorem heldState_ev (nd nu nt : Nat) (a : Int) (m : Int) (h0 : 0 ≤ m) (hm : m + nd + nu + 2 * nt ≤ 4611686018427387904) : Ev (fun k => laws_heldState.f k (mkInt64S m nd) (mkInt64S (m + nd) nu) a (mkTapRecS (m + nd + nu) nt) m) (m + nd + nu + 2 * nt) := by
  simp only [laws_heldState.f]
  exact Ev.bind (heldInt64S_ev nd m h0 (by omega)) (Ev.neg (by omega) (Ev.bind (heldInt64S_ev nu (m + nd) (by omega) (by omega)) (Ev.neg (by omega) (Ev.bind (heldTapRecS_ev nt (m + nd + nu) (by omega) hm) (Ev.neg (by omega) (Ev.const rfl))))))
end Go.Proofs.Ytgfadfahbhcllaa.P
end
section
namespace Go.Proofs.Ytgfadfahbhcllaa.Pure
open Go.RowKit Go.Proofs.Ytgfadfahbhcllaa.Q Go.Proofs.Ytgfadfahbhcllaa.P
theorem i64_of {x : Int} (h : (Lit.int .i64 x).wf = true) : x ≤ 9223372036854775807 := by
  simp [Go.Lit.wf, Go.IntKind.min, Go.IntKind.max, Go.IntKind.bits, Go.IntKind.signed] at h
  omega
theorem apply_u32 {x : Int} (h : (Lit.int .u32 x).wf = true) : 0 ≤ x ∧ x ≤ 4294967295 := by
  simp [Go.Lit.wf, Go.IntKind.min, Go.IntKind.max, Go.IntKind.bits, Go.IntKind.signed] at h
  omega
theorem applyS_lengths {d u : List Int} {a : Int} {t : List TR} {kd A B : Int} (hA : 0 ≤ A) (hB : 0 ≤ B ∧ B ≤ 4294967295) : (applyS d u a t kd A B).2.1.length ≤ 256 ∧ (applyS d u a t kd A B).2.2.1.length ≤ 256 ∧ (applyS d u a t kd A B).2.2.2.2.length ≤ 256 := by
  cases hv : validS d u a t with
  | false => rw [applyS_bad hv]; exact ⟨by decide, by decide, by decide⟩
  | true =>
    cases ht : takeS d u a t kd A B with
    | none => rw [applyS_none ht]; exact ⟨by decide, by decide, by decide⟩
    | some r =>
      obtain ⟨d', u', a', t'⟩ := r
      rw [applyS_some hv ht]
      obtain ⟨h1, h2, h3, h4, h5, -, -⟩ := validS_iff.1 (takeS_valid hv hA hB ht)
      have := goodS_length h1
      have := goodS_length h3
      exact ⟨by omega, by omega, by simp only; omega⟩
theorem FnExactApplyFrame : laws_FnExactApplyFrame.Pure := by
  intro x y hx hy
  obtain ⟨⟨h0, -⟩, ⟨h1, -⟩, h2, ⟨h3, -⟩⟩ := hx
  obtain ⟨-, -, hA, hB⟩ := hy
  have hA := apply_u32 hA
  have hB := apply_u32 hB
  refine Ev.ex (f := fun k => laws_FnExactApplyFrame.f k x.f0 x.f1 x.f2 x.f3 y.f0 y.f1 y.f2 y.f3) ?_
  simp only [laws_FnExactApplyFrame.f]
  obtain ⟨t, ht, hc⟩ := szState_is x.f0 x.f1 x.f2 x.f3 1048576 (by decide) (by decide) h0 h1 h3
  refine Ev.bind (Ev.const ht) ?_
  rcases hc with hc | ⟨hc, -, l0, l1, l3⟩
  · exact Ev.pos hc (Ev.const rfl)
  refine Ev.neg (by omega) ?_
  have hm : (x.f3.map cvTapRec).length ≤ 1048576 := by rw [List.length_map]; omega
  have et := toState_ev x.f0 x.f1 x.f2 x.f3 (by omega) (by omega) (by omega)
  have ef : laws_toFrame.f y.f0 y.f1 y.f2 y.f3 = some (y.f0, y.f1, y.f2, y.f3) := rfl
  have es : ∀ k, spec_ApplyFrame.f k x.f0 x.f1 x.f2 (x.f3.map cvTapRec) y.f0 y.f1 y.f2 y.f3 = some (applyS x.f0 x.f1 x.f2 (x.f3.map cvTapRec) y.f1 y.f2 y.f3) := fun k => if_pos ⟨⟨by omega, by omega, hm⟩, hA, hB, i64_of h2⟩
  have ei : impl_ApplyFrame.f x.f0 x.f1 x.f2 (x.f3.map cvTapRec) y.f0 y.f1 y.f2 y.f3 = some (applyS x.f0 x.f1 x.f2 (x.f3.map cvTapRec) y.f1 y.f2 y.f3) := if_pos ⟨⟨by omega, by omega, by omega⟩, hA, hB⟩
  have hz := applyS_lengths (d := x.f0) (u := x.f1) (a := x.f2) (t := x.f3.map cvTapRec) (kd := y.f1) hA.1 hB
  have eqs := eqState_ev x.f0 x.f1 x.f2 (x.f3.map cvTapRec) (by omega) (by omega) (by omega)
  have em := markState_ev x.f0 x.f1 x.f2 (x.f3.map cvTapRec) 1 (by decide) (by omega)
  generalize applyS x.f0 x.f1 x.f2 (x.f3.map cvTapRec) y.f1 y.f2 y.f3 = r at *
  obtain ⟨r1, r2, r3, r4, r5⟩ := r
  simp only at hz
  have eq : Ev (fun k => laws_eqApplyRes.f k r1 r2 r3 r4 r5 r1 r2 r3 r4 r5) true := by
    simp only [laws_eqApplyRes.f]
    exact Ev.neg (by simp) (Ev.bind (eqState_ev r2 r3 r4 r5 (by omega) (by omega) (by omega)) (Ev.pos rfl (Ev.const rfl)))
  have emr : Ev (fun k => laws_markApplyRes.f k r1 r2 r3 r4 r5 1) (1 + (r2.length : Int) + r3.length + 2 * r5.length, mkInt64S 1 r2.length, mkInt64S (1 + (r2.length : Int)) r3.length, mkTapRecS (1 + (r2.length : Int) + r3.length) r5.length) := by
    simp only [laws_markApplyRes.f]
    exact Ev.bind (markState_ev r2 r3 r4 r5 1 (by decide) (by omega)) (Ev.const rfl)
  have eh : Ev (fun k => laws_heldApplyRes.f k r1 (mkInt64S 1 r2.length) (mkInt64S (1 + (r2.length : Int)) r3.length) r4 (mkTapRecS (1 + (r2.length : Int) + r3.length) r5.length) 1) (1 + (r2.length : Int) + r3.length + 2 * r5.length) := by
    simp only [laws_heldApplyRes.f]
    exact Ev.bind (heldState_ev r2.length r3.length r5.length r4 1 (by decide) (by omega)) (Ev.neg (by omega) (Ev.const rfl))
  have es' : Ev (fun k => spec_ApplyFrame.f k x.f0 x.f1 x.f2 (x.f3.map cvTapRec) y.f0 y.f1 y.f2 y.f3) (r1, r2, r3, r4, r5) := ⟨0, fun k _ => es k⟩
  exact Ev.bind et (Ev.bind (Ev.const ef) (Ev.bind es' (Ev.bind et (Ev.bind (Ev.const ef) (Ev.bind (Ev.const ei) (Ev.bind eq (Ev.pos rfl (Ev.bind et (Ev.bind eqs (Ev.pos rfl (Ev.bind em (Ev.neg (by simp only; omega) (Ev.bind eq (Ev.pos rfl (Ev.bind emr (Ev.bind eh (Ev.neg (by omega) (Ev.pos rfl (Ev.bind et (Ev.bind (Ev.const ef) (Ev.bind (Ev.const ei) (Ev.bind eq (Ev.pos rfl (Ev.const rfl))))))))))))))))))))))))
end Go.Proofs.Ytgfadfahbhcllaa.Pure
end
namespace Go.Proofs.Ytgfadfahbhcllaa.fnExactApplyFrame
open Go.ChangeShapes Go.WideShapes Go.ChangeAt Go.RowKit Go.Proofs.Ytgfadfahbhcllaa.Q Go.Proofs.YtgfadfahbhcllaaW.PrintWords Go.Proofs.Ytgfadfahbhcllaa.O
open Go.ChangeMaps (open_string shut_string)
set_option linter.unusedVariables false
theorem own : ownKnob Try.prog.godebug = none := by kernel_rfl
theorem laidOut : laidOutB Try.prog = true := by kernel_rfl
set_option maxRecDepth 100000 in
theorem lifted (os : Os) (started : os.Started) (H : Type) (enc : TypeId × Value → H) :
    ReturnsInHanded {} Try.checked os 10 .any (Rows.fnExactApplyFrameSpec.pre6 enc Try.prog Try.f10 Rows.fnExactApplyFrameRow.domain false) (Rows.fnExactApplyFrameSpec.post enc Try.prog Try.f10 false true false false) := by
  refine returnsInHanded_of_change_sized (C := Try.checked) own started (by kernel_rfl) Try.func10
    (ChangeSpec.witness6 (enc := enc) (C := Try.checked) false ⟨#[], #[.agg #[.slice none 0 0, .slice none 0 0, .int .i64 0, .slice none 0 0], .agg #[.int .u32 0, .int .i64 0, .int .u32 0, .int .u32 0]], []⟩ 8 (by kernel_rfl) (by kernel_rfl) (by kernel_rfl) (by kernel_rfl)) ?_
  intro W base args ds gs before hval0 hW hcnd hsz0 _
  have hval : ∀ (j : Nat) t v, Try.f10.params[j]? = some t → args[j]? = some v → Value.okWide Try.prog W .any base t v := hval0
  have hW' := hW
  obtain ⟨p, q, hA0, hV, rfl, hfz, hnd⟩ := hW
  have hA : DataW.TrodAll enc Try.prog W 0 (fun _ => true) true Try.f10.params.toList args.toList ds p := hA0
  rw [Try.params10] at hA hval
  obtain ⟨v0, vs0, d0, ds0, p0, q0, hargs, rfl, rfl, h0, r0⟩ := trodAll_cons hA
  obtain ⟨v1, vs1, d1, ds1, p1, q1, rfl, rfl, rfl, h1, r1⟩ := trodAll_cons r0
  obtain ⟨rfl, rfl, rfl⟩ := trodAll_nil r1
  obtain rfl : args = #[v0, v1] := by cases args; simp_all
  obtain ⟨rfl, rfl⟩ := trodVars_none hV
  have k0 := h0
  have lt0 : ∀ x ∈ p0, x.block < W.heap.size := by obtain ⟨m, hm⟩ := k0; exact DataW.trod_lt m _ _ _ hm
  obtain ⟨cs0, rfl, _⟩ := okWide_struct Try.underlying58 (hval 0 58 v0 rfl rfl)
  obtain ⟨x0, hk0, w0⟩ : ∃ x, (k58).K W x cs0.toList ∧ W58 x := by
    obtain ⟨fuel, hf⟩ := h0
    exact opens_T58 H enc W fuel _ _ hf
  obtain ⟨cs0⟩ := cs0
  obtain ⟨A0_0, c0_0, A0_1, c0_1, A0_3, c0_3, h_0, m0_0, g0_0, m0_1, g0_1, m0_3, g0_3⟩ := k58_open hk0
  obtain rfl := (show cs0 = _ from h_0)
  have k1 := h1
  have lt1 : ∀ x ∈ p1, x.block < W.heap.size := by obtain ⟨m, hm⟩ := k1; exact DataW.trod_lt m _ _ _ hm
  obtain ⟨cs1, rfl, _⟩ := okWide_struct Try.underlying24 (hval 1 24 v1 rfl rfl)
  obtain ⟨x1, hk1, w1⟩ : ∃ x, (k24).K W x cs1.toList ∧ W24 x := by
    obtain ⟨fuel, hf⟩ := h1
    exact opens_T24 H enc W fuel _ _ hf
  obtain ⟨cs1⟩ := cs1
  obtain h_1 := k24_open hk1
  obtain rfl := (show cs1 = _ from h_1)
  clear hA0 hval0 hsz0
  obtain ⟨k, hp⟩ := Pure.FnExactApplyFrame x0 x1 w0 w1
  refine (laws_FnExactApplyFrame.calls k _ _ x0.f0 _ _ x0.f1 x0.f2 _ _ x0.f3 x1.f0 x1.f1 x1.f2 x1.f3 W g0_0 m0_0 g0_1 m0_1 g0_3 m0_3 hp).mono fun e W' ⟨he, bel⟩ => ?_
  subst he
  exact ⟨_, rfl, _, _, _, [], _, [], hW', trodAll_mk1 (shut_bool Try.underlying4 _), (trodAll_cons_mk (Below.trod laidOut (by kernel_rfl) (of_decide_eq_true (by kernel_rfl)) k0 bel lt0) (trodAll_cons_mk (Below.trod laidOut (by kernel_rfl) (of_decide_eq_true (by kernel_rfl)) k1 bel lt1) trodAll_mk0)), rfl, bel.frame _, fun h => by cases h⟩
theorem over : Rows.fnExactApplyFrameRow.holds Try.pinned (OpenSpec.ofChange Rows.fnExactApplyFrameSpec) :=
  OpenClaim.holds_of_wide 10 Try.f10 rfl rfl rfl rfl rfl rfl rfl ⟨rfl, rfl, rfl, rfl, rfl⟩ rfl rfl rfl rfl rfl (by kernel_rfl) Try.func10 (by kernel_rfl)
    (of_decide_eq_true (by kernel_rfl)) (by unfold Func.isWrapper; first | (rw [if_pos (by decide +kernel)]; kernel_rfl) | (rw [if_neg (by decide +kernel)]; exact ⟨rfl, rfl⟩))
    (fun os started H enc _ => lifted os started H enc)
theorem proved : Rows.FnExactApplyFrameSaid := over
#print axioms proved
end Go.Proofs.Ytgfadfahbhcllaa.fnExactApplyFrame
namespace Go.Proofs.Ytgfadfahbhcllaa
theorem fnExactApplyFrame_holds : Rows.FnExactApplyFrameSaid := fnExactApplyFrame.proved
end Go.Proofs.Ytgfadfahbhcllaa
