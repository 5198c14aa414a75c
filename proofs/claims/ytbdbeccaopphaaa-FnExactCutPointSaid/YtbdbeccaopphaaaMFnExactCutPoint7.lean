/- Part 7 of 7 of the proof that the law FnExactCutPoint returns true at every input. No further condition. -/
import Derived.Test.YtbdbeccaopphaaaWWords
import Derived.ChangeArms
import Derived.DataReads
import Derived.Test.YtbdbeccaopphaaaRows
import Derived.WalkKit
import Derived.ProofKit
import Derived.OpenShut
import Derived.ShutString
import Derived.ChangeOld
import Derived.Below
import Derived.SizedLaws
import Derived.Test.YtbdbeccaopphaaaMFnExactCutPoint6
namespace Go.Proofs.Ytbdbeccaopphaaa.Q
open Go.RowKit Go.Proofs.YtbdbeccaopphaaaW.PrintWords Go.Proofs.YtbdbeccaopphaaaW.PrintLast Go.Proofs.Ytbdbeccaopphaaa.LK Go.Proofs.YtbdbeccaopphaaaW.PrintMore
attribute [local go_sem] max2_int min2_int max_two min_two max_three min_three max_four min_four   -- for this text's walks alone
set_option linter.unusedVariables false
set_option linter.unusedSimpArgs false

/-! ### laws_FnExactCutPoint: function 13 -/
def laws_FnExactCutPoint.f (k : Nat) (a0_0 : Bool) (a0_1 : Int) (a0_2 : Int) (l0_3 : List Int) (l0_4 : List Int) (l0_5 : List (S149)) (l0_6 : List Int) (l0_7 : List Int) (a0_8 : Int) (l0_9 : List (S152)) (a0_10 : Int) : Option (Bool) := (laws_szImage.f a0_0 a0_1 a0_2 l0_3 l0_4 l0_5 l0_6 l0_7 a0_8 l0_9 a0_10 1048576).bind fun t102 => (if t102 < 0 then (some true) else ((laws_toImage.f k a0_0 a0_1 a0_2 l0_3 l0_4 l0_5 l0_6 l0_7 a0_8 l0_9 a0_10).bind fun bt103 => ((spec_CutPoint.f k bt103.1 bt103.2.1 bt103.2.2.1 bt103.2.2.2.1 bt103.2.2.2.2.1 bt103.2.2.2.2.2.1 bt103.2.2.2.2.2.2.1 bt103.2.2.2.2.2.2.2.1 bt103.2.2.2.2.2.2.2.2.1 bt103.2.2.2.2.2.2.2.2.2.1 bt103.2.2.2.2.2.2.2.2.2.2).bind fun t126 => ((laws_toImage.f k a0_0 a0_1 a0_2 l0_3 l0_4 l0_5 l0_6 l0_7 a0_8 l0_9 a0_10).bind fun bt127 => ((impl_CutPoint.f k bt127.1 bt127.2.1 bt127.2.2.1 bt127.2.2.2.1 bt127.2.2.2.2.1 bt127.2.2.2.2.2.1 bt127.2.2.2.2.2.2.1 bt127.2.2.2.2.2.2.2.1 bt127.2.2.2.2.2.2.2.2.1 bt127.2.2.2.2.2.2.2.2.2.1 bt127.2.2.2.2.2.2.2.2.2.2).bind fun t151 => (if t151 = t126 then ((laws_toImage.f k a0_0 a0_1 a0_2 l0_3 l0_4 l0_5 l0_6 l0_7 a0_8 l0_9 a0_10).bind fun bt152 => ((laws_eqImage.f k bt127.1 bt127.2.1 bt127.2.2.1 bt127.2.2.2.1 bt127.2.2.2.2.1 bt127.2.2.2.2.2.1 bt127.2.2.2.2.2.2.1 bt127.2.2.2.2.2.2.2.1 bt127.2.2.2.2.2.2.2.2.1 bt127.2.2.2.2.2.2.2.2.2.1 bt127.2.2.2.2.2.2.2.2.2.2 bt152.1 bt152.2.1 bt152.2.2.1 bt152.2.2.2.1 bt152.2.2.2.2.1 bt152.2.2.2.2.2.1 bt152.2.2.2.2.2.2.1 bt152.2.2.2.2.2.2.2.1 bt152.2.2.2.2.2.2.2.2.1 bt152.2.2.2.2.2.2.2.2.2.1 bt152.2.2.2.2.2.2.2.2.2.2).bind fun t175 => (if t175 = true then (some true) else (some false)))) else (some false)))))))
theorem laws_FnExactCutPoint.mono : ∀ a0 a1 a2 a3 a4 a5 a6 a7 a8 a9 a10 k, LeO (laws_FnExactCutPoint.f k a0 a1 a2 a3 a4 a5 a6 a7 a8 a9 a10) (laws_FnExactCutPoint.f (k + 1) a0 a1 a2 a3 a4 a5 a6 a7 a8 a9 a10) := by
  intro a0 a1 a2 a3 a4 a5 a6 a7 a8 a9 a10 k
  unfold laws_FnExactCutPoint.f
  repeat' first
      | (with_reducible exact impl_CutPoint.mono _ _ _ _ _ _ _ _ _ _ _ _)
      | (with_reducible exact laws_eqImage.mono _ _ _ _ _ _ _ _ _ _ _ _ _ _ _ _ _ _ _ _ _ _ _)
      | (with_reducible exact laws_toImage.mono _ _ _ _ _ _ _ _ _ _ _ _)
      | (with_reducible exact spec_CutPoint.mono _ _ _ _ _ _ _ _ _ _ _ _)
      | (with_reducible exact LeO.refl _)
      | (with_reducible exact LeO.none _)
      | (with_reducible refine LeO.ite ?_ ?_)
      | (with_reducible refine LeO.bind ?_ (fun _ => ?_))
      | exact impl_CutPoint.mono _ _ _ _ _ _ _ _ _ _ _ _
      | exact laws_eqImage.mono _ _ _ _ _ _ _ _ _ _ _ _ _ _ _ _ _ _ _ _ _ _ _
      | exact laws_toImage.mono _ _ _ _ _ _ _ _ _ _ _ _
      | exact spec_CutPoint.mono _ _ _ _ _ _ _ _ _ _ _ _
      | exact LeO.none _
      | refine LeO.ite ?_ ?_
      | refine LeO.bind ?_ (fun _ => ?_)
set_option maxHeartbeats 8000000 in
set_option maxRecDepth 100000 in
theorem laws_FnExactCutPoint.calls (k : Nat) (a0_0 : Bool) (a0_1 : Int) (a0_2 : Int) (A0_3 : Option Addr) (c0_3 : Nat) (l0_3 : List Int) (A0_4 : Option Addr) (c0_4 : Nat) (l0_4 : List Int) (A0_5 : Option Addr) (c0_5 : Nat) (l0_5 : List (S149)) (A0_6 : Option Addr) (c0_6 : Nat) (l0_6 : List Int) (A0_7 : Option Addr) (c0_7 : Nat) (l0_7 : List Int) (a0_8 : Int) (A0_9 : Option Addr) (c0_9 : Nat) (l0_9 : List (S152)) (a0_10 : Int) (w : World) (hr0_3 : Kd.C (Kd.int .i64) w A0_3 l0_3.length l0_3) (hc0_3 : l0_3.length ≤ c0_3) (hr0_4 : Kd.C (Kd.int .i64) w A0_4 l0_4.length l0_4) (hc0_4 : l0_4.length ≤ c0_4) (hr0_5 : Kd.C k149 w A0_5 l0_5.length l0_5) (hc0_5 : l0_5.length ≤ c0_5) (hr0_6 : Kd.C (Kd.int .i64) w A0_6 l0_6.length l0_6) (hc0_6 : l0_6.length ≤ c0_6) (hr0_7 : Kd.C (Kd.int .i64) w A0_7 l0_7.length l0_7) (hc0_7 : l0_7.length ≤ c0_7) (hr0_9 : Kd.C k152 w A0_9 l0_9.length l0_9) (hc0_9 : l0_9.length ≤ c0_9) (h : laws_FnExactCutPoint.f k a0_0 a0_1 a0_2 l0_3 l0_4 l0_5 l0_6 l0_7 a0_8 l0_9 a0_10 = some true) :
    Calls Try.prog 13 #[.agg #[.bool a0_0, .int .u32 a0_1, .int .u32 a0_2, .slice A0_3 l0_3.length c0_3, .slice A0_4 l0_4.length c0_4, .slice A0_5 l0_5.length c0_5, .slice A0_6 l0_6.length c0_6, .slice A0_7 l0_7.length c0_7, .int .i64 a0_8, .slice A0_9 l0_9.length c0_9, .int .u32 a0_10]] w fun e w' => e = .returned (.bool true) ∧ Below w.heap.size w w' := by
  have hu73 := Try.underlying73
  have hu82 := Try.underlying82
  have HR0_3 := Aside0.mk hr0_3
  have HC0_3 := Aside0.mk hc0_3
  clear hr0_3 hc0_3
  have HR0_4 := Aside0.mk hr0_4
  have HC0_4 := Aside0.mk hc0_4
  clear hr0_4 hc0_4
  have HR0_5 := Aside0.mk hr0_5
  have HC0_5 := Aside0.mk hc0_5
  clear hr0_5 hc0_5
  have HR0_6 := Aside0.mk hr0_6
  have HC0_6 := Aside0.mk hc0_6
  clear hr0_6 hc0_6
  have HR0_7 := Aside0.mk hr0_7
  have HC0_7 := Aside0.mk hc0_7
  clear hr0_7 hc0_7
  have HR0_9 := Aside0.mk hr0_9
  have HC0_9 := Aside0.mk hc0_9
  clear hr0_9 hc0_9
  have HB := Aside0.mk (Below.refl w.heap.size w)
  have H : ((laws_szImage.f a0_0 a0_1 a0_2 l0_3 l0_4 l0_5 l0_6 l0_7 a0_8 l0_9 a0_10 1048576).bind fun t102 => (if t102 < 0 then (some true) else ((laws_toImage.f k a0_0 a0_1 a0_2 l0_3 l0_4 l0_5 l0_6 l0_7 a0_8 l0_9 a0_10).bind fun bt103 => ((spec_CutPoint.f k bt103.1 bt103.2.1 bt103.2.2.1 bt103.2.2.2.1 bt103.2.2.2.2.1 bt103.2.2.2.2.2.1 bt103.2.2.2.2.2.2.1 bt103.2.2.2.2.2.2.2.1 bt103.2.2.2.2.2.2.2.2.1 bt103.2.2.2.2.2.2.2.2.2.1 bt103.2.2.2.2.2.2.2.2.2.2).bind fun t126 => ((laws_toImage.f k a0_0 a0_1 a0_2 l0_3 l0_4 l0_5 l0_6 l0_7 a0_8 l0_9 a0_10).bind fun bt127 => ((impl_CutPoint.f k bt127.1 bt127.2.1 bt127.2.2.1 bt127.2.2.2.1 bt127.2.2.2.2.1 bt127.2.2.2.2.2.1 bt127.2.2.2.2.2.2.1 bt127.2.2.2.2.2.2.2.1 bt127.2.2.2.2.2.2.2.2.1 bt127.2.2.2.2.2.2.2.2.2.1 bt127.2.2.2.2.2.2.2.2.2.2).bind fun t151 => (if t151 = t126 then ((laws_toImage.f k a0_0 a0_1 a0_2 l0_3 l0_4 l0_5 l0_6 l0_7 a0_8 l0_9 a0_10).bind fun bt152 => ((laws_eqImage.f k bt127.1 bt127.2.1 bt127.2.2.1 bt127.2.2.2.1 bt127.2.2.2.2.1 bt127.2.2.2.2.2.1 bt127.2.2.2.2.2.2.1 bt127.2.2.2.2.2.2.2.1 bt127.2.2.2.2.2.2.2.2.1 bt127.2.2.2.2.2.2.2.2.2.1 bt127.2.2.2.2.2.2.2.2.2.2 bt152.1 bt152.2.1 bt152.2.2.1 bt152.2.2.2.1 bt152.2.2.2.2.1 bt152.2.2.2.2.2.1 bt152.2.2.2.2.2.2.1 bt152.2.2.2.2.2.2.2.1 bt152.2.2.2.2.2.2.2.2.1 bt152.2.2.2.2.2.2.2.2.2.1 bt152.2.2.2.2.2.2.2.2.2.2).bind fun t175 => (if t175 = true then (some true) else (some false)))) else (some false)))))))) = some true := h
  clear h
  replace H := Option.bind_eq_some_iff.mp H
  obtain ⟨t102, A1_, H⟩ := H
  have A1 := Aside0.mk A1_
  clear A1_
  (try dsimp only at H)
  by_cases c2 : t102 < 0
  · rw [if_pos c2] at H
    have c2b0 : decide (t102 < 0) = true := decide_eq_true c2
    clear c2
    clear H
    (try clear HB)
    have H0 := Aside0.mk (Hist.refl w)
    go_enter Try.func13, Try.ntmps13
    go_wp2_with (first | ((with_reducible refine gate_dst (N := 1) rfl ?_); refine mk ?hw (N := 1) ?hd (cs := #[.bool a0_0, .int .u32 a0_1, .int .u32 a0_2, .slice A0_3 l0_3.length c0_3, .slice A0_4 l0_4.length c0_4, .slice A0_5 l0_5.length c0_5, .slice A0_6 l0_6.length c0_6, .slice A0_7 l0_7.length c0_7, .int .i64 a0_8, .slice A0_9 l0_9.length c0_9, .int .u32 a0_10]) (t := 73) ?hr ?_; (case hd => rfl); (case hw => rfl); (case hr => first | (go_simp; done) | (go_simp; rfl)); intro g3 hg7 w4 hbox6 hb5; have H8 := Aside0.mk (Hist.step H0.out hb5); clear H0; have B9 := Aside0.mk hbox6; have G10 := Aside0.mk (Nat.le_of_eq hg7.symm); have L11 := Aside0.mk (blk_lt hbox6); clear hb5 hbox6 hg7) | ((with_reducible refine gate_dst (N := 7) rfl ?_); refine ld ?hw rfl ?hx (blk_fix2 B9.out ⟨G10.out, L11.out⟩ H8.out.fixes.hd) Try.underlying73 rfl (by kernel_rfl) ?_; (case hw => rfl); (case hx => rfl)) | (((with_reducible refine gate_callee (f := 47) rfl ?_)); refine goesW (some 9) rfl ?hw Try.func47 (by kernel_rfl) rfl #[.agg #[.bool a0_0, .int .u32 a0_1, .int .u32 a0_2, .slice A0_3 l0_3.length c0_3, .slice A0_4 l0_4.length c0_4, .slice A0_5 l0_5.length c0_5, .slice A0_6 l0_6.length c0_6, .slice A0_7 l0_7.length c0_7, .int .i64 a0_8, .slice A0_9 l0_9.length c0_9, .int .u32 a0_10], .int .i64 1048576] rfl (by (try simp only [List.map_toArray, List.map_cons, List.map_nil]); first | done | rfl | (simp only [List.length_drop, List.length_take]; rfl)) ?_; (case hw => rfl); with_reducible refine (laws_szImage.calls a0_0 a0_1 a0_2 _ _ l0_3 _ _ l0_4 _ _ l0_5 _ _ l0_6 _ _ l0_7 a0_8 _ _ l0_9 a0_10 1048576 t102 _ ?side1 ?side2 ?side3 ?side4 ?side5 ?side6 ?side7 ?side8 ?side9 ?side10 ?side11 ?side12 A1.out).mono ?_; (case side1 => exact Kd.C_below HR0_3.out H8.out.below); (case side2 => exact HC0_3.out); (case side3 => exact Kd.C_below HR0_4.out H8.out.below); (case side4 => exact HC0_4.out); (case side5 => exact Kd.C_below HR0_5.out H8.out.below); (case side6 => exact HC0_5.out); (case side7 => exact Kd.C_below HR0_6.out H8.out.below); (case side8 => exact HC0_6.out); (case side9 => exact Kd.C_below HR0_7.out H8.out.below); (case side10 => exact HC0_7.out); (case side11 => exact Kd.C_below HR0_9.out H8.out.below); (case side12 => exact HC0_9.out); rintro e w12 ⟨rfl, hb13⟩; refine ⟨_, rfl, ?_⟩; have H14 := Aside0.mk (Hist.pass H8.out hb13); clear H8; clear hb13))
    go_ret
    exact ⟨rfl, by first | exact H14.out.below | exact Drawn0.refl _⟩
  · rw [if_neg c2] at H
    have c2b0 : decide (t102 < 0) = false := decide_eq_false c2
    clear c2
    replace H := Option.bind_eq_some_iff.mp H
    obtain ⟨⟨t103, t104, t105, t106, t109, t112, t115, t118, t121, t122, t125⟩, A15_, H⟩ := H
    have A15 := Aside0.mk A15_
    clear A15_
    (try dsimp only at H)
    replace H := Option.bind_eq_some_iff.mp H
    obtain ⟨t126, A16_, H⟩ := H
    have A16 := Aside0.mk A16_
    clear A16_
    (try dsimp only at H)
    replace H := Option.bind_eq_some_iff.mp H
    obtain ⟨⟨t127, t128, t129, t130, t133, t136, t139, t142, t145, t146, t149⟩, A17_, H⟩ := H
    have A17 := Aside0.mk A17_
    clear A17_
    (try dsimp only at H)
    replace H := Option.bind_eq_some_iff.mp H
    obtain ⟨t151, A18_, H⟩ := H
    have A18 := Aside0.mk A18_
    clear A18_
    (try dsimp only at H)
    by_cases c19 : t151 = t126
    · rw [if_pos c19] at H
      have c19b0 : (t151 == t126) = true := beq_iff_eq.mpr c19
      have c19b1 : (t151 != t126) = false := bne_eq_false_iff_eq.mpr c19
      clear c19
      replace H := Option.bind_eq_some_iff.mp H
      obtain ⟨⟨t152, t153, t154, t155, t158, t161, t164, t167, t170, t171, t174⟩, A20_, H⟩ := H
      have A20 := Aside0.mk A20_
      clear A20_
      (try dsimp only at H)
      replace H := Option.bind_eq_some_iff.mp H
      obtain ⟨t175, A21_, H⟩ := H
      have A21 := Aside0.mk A21_
      clear A21_
      (try dsimp only at H)
      by_cases c22 : t175 = true
      · rw [if_pos c22] at H
        subst c22
        clear H
        (try clear HB)
        have H0 := Aside0.mk (Hist.refl w)
        go_enter Try.func13, Try.ntmps13
        go_wp2_with (first | ((with_reducible refine gate_dst (N := 1) rfl ?_); refine mk ?hw (N := 1) ?hd (cs := #[.bool a0_0, .int .u32 a0_1, .int .u32 a0_2, .slice A0_3 l0_3.length c0_3, .slice A0_4 l0_4.length c0_4, .slice A0_5 l0_5.length c0_5, .slice A0_6 l0_6.length c0_6, .slice A0_7 l0_7.length c0_7, .int .i64 a0_8, .slice A0_9 l0_9.length c0_9, .int .u32 a0_10]) (t := 73) ?hr ?_; (case hd => rfl); (case hw => rfl); (case hr => first | (go_simp; done) | (go_simp; rfl)); intro g23 hg27 w24 hbox26 hb25; have H28 := Aside0.mk (Hist.step H0.out hb25); clear H0; have B29 := Aside0.mk hbox26; have G30 := Aside0.mk (Nat.le_of_eq hg27.symm); have L31 := Aside0.mk (blk_lt hbox26); clear hb25 hbox26 hg27) | ((with_reducible refine gate_dst (N := 7) rfl ?_); refine ld ?hw rfl ?hx (blk_fix2 B29.out ⟨G30.out, L31.out⟩ H28.out.fixes.hd) Try.underlying73 rfl (by kernel_rfl) ?_; (case hw => rfl); (case hx => rfl)) | (((with_reducible refine gate_callee (f := 47) rfl ?_)); refine goesW (some 9) rfl ?hw Try.func47 (by kernel_rfl) rfl #[.agg #[.bool a0_0, .int .u32 a0_1, .int .u32 a0_2, .slice A0_3 l0_3.length c0_3, .slice A0_4 l0_4.length c0_4, .slice A0_5 l0_5.length c0_5, .slice A0_6 l0_6.length c0_6, .slice A0_7 l0_7.length c0_7, .int .i64 a0_8, .slice A0_9 l0_9.length c0_9, .int .u32 a0_10], .int .i64 1048576] rfl (by (try simp only [List.map_toArray, List.map_cons, List.map_nil]); first | done | rfl | (simp only [List.length_drop, List.length_take]; rfl)) ?_; (case hw => rfl); with_reducible refine (laws_szImage.calls a0_0 a0_1 a0_2 _ _ l0_3 _ _ l0_4 _ _ l0_5 _ _ l0_6 _ _ l0_7 a0_8 _ _ l0_9 a0_10 1048576 t102 _ ?side1 ?side2 ?side3 ?side4 ?side5 ?side6 ?side7 ?side8 ?side9 ?side10 ?side11 ?side12 A1.out).mono ?_; (case side1 => exact Kd.C_below HR0_3.out H28.out.below); (case side2 => exact HC0_3.out); (case side3 => exact Kd.C_below HR0_4.out H28.out.below); (case side4 => exact HC0_4.out); (case side5 => exact Kd.C_below HR0_5.out H28.out.below); (case side6 => exact HC0_5.out); (case side7 => exact Kd.C_below HR0_6.out H28.out.below); (case side8 => exact HC0_6.out); (case side9 => exact Kd.C_below HR0_7.out H28.out.below); (case side10 => exact HC0_7.out); (case side11 => exact Kd.C_below HR0_9.out H28.out.below); (case side12 => exact HC0_9.out); rintro e w32 ⟨rfl, hb33⟩; refine ⟨_, rfl, ?_⟩; have H34 := Aside0.mk (Hist.pass H28.out hb33); clear H28; clear hb33) | ((with_reducible refine gate_dst (N := 12) rfl ?_); refine ld ?hw rfl ?hx (blk_fix2 B29.out ⟨G30.out, L31.out⟩ H34.out.fixes.hd) Try.underlying73 rfl (by kernel_rfl) ?_; (case hw => rfl); (case hx => rfl)) | (((with_reducible refine gate_callee (f := 49) rfl ?_)); refine goesW (some 13) rfl ?hw Try.func49 (by kernel_rfl) rfl #[.agg #[.bool a0_0, .int .u32 a0_1, .int .u32 a0_2, .slice A0_3 l0_3.length c0_3, .slice A0_4 l0_4.length c0_4, .slice A0_5 l0_5.length c0_5, .slice A0_6 l0_6.length c0_6, .slice A0_7 l0_7.length c0_7, .int .i64 a0_8, .slice A0_9 l0_9.length c0_9, .int .u32 a0_10]] rfl (by (try simp only [List.map_toArray, List.map_cons, List.map_nil]); first | done | rfl | (simp only [List.length_drop, List.length_take]; rfl)) ?_; (case hw => rfl); with_reducible refine (laws_toImage.calls k a0_0 a0_1 a0_2 _ _ l0_3 _ _ l0_4 _ _ l0_5 _ _ l0_6 _ _ l0_7 a0_8 _ _ l0_9 a0_10 t103 t104 t105 t106 t109 t112 t115 t118 t121 t122 t125 _ ?side1 ?side2 ?side3 ?side4 ?side5 ?side6 ?side7 ?side8 ?side9 ?side10 ?side11 ?side12 A15.out).mono ?_; (case side1 => exact Kd.C_below HR0_3.out H34.out.below); (case side2 => exact HC0_3.out); (case side3 => exact Kd.C_below HR0_4.out H34.out.below); (case side4 => exact HC0_4.out); (case side5 => exact Kd.C_below HR0_5.out H34.out.below); (case side6 => exact HC0_5.out); (case side7 => exact Kd.C_below HR0_6.out H34.out.below); (case side8 => exact HC0_6.out); (case side9 => exact Kd.C_below HR0_7.out H34.out.below); (case side10 => exact HC0_7.out); (case side11 => exact Kd.C_below HR0_9.out H34.out.below); (case side12 => exact HC0_9.out); rintro e w35 ⟨v36, v37, v38, v39, v40, v41, rfl, ho42, ho43, ho44, ho45, ho46, ho47, hb48⟩; refine ⟨_, rfl, ?_⟩; have H49 := Aside0.mk (Hist.step H34.out hb48); clear H34; clear hb48; have F52 := Aside0.mk ho42; clear ho42; have F56 := Aside0.mk ho43; clear ho43; have F60 := Aside0.mk ho44; clear ho44; have F64 := Aside0.mk ho45; clear ho45; have F68 := Aside0.mk ho46; clear ho46; have F72 := Aside0.mk ho47; clear ho47; obtain ⟨Ao50, co51, eo74⟩ := Kd.R_slice F52.out; (first | subst eo74 | (injection eo74 with f1_ f2_ f3_; have f4_ := f1_.symm; have f5_ := f3_.symm; clear f1_ f2_ f3_; subst f4_; subst f5_)); obtain ⟨Ao54, co55, eo75⟩ := Kd.R_slice F56.out; (first | subst eo75 | (injection eo75 with f1_ f2_ f3_; have f4_ := f1_.symm; have f5_ := f3_.symm; clear f1_ f2_ f3_; subst f4_; subst f5_)); obtain ⟨Ao58, co59, eo76⟩ := Kd.R_slice F60.out; (first | subst eo76 | (injection eo76 with f1_ f2_ f3_; have f4_ := f1_.symm; have f5_ := f3_.symm; clear f1_ f2_ f3_; subst f4_; subst f5_)); obtain ⟨Ao62, co63, eo77⟩ := Kd.R_slice F64.out; (first | subst eo77 | (injection eo77 with f1_ f2_ f3_; have f4_ := f1_.symm; have f5_ := f3_.symm; clear f1_ f2_ f3_; subst f4_; subst f5_)); obtain ⟨Ao66, co67, eo78⟩ := Kd.R_slice F68.out; (first | subst eo78 | (injection eo78 with f1_ f2_ f3_; have f4_ := f1_.symm; have f5_ := f3_.symm; clear f1_ f2_ f3_; subst f4_; subst f5_)); obtain ⟨Ao70, co71, eo79⟩ := Kd.R_slice F72.out; (first | subst eo79 | (injection eo79 with f1_ f2_ f3_; have f4_ := f1_.symm; have f5_ := f3_.symm; clear f1_ f2_ f3_; subst f4_; subst f5_))) | (((with_reducible refine gate_callee (f := 48) rfl ?_)); refine goesW (some 14) rfl ?hw Try.func48 (by kernel_rfl) rfl #[.agg #[.bool t103, .int .u32 t104, .int .u32 t105, .slice Ao50 t106.length co51, .slice Ao54 t109.length co55, .slice Ao58 t112.length co59, .slice Ao62 t115.length co63, .slice Ao66 t118.length co67, .int .i64 t121, .slice Ao70 t122.length co71, .int .u32 t125]] rfl (by (try simp only [List.map_toArray, List.map_cons, List.map_nil]); first | done | rfl | (simp only [List.length_drop, List.length_take]; rfl)) ?_; (case hw => rfl); with_reducible refine (spec_CutPoint.calls k t103 t104 t105 _ _ t106 _ _ t109 _ _ t112 _ _ t115 _ _ t118 t121 _ _ t122 t125 t126 _ ?side1 ?side2 ?side3 ?side4 ?side5 ?side6 ?side7 ?side8 ?side9 ?side10 ?side11 ?side12 A16.out).mono ?_; (case side1 => exact (Kd.R_reads' (R_fix F52.out H49.out.fixes.hd)).2.2); (case side2 => exact R_capn (R_fix F52.out H49.out.fixes.hd)); (case side3 => exact (Kd.R_reads' (R_fix F56.out H49.out.fixes.hd)).2.2); (case side4 => exact R_capn (R_fix F56.out H49.out.fixes.hd)); (case side5 => exact (Kd.R_reads' (R_fix F60.out H49.out.fixes.hd)).2.2); (case side6 => exact R_capn (R_fix F60.out H49.out.fixes.hd)); (case side7 => exact (Kd.R_reads' (R_fix F64.out H49.out.fixes.hd)).2.2); (case side8 => exact R_capn (R_fix F64.out H49.out.fixes.hd)); (case side9 => exact (Kd.R_reads' (R_fix F68.out H49.out.fixes.hd)).2.2); (case side10 => exact R_capn (R_fix F68.out H49.out.fixes.hd)); (case side11 => exact (Kd.R_reads' (R_fix F72.out H49.out.fixes.hd)).2.2); (case side12 => exact R_capn (R_fix F72.out H49.out.fixes.hd)); rintro e w80 ⟨rfl, hb81⟩; refine ⟨_, rfl, ?_⟩; have H82 := Aside0.mk (Hist.pass H49.out hb81); clear H49; clear hb81) | ((with_reducible refine gate_dst (N := 15) rfl ?_); refine ld ?hw rfl ?hx (blk_fix2 B29.out ⟨G30.out, L31.out⟩ H82.out.fixes.tl.hd) Try.underlying73 rfl (by kernel_rfl) ?_; (case hw => rfl); (case hx => rfl)) | (((with_reducible refine gate_callee (f := 49) rfl ?_)); refine goesW (some 16) rfl ?hw Try.func49 (by kernel_rfl) rfl #[.agg #[.bool a0_0, .int .u32 a0_1, .int .u32 a0_2, .slice A0_3 l0_3.length c0_3, .slice A0_4 l0_4.length c0_4, .slice A0_5 l0_5.length c0_5, .slice A0_6 l0_6.length c0_6, .slice A0_7 l0_7.length c0_7, .int .i64 a0_8, .slice A0_9 l0_9.length c0_9, .int .u32 a0_10]] rfl (by (try simp only [List.map_toArray, List.map_cons, List.map_nil]); first | done | rfl | (simp only [List.length_drop, List.length_take]; rfl)) ?_; (case hw => rfl); with_reducible refine (laws_toImage.calls k a0_0 a0_1 a0_2 _ _ l0_3 _ _ l0_4 _ _ l0_5 _ _ l0_6 _ _ l0_7 a0_8 _ _ l0_9 a0_10 t127 t128 t129 t130 t133 t136 t139 t142 t145 t146 t149 _ ?side1 ?side2 ?side3 ?side4 ?side5 ?side6 ?side7 ?side8 ?side9 ?side10 ?side11 ?side12 A17.out).mono ?_; (case side1 => exact Kd.C_below HR0_3.out H82.out.below); (case side2 => exact HC0_3.out); (case side3 => exact Kd.C_below HR0_4.out H82.out.below); (case side4 => exact HC0_4.out); (case side5 => exact Kd.C_below HR0_5.out H82.out.below); (case side6 => exact HC0_5.out); (case side7 => exact Kd.C_below HR0_6.out H82.out.below); (case side8 => exact HC0_6.out); (case side9 => exact Kd.C_below HR0_7.out H82.out.below); (case side10 => exact HC0_7.out); (case side11 => exact Kd.C_below HR0_9.out H82.out.below); (case side12 => exact HC0_9.out); rintro e w83 ⟨v84, v85, v86, v87, v88, v89, rfl, ho90, ho91, ho92, ho93, ho94, ho95, hb96⟩; refine ⟨_, rfl, ?_⟩; have H97 := Aside0.mk (Hist.step H82.out hb96); clear H82; clear hb96; have F100 := Aside0.mk ho90; clear ho90; have F104 := Aside0.mk ho91; clear ho91; have F108 := Aside0.mk ho92; clear ho92; have F112 := Aside0.mk ho93; clear ho93; have F116 := Aside0.mk ho94; clear ho94; have F120 := Aside0.mk ho95; clear ho95; obtain ⟨Ao98, co99, eo122⟩ := Kd.R_slice F100.out; (first | subst eo122 | (injection eo122 with f1_ f2_ f3_; have f4_ := f1_.symm; have f5_ := f3_.symm; clear f1_ f2_ f3_; subst f4_; subst f5_)); obtain ⟨Ao102, co103, eo123⟩ := Kd.R_slice F104.out; (first | subst eo123 | (injection eo123 with f1_ f2_ f3_; have f4_ := f1_.symm; have f5_ := f3_.symm; clear f1_ f2_ f3_; subst f4_; subst f5_)); obtain ⟨Ao106, co107, eo124⟩ := Kd.R_slice F108.out; (first | subst eo124 | (injection eo124 with f1_ f2_ f3_; have f4_ := f1_.symm; have f5_ := f3_.symm; clear f1_ f2_ f3_; subst f4_; subst f5_)); obtain ⟨Ao110, co111, eo125⟩ := Kd.R_slice F112.out; (first | subst eo125 | (injection eo125 with f1_ f2_ f3_; have f4_ := f1_.symm; have f5_ := f3_.symm; clear f1_ f2_ f3_; subst f4_; subst f5_)); obtain ⟨Ao114, co115, eo126⟩ := Kd.R_slice F116.out; (first | subst eo126 | (injection eo126 with f1_ f2_ f3_; have f4_ := f1_.symm; have f5_ := f3_.symm; clear f1_ f2_ f3_; subst f4_; subst f5_)); obtain ⟨Ao118, co119, eo127⟩ := Kd.R_slice F120.out; (first | subst eo127 | (injection eo127 with f1_ f2_ f3_; have f4_ := f1_.symm; have f5_ := f3_.symm; clear f1_ f2_ f3_; subst f4_; subst f5_))) | ((with_reducible refine gate_dst (N := 5) rfl ?_); refine mk ?hw (N := 5) ?hd (cs := #[.bool false, .int .u32 0, .int .u32 0, .slice none 0 0, .slice none 0 0, .slice none 0 0, .slice none 0 0, .slice none 0 0, .int .i64 0, .slice none 0 0, .int .u32 0]) (t := 82) ?hr ?_; (case hd => rfl); (case hw => rfl); (case hr => first | (go_simp; done) | (go_simp; rfl)); intro g128 hg132 w129 hbox131 hb130; have H133 := Aside0.mk (Hist.step H97.out hb130); clear H97; have B134 := Aside0.mk hbox131; have G135 := Aside0.mk (Nat.le_of_eq hg132.symm); have L136 := Aside0.mk (blk_lt hbox131); clear hb130 hbox131 hg132) | ((with_reducible refine gate_store (t := 82) (p := 5) rfl ?_); refine st_all ?hw ?hN rfl ?hp (cs := #[.bool t127, .int .u32 t128, .int .u32 t129, .slice Ao98 t130.length co99, .slice Ao102 t133.length co103, .slice Ao106 t136.length co107, .slice Ao110 t139.length co111, .slice Ao114 t142.length co115, .int .i64 t145, .slice Ao118 t146.length co119, .int .u32 t149]) ?hx (blk_fix2 B134.out ⟨G135.out, L136.out⟩ H133.out.fixes.hd) (by kernel_rfl) rfl (by simp [Value.oneCell']) ?_; (case hw => rfl); (case hN => rfl); (case hp => rfl); (case hx => rfl); intro w137 hbox138 hs139; have H140 : Aside0 (Hist w [(w137, w83.heap.size, w129.heap.size), (w83, w80.heap.size, w83.heap.size), (w35, w32.heap.size, w35.heap.size), (w24, w.heap.size, w24.heap.size)] w137) := ⟨Hist.mark' (w := w129) (b := w83.heap.size) (t := w129.heap.size) (l1 := []) (l2 := [(w83, w80.heap.size, w83.heap.size), (w35, w32.heap.size, w35.heap.size), (w24, w.heap.size, w24.heap.size)]) (by simp only [List.cons_append, List.nil_append]) (by simp only [List.cons_append, List.nil_append]) H133.out hs139 (fun k_ hk_ => by rw [hk_]; exact ⟨G135.out, L136.out⟩)⟩; have B134n := Aside0.mk hbox138; clear hs139 hbox138 H133 B134; have B134 := B134n; clear B134n) | ((with_reducible refine gate_dst (N := 17) rfl ?_); refine ld ?hw rfl ?hx (blk_fix2 B134.out ⟨G135.out, L136.out⟩ H140.out.fixes.hd) Try.underlying82 rfl (by kernel_rfl) ?_; (case hw => rfl); (case hx => rfl)) | (((with_reducible refine gate_callee (f := 50) rfl ?_)); refine goesW (some 18) rfl ?hw Try.func50 (by kernel_rfl) rfl #[.agg #[.bool t127, .int .u32 t128, .int .u32 t129, .slice Ao98 t130.length co99, .slice Ao102 t133.length co103, .slice Ao106 t136.length co107, .slice Ao110 t139.length co111, .slice Ao114 t142.length co115, .int .i64 t145, .slice Ao118 t146.length co119, .int .u32 t149]] rfl (by (try simp only [List.map_toArray, List.map_cons, List.map_nil]); first | done | rfl | (simp only [List.length_drop, List.length_take]; rfl)) ?_; (case hw => rfl); with_reducible refine (impl_CutPoint.calls k t127 t128 t129 _ _ t130 _ _ t133 _ _ t136 _ _ t139 _ _ t142 t145 _ _ t146 t149 t151 _ ?side1 ?side2 ?side3 ?side4 ?side5 ?side6 ?side7 ?side8 ?side9 ?side10 ?side11 ?side12 A18.out).mono ?_; (case side1 => exact (Kd.R_reads' (R_fix F100.out H140.out.fixes.tl.hd)).2.2); (case side2 => exact R_capn (R_fix F100.out H140.out.fixes.tl.hd)); (case side3 => exact (Kd.R_reads' (R_fix F104.out H140.out.fixes.tl.hd)).2.2); (case side4 => exact R_capn (R_fix F104.out H140.out.fixes.tl.hd)); (case side5 => exact (Kd.R_reads' (R_fix F108.out H140.out.fixes.tl.hd)).2.2); (case side6 => exact R_capn (R_fix F108.out H140.out.fixes.tl.hd)); (case side7 => exact (Kd.R_reads' (R_fix F112.out H140.out.fixes.tl.hd)).2.2); (case side8 => exact R_capn (R_fix F112.out H140.out.fixes.tl.hd)); (case side9 => exact (Kd.R_reads' (R_fix F116.out H140.out.fixes.tl.hd)).2.2); (case side10 => exact R_capn (R_fix F116.out H140.out.fixes.tl.hd)); (case side11 => exact (Kd.R_reads' (R_fix F120.out H140.out.fixes.tl.hd)).2.2); (case side12 => exact R_capn (R_fix F120.out H140.out.fixes.tl.hd)); rintro e w141 ⟨rfl, hb142⟩; refine ⟨_, rfl, ?_⟩; have H143 := Aside0.mk (Hist.pass H140.out hb142); clear H140; clear hb142))
        have H144 := Aside0.mk (Hist.drew H143.out)
        clear H143
        refine start_ (n := 5) (S := fun w' => w'.heap[g128]? = some (.cells #[.bool t127, .int .u32 t128, .int .u32 t129, .slice Ao98 t130.length co99, .slice Ao102 t133.length co103, .slice Ao106 t136.length co107, .slice Ao110 t139.length co111, .slice Ao114 t142.length co115, .int .i64 t145, .slice Ao118 t146.length co119, .int .u32 t149] 82 (0, 0)) ∧ w'.heap[g23]? = some (.cells #[.bool a0_0, .int .u32 a0_1, .int .u32 a0_2, .slice A0_3 l0_3.length c0_3, .slice A0_4 l0_4.length c0_4, .slice A0_5 l0_5.length c0_5, .slice A0_6 l0_6.length c0_6, .slice A0_7 l0_7.length c0_7, .int .i64 a0_8, .slice A0_9 l0_9.length c0_9, .int .u32 a0_10] 73 (0, 0))) (ds := []) #[false, false, false, false, false] (by kernel_rfl) rfl rfl ⟨(blk_fix2 B134.out ⟨G135.out, L136.out⟩ H144.out.fixes.hd), (blk_fix2 B29.out ⟨G30.out, L31.out⟩ H144.out.fixes.tl.tl.tl.hd)⟩ (fun hHeld => ?_)
        generalize w141.drew = w145 at H144 hHeld ⊢
        refine take_ (i := 0) (N := some 22) (v := .agg #[.bool t127, .int .u32 t128, .int .u32 t129, .slice Ao98 t130.length co99, .slice Ao102 t133.length co103, .slice Ao106 t136.length co107, .slice Ao110 t139.length co111, .slice Ao114 t142.length co115, .int .i64 t145, .slice Ao118 t146.length co119, .int .u32 t149]) (a' := ?aaq146) #[true, false, false, false, false] rfl rfl (by kernel_rfl) (fun _ _ _ h => h) (Or.inl ⟨by rfl, ?ylq146⟩) hHeld ?haq146 ?hhq146
        case ylq146 =>
          rintro w' ⟨s0, s1⟩
          exact ld_run (x := .tmp 5) (by rfl) (by rfl) s0 Try.underlying82 rfl (by kernel_rfl)
        case haq146 =>
          simp only [Act.put, List.setIfInBounds_toArray, List.set_cons_zero, List.set_cons_succ, i64_w, i32_w]
          rfl
        refine take_ (i := 1) (N := some 23) (v := .agg #[.bool a0_0, .int .u32 a0_1, .int .u32 a0_2, .slice A0_3 l0_3.length c0_3, .slice A0_4 l0_4.length c0_4, .slice A0_5 l0_5.length c0_5, .slice A0_6 l0_6.length c0_6, .slice A0_7 l0_7.length c0_7, .int .i64 a0_8, .slice A0_9 l0_9.length c0_9, .int .u32 a0_10]) (a' := ?aaq147) #[true, true, false, false, false] rfl rfl (by kernel_rfl) (fun _ _ _ h => h) (Or.inl ⟨by rfl, ?ylq147⟩) hHeld ?haq147 ?hhq147
        case ylq147 =>
          rintro w' ⟨s0, s1⟩
          exact ld_run (x := .tmp 1) (by rfl) (by rfl) s1 Try.underlying73 rfl (by kernel_rfl)
        case haq147 =>
          simp only [Act.put, List.setIfInBounds_toArray, List.set_cons_zero, List.set_cons_succ, i64_w, i32_w]
          rfl
        refine one_ (i := 2) (N := some 24) #[true, true, true, false, false] rfl rfl (by kernel_rfl) (by decide) (fun K hK => ?_)
        refine goes_ Try.func49 (by kernel_rfl) rfl #[.agg #[.bool a0_0, .int .u32 a0_1, .int .u32 a0_2, .slice A0_3 l0_3.length c0_3, .slice A0_4 l0_4.length c0_4, .slice A0_5 l0_5.length c0_5, .slice A0_6 l0_6.length c0_6, .slice A0_7 l0_7.length c0_7, .int .i64 a0_8, .slice A0_9 l0_9.length c0_9, .int .u32 a0_10]] (by rfl) rfl rfl (by (try simp only [List.map_toArray, List.map_cons, List.map_nil]); first | done | rfl | (simp only [List.length_drop, List.length_take]; rfl)) ?_
        with_reducible refine (laws_toImage.calls k a0_0 a0_1 a0_2 _ _ l0_3 _ _ l0_4 _ _ l0_5 _ _ l0_6 _ _ l0_7 a0_8 _ _ l0_9 a0_10 t152 t153 t154 t155 t158 t161 t164 t167 t170 t171 t174 _ ?side1 ?side2 ?side3 ?side4 ?side5 ?side6 ?side7 ?side8 ?side9 ?side10 ?side11 ?side12 A20.out).mono ?_
        (case side1 => exact Kd.C_below HR0_3.out H144.out.below)
        (case side2 => exact HC0_3.out)
        (case side3 => exact Kd.C_below HR0_4.out H144.out.below)
        (case side4 => exact HC0_4.out)
        (case side5 => exact Kd.C_below HR0_5.out H144.out.below)
        (case side6 => exact HC0_5.out)
        (case side7 => exact Kd.C_below HR0_6.out H144.out.below)
        (case side8 => exact HC0_6.out)
        (case side9 => exact Kd.C_below HR0_7.out H144.out.below)
        (case side10 => exact HC0_7.out)
        (case side11 => exact Kd.C_below HR0_9.out H144.out.below)
        (case side12 => exact HC0_9.out)
        rintro e w148 ⟨v149, v150, v151, v152, v153, v154, rfl, ho155, ho156, ho157, ho158, ho159, ho160, hb161⟩
        refine ⟨_, rfl, ?_⟩
        have H162 := Aside0.mk (Hist.step H144.out hb161)
        clear H144
        clear hb161
        have F165 := Aside0.mk ho155
        clear ho155
        have F169 := Aside0.mk ho156
        clear ho156
        have F173 := Aside0.mk ho157
        clear ho157
        have F177 := Aside0.mk ho158
        clear ho158
        have F181 := Aside0.mk ho159
        clear ho159
        have F185 := Aside0.mk ho160
        clear ho160
        obtain ⟨Ao163, co164, eo187⟩ := Kd.R_slice F165.out
        (first | subst eo187 | (injection eo187 with f1_ f2_ f3_; have f4_ := f1_.symm; have f5_ := f3_.symm; clear f1_ f2_ f3_; subst f4_; subst f5_))
        obtain ⟨Ao167, co168, eo188⟩ := Kd.R_slice F169.out
        (first | subst eo188 | (injection eo188 with f1_ f2_ f3_; have f4_ := f1_.symm; have f5_ := f3_.symm; clear f1_ f2_ f3_; subst f4_; subst f5_))
        obtain ⟨Ao171, co172, eo189⟩ := Kd.R_slice F173.out
        (first | subst eo189 | (injection eo189 with f1_ f2_ f3_; have f4_ := f1_.symm; have f5_ := f3_.symm; clear f1_ f2_ f3_; subst f4_; subst f5_))
        obtain ⟨Ao175, co176, eo190⟩ := Kd.R_slice F177.out
        (first | subst eo190 | (injection eo190 with f1_ f2_ f3_; have f4_ := f1_.symm; have f5_ := f3_.symm; clear f1_ f2_ f3_; subst f4_; subst f5_))
        obtain ⟨Ao179, co180, eo191⟩ := Kd.R_slice F181.out
        (first | subst eo191 | (injection eo191 with f1_ f2_ f3_; have f4_ := f1_.symm; have f5_ := f3_.symm; clear f1_ f2_ f3_; subst f4_; subst f5_))
        obtain ⟨Ao183, co184, eo192⟩ := Kd.R_slice F185.out
        (first | subst eo192 | (injection eo192 with f1_ f2_ f3_; have f4_ := f1_.symm; have f5_ := f3_.symm; clear f1_ f2_ f3_; subst f4_; subst f5_))
        refine hK.out _ _ ⟨(blk_fix2 B134.out ⟨G135.out, L136.out⟩ H162.out.fixes.tl.hd), (blk_fix2 B29.out ⟨G30.out, L31.out⟩ H162.out.fixes.tl.tl.tl.tl.hd)⟩ (fun hHeld => ?_)
        clear hK K
        refine norm_ (a' := ?_) ?_ ?_
        rotate_left
        · show Act.put _ (some 24) _ = _
          simp only [Act.put, List.setIfInBounds_toArray, List.set_cons_zero, List.set_cons_succ, i64_w, i32_w]
          rfl
        refine one_ (i := 3) (N := some 25) #[true, true, true, true, false] rfl rfl (by kernel_rfl) (by decide) (fun K hK => ?_)
        refine goes_ Try.func51 (by kernel_rfl) rfl #[.agg #[.bool t127, .int .u32 t128, .int .u32 t129, .slice Ao98 t130.length co99, .slice Ao102 t133.length co103, .slice Ao106 t136.length co107, .slice Ao110 t139.length co111, .slice Ao114 t142.length co115, .int .i64 t145, .slice Ao118 t146.length co119, .int .u32 t149], .agg #[.bool t152, .int .u32 t153, .int .u32 t154, .slice Ao163 t155.length co164, .slice Ao167 t158.length co168, .slice Ao171 t161.length co172, .slice Ao175 t164.length co176, .slice Ao179 t167.length co180, .int .i64 t170, .slice Ao183 t171.length co184, .int .u32 t174]] (by rfl) rfl rfl (by (try simp only [List.map_toArray, List.map_cons, List.map_nil]); first | done | rfl | (simp only [List.length_drop, List.length_take]; rfl)) ?_
        with_reducible refine (laws_eqImage.calls k t127 t128 t129 _ _ t130 _ _ t133 _ _ t136 _ _ t139 _ _ t142 t145 _ _ t146 t149 t152 t153 t154 _ _ t155 _ _ t158 _ _ t161 _ _ t164 _ _ t167 t170 _ _ t171 t174 true _ ?side1 ?side2 ?side3 ?side4 ?side5 ?side6 ?side7 ?side8 ?side9 ?side10 ?side11 ?side12 ?side13 ?side14 ?side15 ?side16 ?side17 ?side18 ?side19 ?side20 ?side21 ?side22 ?side23 ?side24 A21.out).mono ?_
        (case side1 => exact (Kd.R_reads' (R_fix F100.out H162.out.fixes.tl.tl.hd)).2.2)
        (case side2 => exact R_capn (R_fix F100.out H162.out.fixes.tl.tl.hd))
        (case side3 => exact (Kd.R_reads' (R_fix F104.out H162.out.fixes.tl.tl.hd)).2.2)
        (case side4 => exact R_capn (R_fix F104.out H162.out.fixes.tl.tl.hd))
        (case side5 => exact (Kd.R_reads' (R_fix F108.out H162.out.fixes.tl.tl.hd)).2.2)
        (case side6 => exact R_capn (R_fix F108.out H162.out.fixes.tl.tl.hd))
        (case side7 => exact (Kd.R_reads' (R_fix F112.out H162.out.fixes.tl.tl.hd)).2.2)
        (case side8 => exact R_capn (R_fix F112.out H162.out.fixes.tl.tl.hd))
        (case side9 => exact (Kd.R_reads' (R_fix F116.out H162.out.fixes.tl.tl.hd)).2.2)
        (case side10 => exact R_capn (R_fix F116.out H162.out.fixes.tl.tl.hd))
        (case side11 => exact (Kd.R_reads' (R_fix F120.out H162.out.fixes.tl.tl.hd)).2.2)
        (case side12 => exact R_capn (R_fix F120.out H162.out.fixes.tl.tl.hd))
        (case side13 => exact (Kd.R_reads' (R_fix F165.out H162.out.fixes.hd)).2.2)
        (case side14 => exact R_capn (R_fix F165.out H162.out.fixes.hd))
        (case side15 => exact (Kd.R_reads' (R_fix F169.out H162.out.fixes.hd)).2.2)
        (case side16 => exact R_capn (R_fix F169.out H162.out.fixes.hd))
        (case side17 => exact (Kd.R_reads' (R_fix F173.out H162.out.fixes.hd)).2.2)
        (case side18 => exact R_capn (R_fix F173.out H162.out.fixes.hd))
        (case side19 => exact (Kd.R_reads' (R_fix F177.out H162.out.fixes.hd)).2.2)
        (case side20 => exact R_capn (R_fix F177.out H162.out.fixes.hd))
        (case side21 => exact (Kd.R_reads' (R_fix F181.out H162.out.fixes.hd)).2.2)
        (case side22 => exact R_capn (R_fix F181.out H162.out.fixes.hd))
        (case side23 => exact (Kd.R_reads' (R_fix F185.out H162.out.fixes.hd)).2.2)
        (case side24 => exact R_capn (R_fix F185.out H162.out.fixes.hd))
        rintro e w193 ⟨rfl, hb194⟩
        refine ⟨_, rfl, ?_⟩
        have H195 := Aside0.mk (Hist.pass H162.out hb194)
        clear H162
        clear hb194
        refine hK.out _ _ ⟨(blk_fix2 B134.out ⟨G135.out, L136.out⟩ H195.out.fixes.tl.hd), (blk_fix2 B29.out ⟨G30.out, L31.out⟩ H195.out.fixes.tl.tl.tl.tl.hd)⟩ (fun hHeld => ?_)
        clear hK K
        refine norm_ (a' := ?_) ?_ ?_
        rotate_left
        · show Act.put _ (some 25) _ = _
          simp only [Act.put, List.setIfInBounds_toArray, List.set_cons_zero, List.set_cons_succ, i64_w, i32_w]
          rfl
        refine pure_ (i := 4) (N := some 26) (v := ?_) (a' := ?_) #[true, true, true, true, true] rfl rfl (by kernel_rfl) (fun _ _ _ h => h) (Or.inl ⟨by rfl, ?_⟩) ?_ ?_
        rotate_left
        · intro w'
          go_simp
          with_reducible rfl
        rotate_left
        · simp only [Act.put, List.setIfInBounds_toArray, List.set_cons_zero, List.set_cons_succ, i64_w, i32_w]
          rfl
        refine done_ (by kernel_rfl) ?_
        (try go_wp2)
        go_ret
        exact ⟨rfl, by first | exact H195.out.below | exact Drawn0.refl _⟩
      · rw [if_neg c22] at H
        exact absurd H (by simp)
    · rw [if_neg c19] at H
      exact absurd H (by simp)

end Go.Proofs.Ytbdbeccaopphaaa.Q
namespace Go.Proofs.Ytbdbeccaopphaaa.O
open Go.RowKit Go.Proofs.YtbdbeccaopphaaaW.PrintWords

/-- Cells that read as data of type t are cells of the kind d, of a value that meets ok. -/
def Opens {α : Type} (P : Program) (t : TypeId) (d : Kd α) (ok : α → Prop) : Prop :=
  ∀ (H : Type) (enc : TypeId × Value → H) (w : World) (fuel : Nat) (cs : List Value) (y : DataW H × List MemPlace),
    DataW.trod enc P w 0 (fun _ => true) true fuel t cs = some y → ∃ x, d.K w x cs ∧ ok x

section
variable {α β : Type} {P : Program} {t e : TypeId} {d : Kd α} {ok : α → Prop}

theorem opens_int {k : IntKind} (ht : P.underlying t = some (.int k)) : Opens P t (Kd.int k) (fun n => (Lit.int k n).wf = true) := by
  intro H enc w fuel cs y h
  obtain ⟨n, rfl, _, hw⟩ := DataW.trod_int ht h
  exact ⟨n, rfl, hw⟩
theorem opens_bool (ht : P.underlying t = some .bool) : Opens P t Kd.bool (fun _ => True) := by
  intro H enc w fuel cs y h
  obtain ⟨n, rfl, _⟩ := DataW.trod_bool ht h
  exact ⟨n, rfl, trivial⟩
theorem list_of {p : Nat → α → Prop} : ∀ n, (∀ i, i < n → ∃ x, p i x) → ∃ xs : List α, xs.length = n ∧ ∀ i x, xs[i]? = some x → p i x
  | 0, _ => ⟨[], rfl, by simp⟩
  | n + 1, h => by
    obtain ⟨xs, hl, hp⟩ := list_of n (fun i hi => h i (by omega))
    obtain ⟨x, hx⟩ := h n (by omega)
    refine ⟨xs ++ [x], by simp [hl], fun i z hz => ?_⟩
    by_cases hi : i < n
    · rw [List.getElem?_append_left (by omega)] at hz
      exact hp i z hz
    · have : i < n + 1 := by
        have := (List.getElem?_eq_some_iff.1 hz).1
        simp [hl] at this
        exact this
      obtain rfl : i = n := by omega
      rw [List.getElem?_append_right (by omega)] at hz
      simp [hl] at hz
      exact hz ▸ hx
theorem opens_slice (ht : P.underlying t = some (.slice e)) (hc : P.cellsOf e = d.sz) (he : Opens P e d ok) :
    Opens P t (Kd.slice e d) (fun xs => xs.length ≤ 9223372036854775807 ∧ ∀ x ∈ xs, ok x) := by
  intro H enc w fuel cs y h
  rcases DataW.trod_slice ht h with ⟨rfl, _⟩ | ⟨a, len, cap, elems, rest, n, _, rfl, _, _, hl, hm, hlen, hel, _, _⟩
  · exact ⟨[], ⟨none, 0, rfl, Nat.le_refl _, Kd.C_nil d w⟩, by simp, by simp⟩
  · have each : ∀ i, i < len → ∃ x, ∃ c, w.cells? 0 (a.add (i * d.sz)) d.sz = some c ∧ d.K w x c ∧ ok x := by
      intro i hi
      have h1 := hel i hi
      rw [hc, List.getElem?_eq_getElem (by omega)] at h1
      obtain ⟨c, h2, h3⟩ := Option.bind_eq_some_iff.1 h1
      obtain ⟨x, hx, hok⟩ := he H enc w n c _ h3
      exact ⟨x, c, h2, hx, hok⟩
    obtain ⟨xs, hxl, hxs⟩ := list_of len each
    refine ⟨xs, ⟨some a, cap, by rw [hxl], by omega, ?_⟩, by unfold maxLen at hm; omega, fun x hx => ?_⟩
    · refine ⟨rfl, by unfold maxLen at hm; omega, fun _ => ⟨a, rfl, fun j p hp => ?_⟩⟩
      obtain ⟨c, h2, h3, _⟩ := hxs j p hp
      refine ⟨c, d.K_len h3, h3, fun i u hu => ?_⟩
      have hi : i < c.length := (List.getElem?_eq_some_iff.1 hu).1
      have h4 := World.cells?_some h2
      rw [d.K_len h3] at hi
      rw [← Addr.add_add, (h4.2.2 i hi), hu]
    · obtain ⟨i, hi⟩ := List.getElem?_of_mem hx
      obtain ⟨_, _, _, hok⟩ := hxs i x hi
      exact hok
/-- A struct's fields from some field on. -/
def OpensFs {α : Type} (P : Program) (fs : List Field) (off : Nat) (d : Kd α) (ok : α → Prop) : Prop :=
  ∀ (H : Type) (enc : TypeId × Value → H) (w : World) (n : Nat) (cs : List Value) (xs : List (DataW H × List MemPlace)),
    cs.length = off + d.sz → (∀ (i : Nat) (f : Field), fs[i]? = some f → DataW.trod enc P w 0 (fun _ => true) true n f.type ((cs.drop f.offset).take (P.cellsOf f.type)) = xs[i]?) →
    fs.length ≤ xs.length → ∃ x, d.K w x (cs.drop off) ∧ ok x
theorem opensFs_one {f : Field} {off : Nat} (ho : f.offset = off) (hc : P.cellsOf f.type = d.sz) (h : Opens P f.type d ok) : OpensFs P [f] off d ok := by
  intro H enc w n cs xs hl hf hx
  have h1 := hf 0 f rfl
  simp only [List.length_cons, List.length_nil] at hx
  rw [List.getElem?_eq_getElem (by omega)] at h1
  rw [ho, hc, List.take_of_length_le (by simp; omega)] at h1
  exact h H enc w n _ _ h1
theorem opensFs_cons {f : Field} {fs : List Field} {off : Nat} {d2 : Kd β} {ok2 : β → Prop} (ho : f.offset = off) (hc : P.cellsOf f.type = d.sz) (h : Opens P f.type d ok)
    (h2 : OpensFs P fs (off + d.sz) d2 ok2) : OpensFs P (f :: fs) off (Kd.pair d d2) (fun x => ok x.1 ∧ ok2 x.2) := by
  intro H enc w n cs xs hl hf hx
  have hl' : cs.length = off + (d.sz + d2.sz) := hl
  simp only [List.length_cons] at hx
  have h1 := hf 0 f rfl
  rw [List.getElem?_eq_getElem (by omega)] at h1
  rw [ho, hc] at h1
  obtain ⟨x, hxk, hxo⟩ := h H enc w n _ _ h1
  obtain ⟨y, hyk, hyo⟩ := h2 H enc w n cs (xs.drop 1) (by omega) (fun i g hg => by
    have := hf (i + 1) g (by simpa using hg)
    rw [this, List.getElem?_drop]
    congr 1
    omega) (by simp; omega)
  refine ⟨(x, y), ⟨_, _, ?_, hxk, hyk⟩, hxo, hyo⟩
  rw [← List.drop_drop]
  exact (List.take_append_drop _ _).symm
theorem opens_struct {fs : List Field} (ht : P.underlying t = some (.struct fs.toArray)) (hc : P.cellsOf t = d.sz) (h : OpensFs P fs 0 d ok) (f : β → α) (g : α → β) (hfg : ∀ a, f (g a) = a) :
    Opens P t (Kd.iso d f) (fun x => ok (f x)) := by
  intro H enc w fuel cs y h0
  obtain ⟨xs, n, _, _, hlen, hxl, hf⟩ := DataW.trod_struct ht h0
  obtain ⟨a, hk, ho⟩ := h H enc w n cs xs (by omega) (fun i f hi => hf i f (by simpa using hi)) (by simp at hxl; omega)
  refine ⟨g a, ?_, ?_⟩
  · show d.K w (f (g a)) cs
    rw [hfg]
    simpa using hk
  · show ok (f (g a))
    rw [hfg]
    exact ho
end
end Go.Proofs.Ytbdbeccaopphaaa.O
namespace Go.Proofs.Ytbdbeccaopphaaa.Q
open Go.RowKit Go.Proofs.YtbdbeccaopphaaaW.PrintWords Go.Proofs.Ytbdbeccaopphaaa.O
def W139 (x : S139) : Prop := (Lit.int .i64 x.f0).wf = true ∧ (x.f1.length ≤ 9223372036854775807 ∧ ∀ z_ ∈ x.f1, (Lit.int .u8 z_).wf = true)
theorem opens_T139 : Opens Try.prog 139 k139 W139 := opens_struct Try.underlying139 (by kernel_rfl) (opensFs_cons rfl (by kernel_rfl) (opens_int Try.underlying2) (opensFs_one rfl (by kernel_rfl) (opens_slice Try.underlying23 (by kernel_rfl) (opens_int Try.underlying5)))) (fun x : S139 => (x.f0, x.f1)) (fun a => (⟨a.1, a.2⟩ : S139)) (fun _ => rfl)
def W42 (x : S42) : Prop := (x.f0.length ≤ 9223372036854775807 ∧ ∀ z_ ∈ x.f0, (Lit.int .u8 z_).wf = true) ∧ (x.f1.length ≤ 9223372036854775807 ∧ ∀ z_ ∈ x.f1, W139 z_) ∧ (Lit.int .i64 x.f2).wf = true ∧ True
theorem opens_T42 : Opens Try.prog 42 k42 W42 := opens_struct Try.underlying42 (by kernel_rfl) (opensFs_cons rfl (by kernel_rfl) (opens_slice Try.underlying23 (by kernel_rfl) (opens_int Try.underlying5)) (opensFs_cons rfl (by kernel_rfl) (opens_slice Try.underlying40 (by kernel_rfl) opens_T139) (opensFs_cons rfl (by kernel_rfl) (opens_int Try.underlying2) (opensFs_one rfl (by kernel_rfl) (opens_bool Try.underlying4))))) (fun x : S42 => (x.f0, x.f1, x.f2, x.f3)) (fun a => (⟨a.1, a.2.1, a.2.2.1, a.2.2.2⟩ : S42)) (fun _ => rfl)
def W152 (x : S152) : Prop := (Lit.int .i64 x.f0).wf = true ∧ (Lit.int .i64 x.f1).wf = true
theorem opens_T152 : Opens Try.prog 152 k152 W152 := opens_struct Try.underlying152 (by kernel_rfl) (opensFs_cons rfl (by kernel_rfl) (opens_int Try.underlying2) (opensFs_one rfl (by kernel_rfl) (opens_int Try.underlying2))) (fun x : S152 => (x.f0, x.f1)) (fun a => (⟨a.1, a.2⟩ : S152)) (fun _ => rfl)
def W71 (x : S71) : Prop := (x.f0.length ≤ 9223372036854775807 ∧ ∀ z_ ∈ x.f0, (Lit.int .i64 z_).wf = true) ∧ (x.f1.length ≤ 9223372036854775807 ∧ ∀ z_ ∈ x.f1, (Lit.int .i64 z_).wf = true) ∧ (Lit.int .i64 x.f2).wf = true ∧ (x.f3.length ≤ 9223372036854775807 ∧ ∀ z_ ∈ x.f3, W152 z_)
theorem opens_T71 : Opens Try.prog 71 k71 W71 := opens_struct Try.underlying71 (by kernel_rfl) (opensFs_cons rfl (by kernel_rfl) (opens_slice Try.underlying65 (by kernel_rfl) (opens_int Try.underlying2)) (opensFs_cons rfl (by kernel_rfl) (opens_slice Try.underlying65 (by kernel_rfl) (opens_int Try.underlying2)) (opensFs_cons rfl (by kernel_rfl) (opens_int Try.underlying2) (opensFs_one rfl (by kernel_rfl) (opens_slice Try.underlying69 (by kernel_rfl) opens_T152))))) (fun x : S71 => (x.f0, x.f1, x.f2, x.f3)) (fun a => (⟨a.1, a.2.1, a.2.2.1, a.2.2.2⟩ : S71)) (fun _ => rfl)
def W67 (x : S67) : Prop := (Lit.int .u32 x.f0).wf = true ∧ (Lit.int .u32 x.f1).wf = true ∧ (x.f2.length ≤ 9223372036854775807 ∧ ∀ z_ ∈ x.f2, (Lit.int .i64 z_).wf = true) ∧ (x.f3.length ≤ 9223372036854775807 ∧ ∀ z_ ∈ x.f3, (Lit.int .i64 z_).wf = true)
theorem opens_T67 : Opens Try.prog 67 k67 W67 := opens_struct Try.underlying67 (by kernel_rfl) (opensFs_cons rfl (by kernel_rfl) (opens_int Try.underlying24) (opensFs_cons rfl (by kernel_rfl) (opens_int Try.underlying24) (opensFs_cons rfl (by kernel_rfl) (opens_slice Try.underlying65 (by kernel_rfl) (opens_int Try.underlying2)) (opensFs_one rfl (by kernel_rfl) (opens_slice Try.underlying65 (by kernel_rfl) (opens_int Try.underlying2)))))) (fun x : S67 => (x.f0, x.f1, x.f2, x.f3)) (fun a => (⟨a.1, a.2.1, a.2.2.1, a.2.2.2⟩ : S67)) (fun _ => rfl)
def W149 (x : S149) : Prop := (Lit.int .u32 x.f0).wf = true ∧ (Lit.int .i64 x.f1).wf = true ∧ (Lit.int .u32 x.f2).wf = true ∧ (Lit.int .u32 x.f3).wf = true
theorem opens_T149 : Opens Try.prog 149 k149 W149 := opens_struct Try.underlying149 (by kernel_rfl) (opensFs_cons rfl (by kernel_rfl) (opens_int Try.underlying24) (opensFs_cons rfl (by kernel_rfl) (opens_int Try.underlying2) (opensFs_cons rfl (by kernel_rfl) (opens_int Try.underlying24) (opensFs_one rfl (by kernel_rfl) (opens_int Try.underlying24))))) (fun x : S149 => (x.f0, x.f1, x.f2, x.f3)) (fun a => (⟨a.1, a.2.1, a.2.2.1, a.2.2.2⟩ : S149)) (fun _ => rfl)
def W73 (x : S73) : Prop := True ∧ W67 x.f1 ∧ (x.f2.length ≤ 9223372036854775807 ∧ ∀ z_ ∈ x.f2, W149 z_) ∧ W71 x.f3 ∧ (Lit.int .u32 x.f4).wf = true
theorem opens_T73 : Opens Try.prog 73 k73 W73 := opens_struct Try.underlying73 (by kernel_rfl) (opensFs_cons rfl (by kernel_rfl) (opens_bool Try.underlying4) (opensFs_cons rfl (by kernel_rfl) opens_T67 (opensFs_cons rfl (by kernel_rfl) (opens_slice Try.underlying68 (by kernel_rfl) opens_T149) (opensFs_cons rfl (by kernel_rfl) opens_T71 (opensFs_one rfl (by kernel_rfl) (opens_int Try.underlying24)))))) (fun x : S73 => (x.f0, x.f1, x.f2, x.f3, x.f4)) (fun a => (⟨a.1, a.2.1, a.2.2.1, a.2.2.2.1, a.2.2.2.2⟩ : S73)) (fun _ => rfl)
end Go.Proofs.Ytbdbeccaopphaaa.Q
namespace Go.Proofs.Ytbdbeccaopphaaa.Q
open Go.RowKit Go.Proofs.YtbdbeccaopphaaaW.PrintWords Go.Proofs.YtbdbeccaopphaaaW.PrintLast Go.Proofs.Ytbdbeccaopphaaa.O
def laws_FnExactCutPoint.Pure : Prop := ∀ (x0 : S73) , W73 x0 → ∃ k, laws_FnExactCutPoint.f k x0.f0 x0.f1.f0 x0.f1.f1 x0.f1.f2 x0.f1.f3 x0.f2 x0.f3.f0 x0.f3.f1 x0.f3.f2 x0.f3.f3 x0.f4 = some true
end Go.Proofs.Ytbdbeccaopphaaa.Q
namespace Go.Proofs.Ytbdbeccaopphaaa.P
open Go.RowKit Go.Proofs.YtbdbeccaopphaaaW.PrintWords

/-- From some number of rounds on, f answers a. -/
def Ev {α : Type} (f : Nat → Option α) (a : α) : Prop := ∃ K, ∀ k, K ≤ k → f k = some a
section
variable {α β γ : Type} {f g : Nat → Option α} {a : α} {b : β}
theorem Ev.ex (h : Ev f a) : ∃ k, f k = some a := by
  obtain ⟨K, h⟩ := h
  exact ⟨K, h K (Nat.le_refl _)⟩
theorem Ev.const {o : Option α} (h : o = some a) : Ev (fun _ => o) a := ⟨0, fun _ _ => h⟩
theorem Ev.bind {g : Nat → α → Option β} (h : Ev f a) (h2 : Ev (fun k => g k a) b) : Ev (fun k => (f k).bind (g k)) b := by
  obtain ⟨K, h⟩ := h
  obtain ⟨K2, h2⟩ := h2
  exact ⟨max K K2, fun k hk => by show (f k).bind (g k) = some b; rw [h k (by omega)]; exact h2 k (by omega)⟩
theorem Ev.pos {c : Prop} [Decidable c] (hc : c) (h : Ev f a) : Ev (fun k => if c then f k else g k) a := by
  obtain ⟨K, h⟩ := h
  exact ⟨K, fun k hk => (if_pos hc).trans (h k hk)⟩
theorem Ev.neg {c : Prop} [Decidable c] (hc : ¬ c) (h : Ev g a) : Ev (fun k => if c then f k else g k) a := by
  obtain ⟨K, h⟩ := h
  exact ⟨K, fun k hk => (if_neg hc).trans (h k hk)⟩
theorem Ev.step (h : ∃ K, ∀ k, K ≤ k → f (k + 1) = g k) (e : Ev g a) : Ev f a := by
  obtain ⟨K, h⟩ := h
  obtain ⟨K2, e⟩ := e
  refine ⟨max K K2 + 1, fun k hk => ?_⟩
  obtain ⟨j, rfl⟩ : ∃ j, k = j + 1 := ⟨k - 1, by omega⟩
  rw [h j (by omega)]
  exact e j (by omega)
theorem Ev.last (h : ∃ K, ∀ k, K ≤ k → f (k + 1) = some a) : Ev f a := Ev.step (g := fun _ => some a) h (Ev.const rfl)
theorem Ev.congr (h : ∀ k, f k = g k) (e : Ev g a) : Ev f a := by
  obtain ⟨K, e⟩ := e
  exact ⟨K, fun k hk => (h k).trans (e k hk)⟩
theorem Ev.loop {σ ρ : Type} (l : Nat → σ → Option ρ) (st : Nat → σ) (n : Nat) (r : ρ) (hstep : ∀ i, i < n → ∃ K, ∀ k, K ≤ k → l (k + 1) (st i) = l k (st (i + 1)))
    (hend : Ev (fun k => l k (st n)) r) : ∀ j i, i + j = n → Ev (fun k => l k (st i)) r
  | 0, i, h => by
    obtain rfl : i = n := by omega
    exact hend
  | j + 1, i, h => Ev.step (hstep i (by omega)) (Ev.loop l st n r hstep hend j (i + 1) (by omega))
theorem Ev.loop0 {σ ρ : Type} (l : Nat → σ → Option ρ) (st : Nat → σ) (n : Nat) (r : ρ) (hstep : ∀ i, i < n → ∃ K, ∀ k, K ≤ k → l (k + 1) (st i) = l k (st (i + 1)))
    (hend : Ev (fun k => l k (st n)) r) : Ev (fun k => l k (st 0)) r := Ev.loop l st n r hstep hend n 0 (by omega)
/-- What ends for one number of rounds ends from there on, where more rounds give the same. -/
theorem Ev.of_mono (hm : ∀ k, LeO (f k) (f (k + 1))) (h : ∃ k, f k = some a) : Ev f a := by
  obtain ⟨K, h⟩ := h
  exact ⟨K, fun k hk => at_rounds hm hk h⟩
theorem Ev.uniq {a' : α} (h : Ev f a) (h' : Ev f a') : a = a' := by
  obtain ⟨K, h⟩ := h
  obtain ⟨K', h'⟩ := h'
  have e := h (max K K') (by omega)
  rw [h' (max K K') (by omega)] at e
  exact (Option.some.inj e).symm
end
theorem w64 {n : Int} (h : -9223372036854775808 ≤ n) (h2 : n ≤ 9223372036854775807) : wrap64 n = n := by unfold wrap64; omega
theorem w64s {i n : Nat} (h : i < n) (hn : n ≤ 4611686018427387904) : wrap64 ((i : Int) + 1) = ((i + 1 : Nat) : Int) := by rw [w64 (by omega) (by omega)]; rfl
theorem rd_at {xs : List Int} {i : Nat} {a : Int} (h : xs[i]? = some a) : rd xs (i : Int) = a := by
  unfold rd
  rw [Int.toNat_natCast, List.getD_eq_getElem?_getD, h]
  rfl
theorem rdOf_at {α : Type} {d : α} {xs : List α} {i : Nat} {a : α} (h : xs[i]? = some a) : rdOf d xs (i : Int) = a := by
  unfold rdOf
  rw [Int.toNat_natCast, List.getD_eq_getElem?_getD, h]
  rfl
theorem getD_at {α : Type} {d : α} {xs : List α} {i : Nat} {a : α} (h : xs[i]? = some a) : xs.getD ((i : Int)).toNat d = a := by
  rw [Int.toNat_natCast, List.getD_eq_getElem?_getD, h]
  rfl
theorem some_at {α : Type} {xs : List α} {i : Nat} (h : i < xs.length) : ∃ a, xs[i]? = some a := ⟨xs[i], List.getElem?_eq_getElem h⟩
theorem take_set {α : Type} (L x : List α) (i : Nat) (a : α) (h : L[i]? = some a) (h3 : L.length = x.length) : (L.take i ++ x.drop i).set i a = L.take (i + 1) ++ x.drop (i + 1) := by
  obtain ⟨hi, rfl⟩ := List.getElem?_eq_some_iff.1 h
  have hl : (L.take i).length = i := by simp; omega
  rw [List.set_append_right _ _ (by omega), hl, Nat.sub_self, List.drop_eq_getElem_cons (by omega : i < x.length), List.set_cons_zero, List.take_succ_eq_append_getElem hi, List.append_assoc]
  rfl
/-- Element by element into a row of the same length. -/
theorem copy_ends {α β : Type} (l : Nat → List β → Int → Option (List β)) (conv : α → β) (x0 : List α) (x3 : List β) (h3 : x0.length = x3.length)
    (hstep : ∀ (i : Nat) (a : α) (y : List β), x0[i]? = some a → i < x0.length → y.length = x0.length → ∃ K, ∀ k, K ≤ k → l (k + 1) y (i : Int) = l k (y.set i (conv a)) ((i + 1 : Nat) : Int))
    (hend : ∀ k y, y.length = x0.length → l (k + 1) y (x0.length : Int) = some y) : Ev (fun k => l k x3 0) (x0.map conv) := by
  have h := Ev.loop0 (fun k (s : List β × Int) => l k s.1 s.2) (fun i => ((x0.map conv).take i ++ x3.drop i, (i : Int))) x0.length (x0.map conv) ?_ ?_
  · simpa using h
  · intro i hi
    obtain ⟨a, ha⟩ := some_at hi
    obtain ⟨K, hK⟩ := hstep i a ((x0.map conv).take i ++ x3.drop i) ha hi (by simp; omega)
    refine ⟨K, fun k hk => ?_⟩
    have := hK k hk
    rw [take_set (x0.map conv) x3 i (conv a) (by simp [ha]) (by simpa using h3)] at this
    exact this
  · refine Ev.last ⟨0, fun k _ => ?_⟩
    have := hend k ((x0.map conv).take x0.length ++ x3.drop x0.length) (by simp; omega)
    simp only [this]
    rw [List.take_of_length_le (by simp), List.drop_of_length_le (by omega), List.append_nil]
/-- A check of each element. -/
theorem each_ends {ρ : Type} (l : Nat → Int → Option ρ) (n : Nat) (r : ρ) (hstep : ∀ i : Nat, i < n → ∃ K, ∀ k, K ≤ k → l (k + 1) (i : Int) = l k ((i + 1 : Nat) : Int)) (hend : ∀ k, l (k + 1) (n : Int) = some r) : Ev (fun k => l k 0) r :=
  Ev.loop0 l (fun i => (i : Int)) n r hstep (Ev.last ⟨0, fun k _ => hend k⟩)
/-- A check that stops at the first that fails. -/
theorem all_loop {α : Type} (l : Nat → Int → Option Bool) (xs : List α) (p : α → Bool) (hstep : ∀ (i : Nat) (a : α), xs[i]? = some a → i < xs.length → ∃ K, ∀ k, K ≤ k → l (k + 1) (i : Int) = if p a = true then l k ((i + 1 : Nat) : Int) else some false)
    (hend : ∀ k, l (k + 1) (xs.length : Int) = some true) : Ev (fun k => l k 0) (xs.all p) := by
  have key : ∀ (rest done : List α), done ++ rest = xs → Ev (fun k => l k (done.length : Int)) (rest.all p) := by
    intro rest
    induction rest with
    | nil =>
      intro done hd
      have : xs.length = done.length := by rw [← hd, List.append_nil]
      refine Ev.last ⟨0, fun k _ => ?_⟩
      show l (k + 1) (done.length : Int) = some true
      rw [← this]
      exact hend k
    | cons a rest ih =>
      intro done hd
      have hlen : done.length + (rest.length + 1) = xs.length := by rw [← hd, List.length_append, List.length_cons]
      obtain ⟨K, hK⟩ := hstep done.length a (by rw [← hd]; simp) (by omega)
      cases hp : p a with
      | true =>
        have h1 := ih (done ++ [a]) (by rw [← hd]; simp)
        rw [List.length_append, List.length_singleton] at h1
        rw [List.all_cons, hp, Bool.true_and]
        refine Ev.step ⟨K, fun k hk => ?_⟩ h1
        have := hK k hk
        rw [hp, if_pos rfl] at this
        exact this
      | false =>
        rw [List.all_cons, hp, Bool.false_and]
        refine Ev.last ⟨K, fun k hk => ?_⟩
        have := hK k hk
        rw [hp, if_neg (by simp)] at this
        exact this
  exact key xs [] rfl
/-- Elements counted upwards are written over a row (f: what is written for a count). -/
def ups {β : Type} (f : Int → β) (m : Int) (n : Nat) : List β := (List.range n).map fun (i : Nat) => f (m + i)
theorem ups_length {β : Type} (f : Int → β) (m : Int) (n : Nat) : (ups f m n).length = n := by simp [ups]
theorem ups_at {β : Type} (f : Int → β) (m : Int) {n i : Nat} (h : i < n) : (ups f m n)[i]? = some (f (m + i)) := by simp [ups, h]
theorem mark_ends {β : Type} (l : Nat → List β → Int → Int → Option (Int × List β)) (f : Int → β) (x : List β) (m : Int) (h0 : 0 ≤ m) (hm : m + x.length ≤ 4611686018427387904)
    (hstep : ∀ (k i : Nat) (y : List β) (c : Int), i < x.length → y.length = x.length → l (k + 1) y c (i : Int) = l k (y.set i (f c)) (wrap64 (c + 1)) (wrap64 ((i : Int) + 1)))
    (hend : ∀ (k : Nat) (y : List β) (c : Int), y.length = x.length → l (k + 1) y c (x.length : Int) = some (c, y)) : Ev (fun k => l k x m 0) (m + x.length, ups f m x.length) := by
  have h := Ev.loop0 (fun k (s : List β × Int × Int) => l k s.1 s.2.1 s.2.2) (fun i => ((ups f m x.length).take i ++ x.drop i, m + i, (i : Int))) x.length (m + x.length, ups f m x.length) ?_ ?_
  · simpa using h
  · intro i hi
    refine ⟨0, fun k _ => ?_⟩
    have := hstep k i ((ups f m x.length).take i ++ x.drop i) (m + i) hi (by simp [ups_length]; omega)
    rw [take_set (ups f m x.length) x i _ (ups_at f m hi) (ups_length f m _), w64s hi (by omega), w64 (by omega) (by omega)] at this
    refine this.trans ?_
    show l k _ (m + i + 1) _ = l k _ (m + ((i + 1 : Nat) : Int)) _
    rw [show m + (i : Int) + 1 = m + ((i + 1 : Nat) : Int) from by omega]
  · refine Ev.last ⟨0, fun k _ => ?_⟩
    have := hend k ((ups f m x.length).take x.length ++ x.drop x.length) (m + x.length) (by simp [ups_length])
    simp only [this]
    rw [List.take_of_length_le (by simp [ups_length]), List.drop_of_length_le (by omega), List.append_nil]
theorem held_ends (l : Nat → Int → Int → Option Int) (n : Nat) (m : Int) (h0 : 0 ≤ m) (hm : m + n ≤ 4611686018427387904)
    (hstep : ∀ (k i : Nat), i < n → l (k + 1) (m + i) (i : Int) = l k (wrap64 (m + i + 1)) (wrap64 ((i : Int) + 1)))
    (hend : ∀ (k : Nat), l (k + 1) (m + n) (n : Int) = some (m + n)) : Ev (fun k => l k m 0) (m + n) := by
  have h := Ev.loop0 (fun k (s : Int × Int) => l k s.1 s.2) (fun i => (m + i, (i : Int))) n (m + n) ?_ ?_
  · simpa using h
  · intro i hi
    refine ⟨0, fun k _ => ?_⟩
    have := hstep k i hi
    rw [w64s hi (by omega), w64 (by omega) (by omega)] at this
    refine this.trans ?_
    show l k (m + i + 1) _ = l k (m + ((i + 1 : Nat) : Int)) _
    rw [show m + (i : Int) + 1 = m + ((i + 1 : Nat) : Int) from by omega]
  · exact Ev.last ⟨0, fun k _ => hend k⟩
end Go.Proofs.Ytbdbeccaopphaaa.P
namespace Go.Proofs.Ytbdbeccaopphaaa.P
open Go.RowKit Go.Proofs.YtbdbeccaopphaaaW.PrintWords Go.Proofs.Ytbdbeccaopphaaa.Q
set_option linter.unusedVariables false
set_option linter.unusedSimpArgs false
theorem toInt64S_ev (l : List Int) (h : l.length ≤ 35184372088832) : Ev (fun k => laws_toInt64S.f k l) l := by
  have h1 := copy_ends (fun k y i => laws_toInt64S.l0 k l y i) id l (List.replicate ((l.length : Int)).toNat 0) (by simp) ?_ ?_
  · rw [List.map_id] at h1
    refine Ev.congr (fun k => ?_) h1
    simp only [laws_toInt64S.f]
    rw [if_pos (by omega), if_pos (by omega)]
  · intro i a y ha hi hy
    refine ⟨0, fun k _ => ?_⟩
    simp only [laws_toInt64S.l0]
    rw [if_pos (by omega), if_pos (by omega), if_pos (by omega), w64s hi (by omega), rd_at ha]
    rfl
  · intro k y hy
    simp only [laws_toInt64S.l0]
    rw [if_neg (by omega)]
theorem eqInt64S_ev (l : List Int) (h : l.length ≤ 4611686018427387904) : Ev (fun k => laws_eqInt64S.f k l l) true := by
  refine Ev.congr (fun k => ?_) (each_ends (fun k i => laws_eqInt64S.l0 k l l i) l.length true ?_ ?_)
  · simp only [laws_eqInt64S.f]
    rw [if_pos trivial]
  · intro i hi
    refine ⟨0, fun k _ => ?_⟩
    simp only [laws_eqInt64S.l0]
    rw [if_pos (by omega), if_pos (by omega), if_pos (by omega), if_pos trivial, w64s hi (by omega)]
  · intro k
    simp only [laws_eqInt64S.l0]
    rw [if_neg (by omega)]
theorem szInt64S_is (l : List Int) (a : Int) (h0 : 0 ≤ a) (h1 : a ≤ 1048576) (hl : l.length ≤ 9223372036854775807) : ∃ t, laws_szInt64S.f l a = some t ∧ (t < 0 ∨ (t = a - l.length ∧ 0 ≤ t)) := by
  simp only [laws_szInt64S.f]
  rw [w64 (by omega) (by omega)]
  by_cases h : a - (l.length : Int) < 0
  · rw [if_pos h]
    exact ⟨_, rfl, .inl (by omega)⟩
  · rw [if_neg h]
    exact ⟨_, rfl, .inr ⟨rfl, by omega⟩⟩
end Go.Proofs.Ytbdbeccaopphaaa.P
namespace Go.Proofs.Ytbdbeccaopphaaa.P
open Go.RowKit Go.Proofs.YtbdbeccaopphaaaW.PrintWords Go.Proofs.Ytbdbeccaopphaaa.Q
set_option linter.unusedVariables false
set_option linter.unusedSimpArgs false
def cvTapRec (p : S152) : S128 := ⟨p.f0, p.f1⟩
theorem rdTapRec_at {xs : List S128} {i : Nat} {a : S128} (h : xs[i]? = some a) : rd_T128 xs (i : Int) = a := getD_at h
theorem rdLTapRec_at {xs : List S152} {i : Nat} {a : S152} (h : xs[i]? = some a) : rd_T152 xs (i : Int) = a := getD_at h
theorem toTapRecS_ev (l : List S152) (h : l.length ≤ 1048576) : Ev (fun k => laws_toTapRecS.f k l) (l.map cvTapRec) := by
  have h1 := copy_ends (fun k y i => laws_toTapRecS.l0 k l y i) cvTapRec l (List.replicate ((l.length : Int)).toNat z128) (by simp) ?_ ?_
  · refine Ev.congr (fun k => ?_) h1
    simp only [laws_toTapRecS.f]
    rw [if_pos (by omega), if_pos (by omega)]
  · intro i a y ha hi hy
    refine ⟨0, fun k _ => ?_⟩
    simp only [laws_toTapRecS.l0, laws_toTapRec.f, Option.bind_some]
    rw [if_pos (by omega), if_pos (by omega), if_pos (by omega), rdLTapRec_at ha, w64s hi (by omega)]
    rfl
  · intro k y hy
    simp only [laws_toTapRecS.l0]
    rw [if_neg (by omega)]
theorem eqTapRecS_ev (l : List S128) (h : l.length ≤ 4611686018427387904) : Ev (fun k => laws_eqTapRecS.f k l l) true := by
  refine Ev.congr (fun k => ?_) (each_ends (fun k i => laws_eqTapRecS.l0 k l l i) l.length true ?_ ?_)
  · simp only [laws_eqTapRecS.f]
    rw [if_pos trivial]
  · intro i hi
    refine ⟨0, fun k _ => ?_⟩
    simp only [laws_eqTapRecS.l0, laws_eqTapRec.f]
    rw [if_pos (by omega), if_pos (by omega), if_pos (by omega), w64s hi (by omega)]
    simp only [if_true, Option.bind_some]
  · intro k
    simp only [laws_eqTapRecS.l0]
    rw [if_neg (by omega)]
theorem szTapRecS_is (l : List S152) (a : Int) (h0 : 0 ≤ a) (h1 : a ≤ 1048576) (hl : l.length ≤ 9223372036854775807) : ∃ t, laws_szTapRecS.f l a = some t ∧ (t < 0 ∨ (t = a - l.length ∧ 0 ≤ t)) := by
  simp only [laws_szTapRecS.f]
  rw [w64 (by omega) (by omega)]
  by_cases h : a - (l.length : Int) < 0
  · rw [if_pos h]
    exact ⟨_, rfl, .inl (by omega)⟩
  · rw [if_neg h]
    exact ⟨_, rfl, .inr ⟨rfl, by omega⟩⟩
end Go.Proofs.Ytbdbeccaopphaaa.P
namespace Go.Proofs.Ytbdbeccaopphaaa.P
open Go.RowKit Go.Proofs.YtbdbeccaopphaaaW.PrintWords Go.Proofs.Ytbdbeccaopphaaa.Q
set_option linter.unusedVariables false
set_option linter.unusedSimpArgs false
theorem szState_is (l0 l1 : List Int) (a2 : Int) (l3 : List S152) (a : Int) (h0 : 0 ≤ a) (h1 : a ≤ 1048576) (hl0 : l0.length ≤ 9223372036854775807) (hl1 : l1.length ≤ 9223372036854775807) (hl3 : l3.length ≤ 9223372036854775807) :
    ∃ t, laws_szState.f l0 l1 a2 l3 a = some t ∧ (t < 0 ∨ (0 ≤ t ∧ t ≤ a ∧ (l0.length : Int) ≤ a ∧ (l1.length : Int) ≤ a ∧ (l3.length : Int) ≤ a)) := by
  obtain ⟨t, ht, hc⟩ := szInt64S_is l0 a h0 h1 hl0
  simp only [laws_szState.f, ht, Option.bind_some]
  rcases hc with hc | ⟨hc, hc0⟩
  · exact ⟨-1, if_pos hc, .inl (by omega)⟩
  · rw [if_neg (by omega)]
    obtain ⟨t2, h2, hc2⟩ := szInt64S_is l1 t hc0 (by omega) hl1
    simp only [h2, Option.bind_some]
    rcases hc2 with hc2 | ⟨hc2, hc20⟩
    · exact ⟨-1, if_pos hc2, .inl (by omega)⟩
    · rw [if_neg (by omega)]
      obtain ⟨t3, h3, hc3⟩ := szTapRecS_is l3 t2 hc20 (by omega) hl3
      simp only [h3, Option.bind_some]
      rcases hc3 with hc3 | ⟨hc3, hc30⟩
      · exact ⟨-1, if_pos hc3, .inl (by omega)⟩
      · exact ⟨t3, if_neg (by omega), .inr ⟨by omega, by omega, by omega, by omega, by omega⟩⟩
theorem toState_ev (l0 l1 : List Int) (a2 : Int) (l3 : List S152) (h0 : l0.length ≤ 1048576) (h1 : l1.length ≤ 1048576) (h3 : l3.length ≤ 1048576) : Ev (fun k => laws_toState.f k l0 l1 a2 l3) (l0, l1, a2, l3.map cvTapRec) := by
  simp only [laws_toState.f]
  exact Ev.bind (toInt64S_ev l0 (by omega)) (Ev.bind (toInt64S_ev l1 (by omega)) (Ev.bind (toTapRecS_ev l3 (by omega)) (Ev.const rfl)))
theorem eqState_ev (l0 l1 : List Int) (a2 : Int) (l3 : List S128) (h0 : l0.length ≤ 4611686018427387904) (h1 : l1.length ≤ 4611686018427387904) (h3 : l3.length ≤ 4611686018427387904) : Ev (fun k => laws_eqState.f k l0 l1 a2 l3 l0 l1 a2 l3) true := by
  simp only [laws_eqState.f]
  exact Ev.bind (eqInt64S_ev l0 h0) (Ev.pos rfl (Ev.bind (eqInt64S_ev l1 h1) (Ev.pos rfl (Ev.pos trivial (Ev.bind (eqTapRecS_ev l3 h3) (Ev.pos rfl (Ev.const rfl)))))))
end Go.Proofs.Ytbdbeccaopphaaa.P
namespace Go.Proofs.Ytbdbeccaopphaaa.P
open Go.RowKit Go.Proofs.YtbdbeccaopphaaaW.PrintWords Go.Proofs.Ytbdbeccaopphaaa.Q
set_option linter.unusedVariables false
set_option linter.unusedSimpArgs false
def cvFrame (p : S149) : S119 := ⟨p.f0, p.f1, p.f2, p.f3⟩
theorem rdFrame_at {xs : List S119} {i : Nat} {a : S119} (h : xs[i]? = some a) : rd_T119 xs (i : Int) = a := getD_at h
theorem rdLFrame_at {xs : List S149} {i : Nat} {a : S149} (h : xs[i]? = some a) : rd_T149 xs (i : Int) = a := getD_at h
theorem toFrameS_ev (l : List S149) (h : l.length ≤ 1048576) : Ev (fun k => laws_toFrameS.f k l) (l.map cvFrame) := by
  have h1 := copy_ends (fun k y i => laws_toFrameS.l0 k l y i) cvFrame l (List.replicate ((l.length : Int)).toNat z119) (by simp) ?_ ?_
  · refine Ev.congr (fun k => ?_) h1
    simp only [laws_toFrameS.f]
    rw [if_pos (by omega), if_pos (by omega)]
  · intro i a y ha hi hy
    refine ⟨0, fun k _ => ?_⟩
    simp only [laws_toFrameS.l0, laws_toFrame.f, Option.bind_some]
    rw [if_pos (by omega), if_pos (by omega), if_pos (by omega), rdLFrame_at ha, w64s hi (by omega)]
    rfl
  · intro k y hy
    simp only [laws_toFrameS.l0]
    rw [if_neg (by omega)]
theorem eqFrameS_ev (l : List S119) (h : l.length ≤ 4611686018427387904) : Ev (fun k => laws_eqFrameS.f k l l) true := by
  refine Ev.congr (fun k => ?_) (each_ends (fun k i => laws_eqFrameS.l0 k l l i) l.length true ?_ ?_)
  · simp only [laws_eqFrameS.f]
    rw [if_pos trivial]
  · intro i hi
    refine ⟨0, fun k _ => ?_⟩
    simp only [laws_eqFrameS.l0, laws_eqFrame.f]
    rw [if_pos (by omega), if_pos (by omega), if_pos (by omega), w64s hi (by omega)]
    simp only [if_true, Option.bind_some]
  · intro k
    simp only [laws_eqFrameS.l0]
    rw [if_neg (by omega)]
theorem szFrameS_is (l : List S149) (a : Int) (h0 : 0 ≤ a) (h1 : a ≤ 1048576) (hl : l.length ≤ 9223372036854775807) : ∃ t, laws_szFrameS.f l a = some t ∧ (t < 0 ∨ (t = a - l.length ∧ 0 ≤ t)) := by
  simp only [laws_szFrameS.f]
  rw [w64 (by omega) (by omega)]
  by_cases h : a - (l.length : Int) < 0
  · rw [if_pos h]
    exact ⟨_, rfl, .inl (by omega)⟩
  · rw [if_neg h]
    exact ⟨_, rfl, .inr ⟨rfl, by omega⟩⟩
end Go.Proofs.Ytbdbeccaopphaaa.P
namespace Go.Proofs.Ytbdbeccaopphaaa.P
open Go.RowKit Go.Proofs.YtbdbeccaopphaaaW.PrintWords Go.Proofs.Ytbdbeccaopphaaa.Q
set_option linter.unusedVariables false
set_option linter.unusedSimpArgs false
theorem szSnap_is (g t : Int) (l2 l3 : List Int) (a : Int) (h0 : 0 ≤ a) (h1 : a ≤ 1048576) (hl2 : l2.length ≤ 9223372036854775807) (hl3 : l3.length ≤ 9223372036854775807) :
    ∃ r, laws_szSnap.f g t l2 l3 a = some r ∧ (r < 0 ∨ (0 ≤ r ∧ r ≤ a ∧ (l2.length : Int) ≤ a ∧ (l3.length : Int) ≤ a)) := by
  obtain ⟨t, ht, hc⟩ := szInt64S_is l2 a h0 h1 hl2
  simp only [laws_szSnap.f, ht, Option.bind_some]
  rcases hc with hc | ⟨hc, hc0⟩
  · exact ⟨-1, if_pos hc, .inl (by omega)⟩
  · rw [if_neg (by omega)]
    obtain ⟨t2, h2, hc2⟩ := szInt64S_is l3 t hc0 (by omega) hl3
    simp only [h2, Option.bind_some]
    rcases hc2 with hc2 | ⟨hc2, hc20⟩
    · exact ⟨-1, if_pos hc2, .inl (by omega)⟩
    · exact ⟨t2, if_neg (by omega), .inr ⟨by omega, by omega, by omega, by omega⟩⟩
theorem toSnap_ev (g t : Int) (l2 l3 : List Int) (h2 : l2.length ≤ 1048576) (h3 : l3.length ≤ 1048576) : Ev (fun k => laws_toSnap.f k g t l2 l3) (g, t, l2, l3) := by
  simp only [laws_toSnap.f]
  exact Ev.bind (toInt64S_ev l2 (by omega)) (Ev.bind (toInt64S_ev l3 (by omega)) (Ev.const rfl))
theorem eqSnap_ev (g t : Int) (l2 l3 : List Int) (h2 : l2.length ≤ 4611686018427387904) (h3 : l3.length ≤ 4611686018427387904) : Ev (fun k => laws_eqSnap.f k g t l2 l3 g t l2 l3) true := by
  simp only [laws_eqSnap.f]
  exact Ev.pos trivial (Ev.pos trivial (Ev.bind (eqInt64S_ev l2 h2) (Ev.pos rfl (Ev.bind (eqInt64S_ev l3 h3) (Ev.pos rfl (Ev.const rfl))))))
theorem szImage_is (o : Bool) (g t : Int) (l3 l4 : List Int) (l5 : List S149) (l6 l7 : List Int) (a8 : Int) (l9 : List S152) (nx : Int) (a : Int) (h0 : 0 ≤ a) (h1 : a ≤ 1048576)
    (hl3 : l3.length ≤ 9223372036854775807) (hl4 : l4.length ≤ 9223372036854775807) (hl5 : l5.length ≤ 9223372036854775807) (hl6 : l6.length ≤ 9223372036854775807) (hl7 : l7.length ≤ 9223372036854775807) (hl9 : l9.length ≤ 9223372036854775807) :
    ∃ r, laws_szImage.f o g t l3 l4 l5 l6 l7 a8 l9 nx a = some r ∧ (r < 0 ∨ (0 ≤ r ∧ (l3.length : Int) ≤ a ∧ (l4.length : Int) ≤ a ∧ (l5.length : Int) ≤ a ∧ (l6.length : Int) ≤ a ∧ (l7.length : Int) ≤ a ∧ (l9.length : Int) ≤ a)) := by
  obtain ⟨r, hr, hc⟩ := szSnap_is g t l3 l4 a h0 h1 hl3 hl4
  simp only [laws_szImage.f, hr, Option.bind_some]
  rcases hc with hc | ⟨hc, hc0, hc1, hc2⟩
  · exact ⟨-1, if_pos hc, .inl (by omega)⟩
  · rw [if_neg (by omega)]
    obtain ⟨r2, hr2, hd⟩ := szFrameS_is l5 r hc (by omega) hl5
    simp only [hr2, Option.bind_some]
    rcases hd with hd | ⟨hd, hd0⟩
    · exact ⟨-1, if_pos hd, .inl (by omega)⟩
    · rw [if_neg (by omega)]
      obtain ⟨r3, hr3, he⟩ := szState_is l6 l7 a8 l9 r2 hd0 (by omega) hl6 hl7 hl9
      simp only [hr3, Option.bind_some]
      rcases he with he | ⟨he, he0, he1, he2, he3⟩
      · exact ⟨-1, if_pos he, .inl (by omega)⟩
      · exact ⟨r3, if_neg (by omega), .inr ⟨by omega, by omega, by omega, by omega, by omega, by omega, by omega⟩⟩
theorem toImage_ev (o : Bool) (g t : Int) (l3 l4 : List Int) (l5 : List S149) (l6 l7 : List Int) (a8 : Int) (l9 : List S152) (nx : Int)
    (h3 : l3.length ≤ 1048576) (h4 : l4.length ≤ 1048576) (h5 : l5.length ≤ 1048576) (h6 : l6.length ≤ 1048576) (h7 : l7.length ≤ 1048576) (h9 : l9.length ≤ 1048576) :
    Ev (fun k => laws_toImage.f k o g t l3 l4 l5 l6 l7 a8 l9 nx) (o, g, t, l3, l4, l5.map cvFrame, l6, l7, a8, l9.map cvTapRec, nx) := by
  simp only [laws_toImage.f]
  exact Ev.bind (toSnap_ev g t l3 l4 h3 h4) (Ev.bind (toFrameS_ev l5 h5) (Ev.bind (toState_ev l6 l7 a8 l9 h6 h7 h9) (Ev.const rfl)))
theorem eqImage_ev (o : Bool) (g t : Int) (l3 l4 : List Int) (l5 : List S119) (l6 l7 : List Int) (a8 : Int) (l9 : List S128) (nx : Int)
    (h3 : l3.length ≤ 4611686018427387904) (h4 : l4.length ≤ 4611686018427387904) (h5 : l5.length ≤ 4611686018427387904) (h6 : l6.length ≤ 4611686018427387904) (h7 : l7.length ≤ 4611686018427387904) (h9 : l9.length ≤ 4611686018427387904) :
    Ev (fun k => laws_eqImage.f k o g t l3 l4 l5 l6 l7 a8 l9 nx o g t l3 l4 l5 l6 l7 a8 l9 nx) true := by
  simp only [laws_eqImage.f]
  exact Ev.neg (by simp) (Ev.bind (eqSnap_ev g t l3 l4 h3 h4) (Ev.pos rfl (Ev.bind (eqFrameS_ev l5 h5) (Ev.pos rfl (Ev.bind (eqState_ev l6 l7 a8 l9 h6 h7 h9) (Ev.pos rfl (Ev.pos trivial (Ev.const rfl))))))))
end Go.Proofs.Ytbdbeccaopphaaa.P
namespace Go.Proofs.Ytbdbeccaopphaaa.Pure
open Go.RowKit Go.Proofs.Ytbdbeccaopphaaa.Q Go.Proofs.Ytbdbeccaopphaaa.P
def cut (acked nx : Int) : List S119 → Int → Int
  | [], _ => nx
  | f :: fs, n => if f.f1 = 1 then (if n ≥ acked then f.f0 else cut acked nx fs (wrap64 (n + 1))) else cut acked nx fs n
theorem spec_cut (o : Bool) (g t : Int) (l3 l4 : List Int) (l5 : List S119) (l6 l7 : List Int) (a8 : Int) (l9 : List S128) (nx : Int) (h5 : l5.length ≤ 4611686018427387904) :
    ∀ (rest done : List S119) (n : Int), done ++ rest = l5 → Ev (fun k => spec_CutPoint.l0 k n (done.length : Int) o g t l3 l4 l5 l6 l7 a8 l9 nx) (cut a8 nx rest n) := by
  intro rest
  induction rest with
  | nil =>
    intro done n hd
    have : l5.length = done.length := by rw [← hd, List.append_nil]
    refine Ev.last ⟨0, fun k _ => ?_⟩
    simp only [spec_CutPoint.l0]
    rw [if_neg (by omega)]
    rfl
  | cons f rest ih =>
    intro done n hd
    have hlen : done.length + (rest.length + 1) = l5.length := by rw [← hd, List.length_append, List.length_cons]
    have hat : l5[done.length]? = some f := by rw [← hd]; simp
    have h1 := fun m => ih (done ++ [f]) m (by rw [← hd]; simp)
    rw [List.length_append, List.length_singleton] at h1
    simp only [cut]
    by_cases c1 : f.f1 = 1
    · rw [if_pos c1]
      by_cases c2 : n ≥ a8
      · rw [if_pos c2]
        refine Ev.last ⟨0, fun k _ => ?_⟩
        simp only [spec_CutPoint.l0]
        rw [if_pos (by omega), if_pos (by omega), rdFrame_at hat, if_pos c1, if_pos c2]
      · rw [if_neg c2]
        refine Ev.step ⟨0, fun k _ => ?_⟩ (h1 (wrap64 (n + 1)))
        simp only [spec_CutPoint.l0]
        rw [if_pos (by omega), if_pos (by omega), rdFrame_at hat, if_pos c1, if_neg c2, w64s (i := done.length) (n := l5.length) (by omega) h5]
    · rw [if_neg c1]
      refine Ev.step ⟨0, fun k _ => ?_⟩ (h1 n)
      simp only [spec_CutPoint.l0]
      rw [if_pos (by omega), if_pos (by omega), rdFrame_at hat, if_neg c1, w64s (i := done.length) (n := l5.length) (by omega) h5]
theorem impl_cut (o : Bool) (g t : Int) (l3 l4 : List Int) (l5 : List S119) (l6 l7 : List Int) (a8 : Int) (l9 : List S128) (nx : Int) (h5 : l5.length ≤ 4611686018427387904) :
    ∀ (rest done : List S119) (n : Int), done ++ rest = l5 → Ev (fun k => impl_CutPoint.l0 k n l5 (l5.length : Int) (done.length : Int) o g t l3 l4 l5 l6 l7 a8 l9 nx) (cut a8 nx rest n) := by
  intro rest
  induction rest with
  | nil =>
    intro done n hd
    have : l5.length = done.length := by rw [← hd, List.append_nil]
    refine Ev.last ⟨0, fun k _ => ?_⟩
    simp only [impl_CutPoint.l0]
    rw [if_neg (by omega)]
    rfl
  | cons f rest ih =>
    intro done n hd
    have hlen : done.length + (rest.length + 1) = l5.length := by rw [← hd, List.length_append, List.length_cons]
    have hat : l5[done.length]? = some f := by rw [← hd]; simp
    have h1 := fun m => ih (done ++ [f]) m (by rw [← hd]; simp)
    rw [List.length_append, List.length_singleton] at h1
    simp only [cut]
    by_cases c1 : f.f1 = 1
    · rw [if_pos c1]
      by_cases c2 : n ≥ a8
      · rw [if_pos c2]
        refine Ev.last ⟨0, fun k _ => ?_⟩
        simp only [impl_CutPoint.l0]
        rw [if_pos (by omega), if_pos (by omega), if_pos (by omega), rdFrame_at hat, if_pos c1, if_pos c2]
      · rw [if_neg c2]
        refine Ev.step ⟨0, fun k _ => ?_⟩ (h1 (wrap64 (n + 1)))
        simp only [impl_CutPoint.l0]
        rw [if_pos (by omega), if_pos (by omega), if_pos (by omega), rdFrame_at hat, if_pos c1, if_neg c2, w64s (i := done.length) (n := l5.length) (by omega) h5]
    · rw [if_neg c1]
      refine Ev.step ⟨0, fun k _ => ?_⟩ (h1 n)
      simp only [impl_CutPoint.l0]
      rw [if_pos (by omega), if_pos (by omega), if_pos (by omega), rdFrame_at hat, if_neg c1, w64s (i := done.length) (n := l5.length) (by omega) h5]
theorem FnExactCutPoint : laws_FnExactCutPoint.Pure := by
  intro x hx
  obtain ⟨-, ⟨-, -, ⟨h3, -⟩, ⟨h4, -⟩⟩, ⟨h5, -⟩, ⟨⟨h6, -⟩, ⟨h7, -⟩, -, ⟨h9, -⟩⟩, -⟩ := hx
  refine Ev.ex (f := fun k => laws_FnExactCutPoint.f k x.f0 x.f1.f0 x.f1.f1 x.f1.f2 x.f1.f3 x.f2 x.f3.f0 x.f3.f1 x.f3.f2 x.f3.f3 x.f4) ?_
  obtain ⟨t, ht, hc⟩ := szImage_is x.f0 x.f1.f0 x.f1.f1 x.f1.f2 x.f1.f3 x.f2 x.f3.f0 x.f3.f1 x.f3.f2 x.f3.f3 x.f4 1048576 (by decide) (by decide) h3 h4 h5 h6 h7 h9
  simp only [laws_FnExactCutPoint.f, ht, Option.bind_some]
  rcases hc with hc | ⟨hc, g3, g4, g5, g6, g7, g9⟩
  · exact Ev.pos hc (Ev.const rfl)
  · have ev := toImage_ev x.f0 x.f1.f0 x.f1.f1 x.f1.f2 x.f1.f3 x.f2 x.f3.f0 x.f3.f1 x.f3.f2 x.f3.f3 x.f4 (by omega) (by omega) (by omega) (by omega) (by omega) (by omega)
    have hm5 : (x.f2.map cvFrame).length ≤ 4611686018427387904 := by rw [List.length_map]; omega
    have ee := eqImage_ev x.f0 x.f1.f0 x.f1.f1 x.f1.f2 x.f1.f3 (x.f2.map cvFrame) x.f3.f0 x.f3.f1 x.f3.f2 (x.f3.f3.map cvTapRec) x.f4 (by omega) (by omega) hm5 (by omega) (by omega) (by rw [List.length_map]; omega)
    obtain ⟨v, es, ei⟩ : ∃ v, Ev (fun k => spec_CutPoint.f k x.f0 x.f1.f0 x.f1.f1 x.f1.f2 x.f1.f3 (x.f2.map cvFrame) x.f3.f0 x.f3.f1 x.f3.f2 (x.f3.f3.map cvTapRec) x.f4) v ∧ Ev (fun k => impl_CutPoint.f k x.f0 x.f1.f0 x.f1.f1 x.f1.f2 x.f1.f3 (x.f2.map cvFrame) x.f3.f0 x.f3.f1 x.f3.f2 (x.f3.f3.map cvTapRec) x.f4) v := by
      simp only [spec_CutPoint.f, impl_CutPoint.f]
      by_cases ho : x.f0 = true
      · exact ⟨_, Ev.pos ho (spec_cut x.f0 x.f1.f0 x.f1.f1 x.f1.f2 x.f1.f3 (x.f2.map cvFrame) x.f3.f0 x.f3.f1 x.f3.f2 (x.f3.f3.map cvTapRec) x.f4 hm5 (x.f2.map cvFrame) [] (x.f1.f3.length : Int) rfl), Ev.pos ho (impl_cut x.f0 x.f1.f0 x.f1.f1 x.f1.f2 x.f1.f3 (x.f2.map cvFrame) x.f3.f0 x.f3.f1 x.f3.f2 (x.f3.f3.map cvTapRec) x.f4 hm5 (x.f2.map cvFrame) [] (x.f1.f3.length : Int) rfl)⟩
      · exact ⟨_, Ev.neg ho (Ev.const rfl), Ev.neg ho (Ev.const rfl)⟩
    exact Ev.neg (by omega) (Ev.bind ev (Ev.bind es (Ev.bind ev (Ev.bind ei (Ev.pos rfl (Ev.bind ev (Ev.bind ee (Ev.pos rfl (Ev.const rfl)))))))))
end Go.Proofs.Ytbdbeccaopphaaa.Pure
namespace Go.Proofs.Ytbdbeccaopphaaa.fnExactCutPoint
open Go.ChangeShapes Go.WideShapes Go.ChangeAt Go.RowKit Go.Proofs.Ytbdbeccaopphaaa.Q Go.Proofs.YtbdbeccaopphaaaW.PrintWords Go.Proofs.Ytbdbeccaopphaaa.O
open Go.ChangeMaps (open_string shut_string)
set_option linter.unusedVariables false
theorem own : ownKnob Try.prog.godebug = none := by kernel_rfl
theorem laidOut : laidOutB Try.prog = true := by kernel_rfl
set_option maxRecDepth 100000 in
theorem lifted (os : Os) (started : os.Started) (H : Type) (enc : TypeId × Value → H) :
    ReturnsInHanded {} Try.checked os 13 .any (Rows.fnExactCutPointSpec.pre6 enc Try.prog Try.f13 Rows.fnExactCutPointRow.domain false) (Rows.fnExactCutPointSpec.post enc Try.prog Try.f13 false true false false) := by
  refine returnsInHanded_of_change_sized (C := Try.checked) own started (by kernel_rfl) Try.func13
    (ChangeSpec.witness6 (enc := enc) (C := Try.checked) false ⟨#[], #[.agg #[.bool false, .int .u32 0, .int .u32 0, .slice none 0 0, .slice none 0 0, .slice none 0 0, .slice none 0 0, .slice none 0 0, .int .i64 0, .slice none 0 0, .int .u32 0]], []⟩ 8 (by kernel_rfl) (by kernel_rfl) (by kernel_rfl) (by kernel_rfl)) ?_
  intro W base args ds gs before hval0 hW hcnd hsz0 _
  have hval : ∀ (j : Nat) t v, Try.f13.params[j]? = some t → args[j]? = some v → Value.okWide Try.prog W .any base t v := hval0
  have hW' := hW
  obtain ⟨p, q, hA0, hV, rfl, hfz, hnd⟩ := hW
  have hA : DataW.TrodAll enc Try.prog W 0 (fun _ => true) true Try.f13.params.toList args.toList ds p := hA0
  rw [Try.params13] at hA hval
  obtain ⟨v0, vs0, d0, ds0, p0, q0, hargs, rfl, rfl, h0, r0⟩ := trodAll_cons hA
  obtain ⟨rfl, rfl, rfl⟩ := trodAll_nil r0
  obtain rfl : args = #[v0] := by cases args; simp_all
  obtain ⟨rfl, rfl⟩ := trodVars_none hV
  have k0 := h0
  have lt0 : ∀ x ∈ p0, x.block < W.heap.size := by obtain ⟨m, hm⟩ := k0; exact DataW.trod_lt m _ _ _ hm
  obtain ⟨cs0, rfl, _⟩ := okWide_struct Try.underlying73 (hval 0 73 v0 rfl rfl)
  obtain ⟨x0, hk0, w0⟩ : ∃ x, (k73).K W x cs0.toList ∧ W73 x := by
    obtain ⟨fuel, hf⟩ := h0
    exact opens_T73 H enc W fuel _ _ hf
  obtain ⟨cs0⟩ := cs0
  obtain ⟨A0_3, c0_3, A0_4, c0_4, A0_5, c0_5, A0_6, c0_6, A0_7, c0_7, A0_9, c0_9, h_0, m0_3, g0_3, m0_4, g0_4, m0_5, g0_5, m0_6, g0_6, m0_7, g0_7, m0_9, g0_9⟩ := k73_open hk0
  obtain rfl := (show cs0 = _ from h_0)
  clear hA0 hval0 hsz0
  obtain ⟨k, hp⟩ := Pure.FnExactCutPoint x0 w0
  refine (laws_FnExactCutPoint.calls k x0.f0 x0.f1.f0 x0.f1.f1 _ _ x0.f1.f2 _ _ x0.f1.f3 _ _ x0.f2 _ _ x0.f3.f0 _ _ x0.f3.f1 x0.f3.f2 _ _ x0.f3.f3 x0.f4 W g0_3 m0_3 g0_4 m0_4 g0_5 m0_5 g0_6 m0_6 g0_7 m0_7 g0_9 m0_9 hp).mono fun e W' ⟨he, bel⟩ => ?_
  subst he
  exact ⟨_, rfl, _, _, _, [], _, [], hW', trodAll_mk1 (shut_bool Try.underlying4 _), (trodAll_cons_mk (Below.trod laidOut (by kernel_rfl) (of_decide_eq_true (by kernel_rfl)) k0 bel lt0) trodAll_mk0), rfl, bel.frame _, fun h => by cases h⟩
theorem over : Rows.fnExactCutPointRow.holds Try.pinned (OpenSpec.ofChange Rows.fnExactCutPointSpec) :=
  OpenClaim.holds_of_wide 13 Try.f13 rfl rfl rfl rfl rfl rfl rfl ⟨rfl, rfl, rfl, rfl, rfl⟩ rfl rfl rfl rfl rfl (by kernel_rfl) Try.func13 (by kernel_rfl)
    (of_decide_eq_true (by kernel_rfl)) (by unfold Func.isWrapper; first | (rw [if_pos (by decide +kernel)]; kernel_rfl) | (rw [if_neg (by decide +kernel)]; exact ⟨rfl, rfl⟩))
    (fun os started H enc _ => lifted os started H enc)
theorem proved : Rows.FnExactCutPointSaid := over
#print axioms proved
end Go.Proofs.Ytbdbeccaopphaaa.fnExactCutPoint
namespace Go.Proofs.Ytbdbeccaopphaaa
/-- The row, under a short name, for the claim. -/
theorem fnExactCutPoint_holds : Rows.FnExactCutPointSaid := fnExactCutPoint.proved
end Go.Proofs.Ytbdbeccaopphaaa
