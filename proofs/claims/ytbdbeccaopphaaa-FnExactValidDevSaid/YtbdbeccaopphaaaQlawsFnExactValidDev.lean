-- By a program of this session's own out of the translation.
import Derived.Test.YtbdbeccaopphaaaQT
import Derived.Test.YtbdbeccaopphaaaQlawseqDev
import Derived.Test.YtbdbeccaopphaaaQlawsszDev
import Derived.Test.YtbdbeccaopphaaaQspecValidDev
import Derived.Test.YtbdbeccaopphaaaQlawstoDev
import Derived.Test.YtbdbeccaopphaaaQimplValidDev
namespace Go.Proofs.Ytbdbeccaopphaaa.Q
open Go.RowKit Go.Proofs.YtbdbeccaopphaaaW.PrintWords Go.Proofs.YtbdbeccaopphaaaW.PrintLast Go.Proofs.Ytbdbeccaopphaaa.LK Go.Proofs.YtbdbeccaopphaaaW.PrintMore
attribute [local go_sem] max2_int min2_int max_two min_two max_three min_three max_four min_four   -- for this text's walks alone
set_option linter.unusedVariables false
set_option linter.unusedSimpArgs false

/-! ### laws_FnExactValidDev: function 7 -/
def laws_FnExactValidDev.f (k : Nat) (l0_0 : List Int) (l0_1 : List (S139)) (a0_2 : Int) (a0_3 : Bool) : Option (Bool) := (laws_szDev.f k l0_0 l0_1 a0_2 a0_3 1048576).bind fun t102 => (if t102 < 0 then (some true) else ((laws_toDev.f k l0_0 l0_1 a0_2 a0_3).bind fun bt103 => ((spec_ValidDev.f k bt103.1 bt103.2.1 bt103.2.2.1 bt103.2.2.2).bind fun t111 => ((laws_toDev.f k l0_0 l0_1 a0_2 a0_3).bind fun bt112 => ((impl_ValidDev.f k bt112.1 bt112.2.1 bt112.2.2.1 bt112.2.2.2).bind fun t121 => (if (t121 != t111) = true then (some false) else ((laws_toDev.f k l0_0 l0_1 a0_2 a0_3).bind fun bt122 => ((laws_eqDev.f k bt112.1 bt112.2.1 bt112.2.2.1 bt112.2.2.2 bt122.1 bt122.2.1 bt122.2.2.1 bt122.2.2.2).bind fun t130 => (if t130 = true then (some true) else (some false))))))))))
theorem laws_FnExactValidDev.mono : ∀ a0 a1 a2 a3 k, LeO (laws_FnExactValidDev.f k a0 a1 a2 a3) (laws_FnExactValidDev.f (k + 1) a0 a1 a2 a3) := by
  intro a0 a1 a2 a3 k
  unfold laws_FnExactValidDev.f
  repeat' first
      | (with_reducible exact impl_ValidDev.mono _ _ _ _ _)
      | (with_reducible exact laws_eqDev.mono _ _ _ _ _ _ _ _ _)
      | (with_reducible exact laws_szDev.mono _ _ _ _ _ _)
      | (with_reducible exact laws_toDev.mono _ _ _ _ _)
      | (with_reducible exact spec_ValidDev.mono _ _ _ _ _)
      | (with_reducible exact LeO.refl _)
      | (with_reducible exact LeO.none _)
      | (with_reducible refine LeO.ite ?_ ?_)
      | (with_reducible refine LeO.bind ?_ (fun _ => ?_))
      | exact impl_ValidDev.mono _ _ _ _ _
      | exact laws_eqDev.mono _ _ _ _ _ _ _ _ _
      | exact laws_szDev.mono _ _ _ _ _ _
      | exact laws_toDev.mono _ _ _ _ _
      | exact spec_ValidDev.mono _ _ _ _ _
      | exact LeO.none _
      | refine LeO.ite ?_ ?_
      | refine LeO.bind ?_ (fun _ => ?_)
set_option maxHeartbeats 8000000 in
set_option maxRecDepth 100000 in
theorem laws_FnExactValidDev.calls (k : Nat) (A0_0 : Option Addr) (c0_0 : Nat) (l0_0 : List Int) (A0_1 : Option Addr) (c0_1 : Nat) (l0_1 : List (S139)) (a0_2 : Int) (a0_3 : Bool) (w : World) (hr0_0 : Kd.C (Kd.int .u8) w A0_0 l0_0.length l0_0) (hc0_0 : l0_0.length ≤ c0_0) (hr0_1 : Kd.C k139 w A0_1 l0_1.length l0_1) (hc0_1 : l0_1.length ≤ c0_1) (h : laws_FnExactValidDev.f k l0_0 l0_1 a0_2 a0_3 = some true) :
    Calls Try.prog 7 #[.agg #[.slice A0_0 l0_0.length c0_0, .slice A0_1 l0_1.length c0_1, .int .i64 a0_2, .bool a0_3]] w fun e w' => e = .returned (.bool true) ∧ Below w.heap.size w w' := by
  have hu42 := Try.underlying42
  have hu35 := Try.underlying35
  have HR0_0 := Aside0.mk hr0_0
  have HC0_0 := Aside0.mk hc0_0
  clear hr0_0 hc0_0
  have HR0_1 := Aside0.mk hr0_1
  have HC0_1 := Aside0.mk hc0_1
  clear hr0_1 hc0_1
  have HB := Aside0.mk (Below.refl w.heap.size w)
  have H : ((laws_szDev.f k l0_0 l0_1 a0_2 a0_3 1048576).bind fun t102 => (if t102 < 0 then (some true) else ((laws_toDev.f k l0_0 l0_1 a0_2 a0_3).bind fun bt103 => ((spec_ValidDev.f k bt103.1 bt103.2.1 bt103.2.2.1 bt103.2.2.2).bind fun t111 => ((laws_toDev.f k l0_0 l0_1 a0_2 a0_3).bind fun bt112 => ((impl_ValidDev.f k bt112.1 bt112.2.1 bt112.2.2.1 bt112.2.2.2).bind fun t121 => (if (t121 != t111) = true then (some false) else ((laws_toDev.f k l0_0 l0_1 a0_2 a0_3).bind fun bt122 => ((laws_eqDev.f k bt112.1 bt112.2.1 bt112.2.2.1 bt112.2.2.2 bt122.1 bt122.2.1 bt122.2.2.1 bt122.2.2.2).bind fun t130 => (if t130 = true then (some true) else (some false))))))))))) = some true := h
  clear h
  replace H := Option.bind_eq_some_iff.mp H
  obtain ⟨t102, A1_, H⟩ := H
  have A1 := Aside0.mk A1_
  clear A1_
  (try dsimp only at H)
  by_cases c2 : t102 < 0
  · rw [if_pos c2] at H
    have c2b0 : decide (t102 < 0) = true := decide_eq_true c2
    clear c2
    clear H
    (try clear HB)
    have H0 := Aside0.mk (Hist.refl w)
    go_enter Try.func7, Try.ntmps7
    go_wp2_with (first | ((with_reducible refine gate_dst (N := 1) rfl ?_); refine mk ?hw (N := 1) ?hd (cs := #[.slice A0_0 l0_0.length c0_0, .slice A0_1 l0_1.length c0_1, .int .i64 a0_2, .bool a0_3]) (t := 42) ?hr ?_; (case hd => rfl); (case hw => rfl); (case hr => first | (go_simp; done) | (go_simp; rfl)); intro g3 hg7 w4 hbox6 hb5; have H8 := Aside0.mk (Hist.step H0.out hb5); clear H0; have B9 := Aside0.mk hbox6; have G10 := Aside0.mk (Nat.le_of_eq hg7.symm); have L11 := Aside0.mk (blk_lt hbox6); clear hb5 hbox6 hg7) | ((with_reducible refine gate_dst (N := 7) rfl ?_); refine ld ?hw rfl ?hx (blk_fix2 B9.out ⟨G10.out, L11.out⟩ H8.out.fixes.hd) Try.underlying42 rfl (by kernel_rfl) ?_; (case hw => rfl); (case hx => rfl)) | (((with_reducible refine gate_callee (f := 27) rfl ?_)); refine goesW (some 9) rfl ?hw Try.func27 (by kernel_rfl) rfl #[.agg #[.slice A0_0 l0_0.length c0_0, .slice A0_1 l0_1.length c0_1, .int .i64 a0_2, .bool a0_3], .int .i64 1048576] rfl (by (try simp only [List.map_toArray, List.map_cons, List.map_nil]); first | done | rfl | (simp only [List.length_drop, List.length_take]; rfl)) ?_; (case hw => rfl); with_reducible refine (laws_szDev.calls k _ _ l0_0 _ _ l0_1 a0_2 a0_3 1048576 t102 _ ?side1 ?side2 ?side3 ?side4 A1.out).mono ?_; (case side1 => exact Kd.C_below HR0_0.out H8.out.below); (case side2 => exact HC0_0.out); (case side3 => exact Kd.C_below HR0_1.out H8.out.below); (case side4 => exact HC0_1.out); rintro e w12 ⟨rfl, hb13⟩; refine ⟨_, rfl, ?_⟩; have H14 := Aside0.mk (Hist.pass H8.out hb13); clear H8; clear hb13))
    go_ret
    exact ⟨rfl, by first | exact H14.out.below | exact Drawn0.refl _⟩
  · rw [if_neg c2] at H
    have c2b0 : decide (t102 < 0) = false := decide_eq_false c2
    clear c2
    replace H := Option.bind_eq_some_iff.mp H
    obtain ⟨⟨t103, t106, t109, t110⟩, A15_, H⟩ := H
    have A15 := Aside0.mk A15_
    clear A15_
    (try dsimp only at H)
    replace H := Option.bind_eq_some_iff.mp H
    obtain ⟨t111, A16_, H⟩ := H
    have A16 := Aside0.mk A16_
    clear A16_
    (try dsimp only at H)
    replace H := Option.bind_eq_some_iff.mp H
    obtain ⟨⟨t112, t115, t118, t119⟩, A17_, H⟩ := H
    have A17 := Aside0.mk A17_
    clear A17_
    (try dsimp only at H)
    replace H := Option.bind_eq_some_iff.mp H
    obtain ⟨t121, A18_, H⟩ := H
    have A18 := Aside0.mk A18_
    clear A18_
    (try dsimp only at H)
    by_cases c19 : (t121 != t111) = true
    · rw [if_pos c19] at H
      exact absurd H (by simp)
    · rw [if_neg c19] at H
      have c19b0 : (t121 != t111) = false := by simpa using c19
      (try (have c19b1 : decide (t121 = t111) = true := by simpa using c19))
      (try (have c19b2 : (t121 == t111) = true := by simpa using c19))
      replace H := Option.bind_eq_some_iff.mp H
      obtain ⟨⟨t122, t125, t128, t129⟩, A20_, H⟩ := H
      have A20 := Aside0.mk A20_
      clear A20_
      (try dsimp only at H)
      replace H := Option.bind_eq_some_iff.mp H
      obtain ⟨t130, A21_, H⟩ := H
      have A21 := Aside0.mk A21_
      clear A21_
      (try dsimp only at H)
      by_cases c22 : t130 = true
      · rw [if_pos c22] at H
        subst c22
        clear H
        (try clear HB)
        have H0 := Aside0.mk (Hist.refl w)
        go_enter Try.func7, Try.ntmps7
        go_wp2_with (first | ((with_reducible refine gate_dst (N := 1) rfl ?_); refine mk ?hw (N := 1) ?hd (cs := #[.slice A0_0 l0_0.length c0_0, .slice A0_1 l0_1.length c0_1, .int .i64 a0_2, .bool a0_3]) (t := 42) ?hr ?_; (case hd => rfl); (case hw => rfl); (case hr => first | (go_simp; done) | (go_simp; rfl)); intro g23 hg27 w24 hbox26 hb25; have H28 := Aside0.mk (Hist.step H0.out hb25); clear H0; have B29 := Aside0.mk hbox26; have G30 := Aside0.mk (Nat.le_of_eq hg27.symm); have L31 := Aside0.mk (blk_lt hbox26); clear hb25 hbox26 hg27) | ((with_reducible refine gate_dst (N := 7) rfl ?_); refine ld ?hw rfl ?hx (blk_fix2 B29.out ⟨G30.out, L31.out⟩ H28.out.fixes.hd) Try.underlying42 rfl (by kernel_rfl) ?_; (case hw => rfl); (case hx => rfl)) | (((with_reducible refine gate_callee (f := 27) rfl ?_)); refine goesW (some 9) rfl ?hw Try.func27 (by kernel_rfl) rfl #[.agg #[.slice A0_0 l0_0.length c0_0, .slice A0_1 l0_1.length c0_1, .int .i64 a0_2, .bool a0_3], .int .i64 1048576] rfl (by (try simp only [List.map_toArray, List.map_cons, List.map_nil]); first | done | rfl | (simp only [List.length_drop, List.length_take]; rfl)) ?_; (case hw => rfl); with_reducible refine (laws_szDev.calls k _ _ l0_0 _ _ l0_1 a0_2 a0_3 1048576 t102 _ ?side1 ?side2 ?side3 ?side4 A1.out).mono ?_; (case side1 => exact Kd.C_below HR0_0.out H28.out.below); (case side2 => exact HC0_0.out); (case side3 => exact Kd.C_below HR0_1.out H28.out.below); (case side4 => exact HC0_1.out); rintro e w32 ⟨rfl, hb33⟩; refine ⟨_, rfl, ?_⟩; have H34 := Aside0.mk (Hist.pass H28.out hb33); clear H28; clear hb33) | ((with_reducible refine gate_dst (N := 12) rfl ?_); refine ld ?hw rfl ?hx (blk_fix2 B29.out ⟨G30.out, L31.out⟩ H34.out.fixes.hd) Try.underlying42 rfl (by kernel_rfl) ?_; (case hw => rfl); (case hx => rfl)) | (((with_reducible refine gate_callee (f := 29) rfl ?_)); refine goesW (some 13) rfl ?hw Try.func29 (by kernel_rfl) rfl #[.agg #[.slice A0_0 l0_0.length c0_0, .slice A0_1 l0_1.length c0_1, .int .i64 a0_2, .bool a0_3]] rfl (by (try simp only [List.map_toArray, List.map_cons, List.map_nil]); first | done | rfl | (simp only [List.length_drop, List.length_take]; rfl)) ?_; (case hw => rfl); with_reducible refine (laws_toDev.calls k _ _ l0_0 _ _ l0_1 a0_2 a0_3 t103 t106 t109 t110 _ ?side1 ?side2 ?side3 ?side4 A15.out).mono ?_; (case side1 => exact Kd.C_below HR0_0.out H34.out.below); (case side2 => exact HC0_0.out); (case side3 => exact Kd.C_below HR0_1.out H34.out.below); (case side4 => exact HC0_1.out); rintro e w35 ⟨v36, v37, rfl, ho38, ho39, hb40⟩; refine ⟨_, rfl, ?_⟩; have H41 := Aside0.mk (Hist.step H34.out hb40); clear H34; clear hb40; have F44 := Aside0.mk ho38; clear ho38; have F48 := Aside0.mk ho39; clear ho39; obtain ⟨Ao42, co43, eo50⟩ := Kd.R_slice F44.out; (first | subst eo50 | (injection eo50 with f1_ f2_ f3_; have f4_ := f1_.symm; have f5_ := f3_.symm; clear f1_ f2_ f3_; subst f4_; subst f5_)); obtain ⟨Ao46, co47, eo51⟩ := Kd.S_slice F48.out; (first | subst eo51 | (injection eo51 with f1_ f2_ f3_; have f4_ := f1_.symm; have f5_ := f3_.symm; clear f1_ f2_ f3_; subst f4_; subst f5_))) | (((with_reducible refine gate_callee (f := 28) rfl ?_)); refine goesW (some 14) rfl ?hw Try.func28 (by kernel_rfl) rfl #[.agg #[.slice Ao42 t103.length co43, .slice Ao46 t106.length co47, .int .i64 t109, .bool t110]] rfl (by (try simp only [List.map_toArray, List.map_cons, List.map_nil]); first | done | rfl | (simp only [List.length_drop, List.length_take]; rfl)) ?_; (case hw => rfl); with_reducible refine (spec_ValidDev.calls k _ _ t103 _ _ t106 t109 t110 t111 _ ?side1 ?side2 ?side3 ?side4 A16.out).mono ?_; (case side1 => exact (Kd.R_reads' (R_fix F44.out H41.out.fixes.hd)).2.2); (case side2 => exact R_capn (R_fix F44.out H41.out.fixes.hd)); (case side3 => exact (Kd.S_reads' (S_fix F48.out H41.out.fixes.hd)).2.2); (case side4 => exact S_capn (S_fix F48.out H41.out.fixes.hd)); rintro e w52 ⟨rfl, hb53⟩; refine ⟨_, rfl, ?_⟩; have H54 := Aside0.mk (Hist.pass H41.out hb53); clear H41; clear hb53) | ((with_reducible refine gate_dst (N := 15) rfl ?_); refine ld ?hw rfl ?hx (blk_fix2 B29.out ⟨G30.out, L31.out⟩ H54.out.fixes.tl.hd) Try.underlying42 rfl (by kernel_rfl) ?_; (case hw => rfl); (case hx => rfl)) | (((with_reducible refine gate_callee (f := 29) rfl ?_)); refine goesW (some 16) rfl ?hw Try.func29 (by kernel_rfl) rfl #[.agg #[.slice A0_0 l0_0.length c0_0, .slice A0_1 l0_1.length c0_1, .int .i64 a0_2, .bool a0_3]] rfl (by (try simp only [List.map_toArray, List.map_cons, List.map_nil]); first | done | rfl | (simp only [List.length_drop, List.length_take]; rfl)) ?_; (case hw => rfl); with_reducible refine (laws_toDev.calls k _ _ l0_0 _ _ l0_1 a0_2 a0_3 t112 t115 t118 t119 _ ?side1 ?side2 ?side3 ?side4 A17.out).mono ?_; (case side1 => exact Kd.C_below HR0_0.out H54.out.below); (case side2 => exact HC0_0.out); (case side3 => exact Kd.C_below HR0_1.out H54.out.below); (case side4 => exact HC0_1.out); rintro e w55 ⟨v56, v57, rfl, ho58, ho59, hb60⟩; refine ⟨_, rfl, ?_⟩; have H61 := Aside0.mk (Hist.step H54.out hb60); clear H54; clear hb60; have F64 := Aside0.mk ho58; clear ho58; have F68 := Aside0.mk ho59; clear ho59; obtain ⟨Ao62, co63, eo70⟩ := Kd.R_slice F64.out; (first | subst eo70 | (injection eo70 with f1_ f2_ f3_; have f4_ := f1_.symm; have f5_ := f3_.symm; clear f1_ f2_ f3_; subst f4_; subst f5_)); obtain ⟨Ao66, co67, eo71⟩ := Kd.S_slice F68.out; (first | subst eo71 | (injection eo71 with f1_ f2_ f3_; have f4_ := f1_.symm; have f5_ := f3_.symm; clear f1_ f2_ f3_; subst f4_; subst f5_))) | ((with_reducible refine gate_dst (N := 5) rfl ?_); refine mk ?hw (N := 5) ?hd (cs := #[.slice none 0 0, .slice none 0 0, .int .i64 0, .bool false]) (t := 35) ?hr ?_; (case hd => rfl); (case hw => rfl); (case hr => first | (go_simp; done) | (go_simp; rfl)); intro g72 hg76 w73 hbox75 hb74; have H77 := Aside0.mk (Hist.step H61.out hb74); clear H61; have B78 := Aside0.mk hbox75; have G79 := Aside0.mk (Nat.le_of_eq hg76.symm); have L80 := Aside0.mk (blk_lt hbox75); clear hb74 hbox75 hg76) | ((with_reducible refine gate_store (t := 35) (p := 5) rfl ?_); refine st_all ?hw ?hN rfl ?hp (cs := #[.slice Ao62 t112.length co63, .slice Ao66 t115.length co67, .int .i64 t118, .bool t119]) ?hx (blk_fix2 B78.out ⟨G79.out, L80.out⟩ H77.out.fixes.hd) (by kernel_rfl) rfl (by simp [Value.oneCell']) ?_; (case hw => rfl); (case hN => rfl); (case hp => rfl); (case hx => rfl); intro w81 hbox82 hs83; have H84 : Aside0 (Hist w [(w81, w55.heap.size, w73.heap.size), (w55, w52.heap.size, w55.heap.size), (w35, w32.heap.size, w35.heap.size), (w24, w.heap.size, w24.heap.size)] w81) := ⟨Hist.mark' (w := w73) (b := w55.heap.size) (t := w73.heap.size) (l1 := []) (l2 := [(w55, w52.heap.size, w55.heap.size), (w35, w32.heap.size, w35.heap.size), (w24, w.heap.size, w24.heap.size)]) (by simp only [List.cons_append, List.nil_append]) (by simp only [List.cons_append, List.nil_append]) H77.out hs83 (fun k_ hk_ => by rw [hk_]; exact ⟨G79.out, L80.out⟩)⟩; have B78n := Aside0.mk hbox82; clear hs83 hbox82 H77 B78; have B78 := B78n; clear B78n) | ((with_reducible refine gate_dst (N := 17) rfl ?_); refine ld ?hw rfl ?hx (blk_fix2 B78.out ⟨G79.out, L80.out⟩ H84.out.fixes.hd) Try.underlying35 rfl (by kernel_rfl) ?_; (case hw => rfl); (case hx => rfl)) | (((with_reducible refine gate_callee (f := 30) rfl ?_)); refine goesW (some 18) rfl ?hw Try.func30 (by kernel_rfl) rfl #[.agg #[.slice Ao62 t112.length co63, .slice Ao66 t115.length co67, .int .i64 t118, .bool t119]] rfl (by (try simp only [List.map_toArray, List.map_cons, List.map_nil]); first | done | rfl | (simp only [List.length_drop, List.length_take]; rfl)) ?_; (case hw => rfl); with_reducible refine (impl_ValidDev.calls k _ _ t112 _ _ t115 t118 t119 t121 _ ?side1 ?side2 ?side3 ?side4 A18.out).mono ?_; (case side1 => exact (Kd.R_reads' (R_fix F64.out H84.out.fixes.tl.hd)).2.2); (case side2 => exact R_capn (R_fix F64.out H84.out.fixes.tl.hd)); (case side3 => exact (Kd.S_reads' (S_fix F68.out H84.out.fixes.tl.hd)).2.2); (case side4 => exact S_capn (S_fix F68.out H84.out.fixes.tl.hd)); rintro e w85 ⟨rfl, hb86⟩; refine ⟨_, rfl, ?_⟩; have H87 := Aside0.mk (Hist.pass H84.out hb86); clear H84; clear hb86))
        have H88 := Aside0.mk (Hist.drew H87.out)
        clear H87
        refine start_ (n := 5) (S := fun w' => w'.heap[g72]? = some (.cells #[.slice Ao62 t112.length co63, .slice Ao66 t115.length co67, .int .i64 t118, .bool t119] 35 (0, 0)) ∧ w'.heap[g23]? = some (.cells #[.slice A0_0 l0_0.length c0_0, .slice A0_1 l0_1.length c0_1, .int .i64 a0_2, .bool a0_3] 42 (0, 0))) (ds := []) #[false, false, false, false, false] (by kernel_rfl) rfl rfl ⟨(blk_fix2 B78.out ⟨G79.out, L80.out⟩ H88.out.fixes.hd), (blk_fix2 B29.out ⟨G30.out, L31.out⟩ H88.out.fixes.tl.tl.tl.hd)⟩ (fun hHeld => ?_)
        generalize w85.drew = w89 at H88 hHeld ⊢
        refine take_ (i := 0) (N := some 22) (v := .agg #[.slice Ao62 t112.length co63, .slice Ao66 t115.length co67, .int .i64 t118, .bool t119]) (a' := ?aaq90) #[true, false, false, false, false] rfl rfl (by kernel_rfl) (fun _ _ _ h => h) (Or.inl ⟨by rfl, ?ylq90⟩) hHeld ?haq90 ?hhq90
        case ylq90 =>
          rintro w' ⟨s0, s1⟩
          exact ld_run (x := .tmp 5) (by rfl) (by rfl) s0 Try.underlying35 rfl (by kernel_rfl)
        case haq90 =>
          simp only [Act.put, List.setIfInBounds_toArray, List.set_cons_zero, List.set_cons_succ, i64_w, i32_w]
          rfl
        refine take_ (i := 1) (N := some 23) (v := .agg #[.slice A0_0 l0_0.length c0_0, .slice A0_1 l0_1.length c0_1, .int .i64 a0_2, .bool a0_3]) (a' := ?aaq91) #[true, true, false, false, false] rfl rfl (by kernel_rfl) (fun _ _ _ h => h) (Or.inl ⟨by rfl, ?ylq91⟩) hHeld ?haq91 ?hhq91
        case ylq91 =>
          rintro w' ⟨s0, s1⟩
          exact ld_run (x := .tmp 1) (by rfl) (by rfl) s1 Try.underlying42 rfl (by kernel_rfl)
        case haq91 =>
          simp only [Act.put, List.setIfInBounds_toArray, List.set_cons_zero, List.set_cons_succ, i64_w, i32_w]
          rfl
        refine one_ (i := 2) (N := some 24) #[true, true, true, false, false] rfl rfl (by kernel_rfl) (by decide) (fun K hK => ?_)
        refine goes_ Try.func29 (by kernel_rfl) rfl #[.agg #[.slice A0_0 l0_0.length c0_0, .slice A0_1 l0_1.length c0_1, .int .i64 a0_2, .bool a0_3]] (by rfl) rfl rfl (by (try simp only [List.map_toArray, List.map_cons, List.map_nil]); first | done | rfl | (simp only [List.length_drop, List.length_take]; rfl)) ?_
        with_reducible refine (laws_toDev.calls k _ _ l0_0 _ _ l0_1 a0_2 a0_3 t122 t125 t128 t129 _ ?side1 ?side2 ?side3 ?side4 A20.out).mono ?_
        (case side1 => exact Kd.C_below HR0_0.out H88.out.below)
        (case side2 => exact HC0_0.out)
        (case side3 => exact Kd.C_below HR0_1.out H88.out.below)
        (case side4 => exact HC0_1.out)
        rintro e w92 ⟨v93, v94, rfl, ho95, ho96, hb97⟩
        refine ⟨_, rfl, ?_⟩
        have H98 := Aside0.mk (Hist.step H88.out hb97)
        clear H88
        clear hb97
        have F101 := Aside0.mk ho95
        clear ho95
        have F105 := Aside0.mk ho96
        clear ho96
        obtain ⟨Ao99, co100, eo107⟩ := Kd.R_slice F101.out
        (first | subst eo107 | (injection eo107 with f1_ f2_ f3_; have f4_ := f1_.symm; have f5_ := f3_.symm; clear f1_ f2_ f3_; subst f4_; subst f5_))
        obtain ⟨Ao103, co104, eo108⟩ := Kd.S_slice F105.out
        (first | subst eo108 | (injection eo108 with f1_ f2_ f3_; have f4_ := f1_.symm; have f5_ := f3_.symm; clear f1_ f2_ f3_; subst f4_; subst f5_))
        refine hK.out _ _ ⟨(blk_fix2 B78.out ⟨G79.out, L80.out⟩ H98.out.fixes.tl.hd), (blk_fix2 B29.out ⟨G30.out, L31.out⟩ H98.out.fixes.tl.tl.tl.tl.hd)⟩ (fun hHeld => ?_)
        clear hK K
        refine norm_ (a' := ?_) ?_ ?_
        rotate_left
        · show Act.put _ (some 24) _ = _
          simp only [Act.put, List.setIfInBounds_toArray, List.set_cons_zero, List.set_cons_succ, i64_w, i32_w]
          rfl
        refine one_ (i := 3) (N := some 25) #[true, true, true, true, false] rfl rfl (by kernel_rfl) (by decide) (fun K hK => ?_)
        refine goes_ Try.func24 (by kernel_rfl) rfl #[.agg #[.slice Ao62 t112.length co63, .slice Ao66 t115.length co67, .int .i64 t118, .bool t119], .agg #[.slice Ao99 t122.length co100, .slice Ao103 t125.length co104, .int .i64 t128, .bool t129]] (by rfl) rfl rfl (by (try simp only [List.map_toArray, List.map_cons, List.map_nil]); first | done | rfl | (simp only [List.length_drop, List.length_take]; rfl)) ?_
        with_reducible refine (laws_eqDev.calls k _ _ t112 _ _ t115 t118 t119 _ _ t122 _ _ t125 t128 t129 true _ ?side1 ?side2 ?side3 ?side4 ?side5 ?side6 ?side7 ?side8 A21.out).mono ?_
        (case side1 => exact (Kd.R_reads' (R_fix F64.out H98.out.fixes.tl.tl.hd)).2.2)
        (case side2 => exact R_capn (R_fix F64.out H98.out.fixes.tl.tl.hd))
        (case side3 => exact (Kd.S_reads' (S_fix F68.out H98.out.fixes.tl.tl.hd)).2.2)
        (case side4 => exact S_capn (S_fix F68.out H98.out.fixes.tl.tl.hd))
        (case side5 => exact (Kd.R_reads' (R_fix F101.out H98.out.fixes.hd)).2.2)
        (case side6 => exact R_capn (R_fix F101.out H98.out.fixes.hd))
        (case side7 => exact (Kd.S_reads' (S_fix F105.out H98.out.fixes.hd)).2.2)
        (case side8 => exact S_capn (S_fix F105.out H98.out.fixes.hd))
        rintro e w109 ⟨rfl, hb110⟩
        refine ⟨_, rfl, ?_⟩
        have H111 := Aside0.mk (Hist.pass H98.out hb110)
        clear H98
        clear hb110
        refine hK.out _ _ ⟨(blk_fix2 B78.out ⟨G79.out, L80.out⟩ H111.out.fixes.tl.hd), (blk_fix2 B29.out ⟨G30.out, L31.out⟩ H111.out.fixes.tl.tl.tl.tl.hd)⟩ (fun hHeld => ?_)
        clear hK K
        refine norm_ (a' := ?_) ?_ ?_
        rotate_left
        · show Act.put _ (some 25) _ = _
          simp only [Act.put, List.setIfInBounds_toArray, List.set_cons_zero, List.set_cons_succ, i64_w, i32_w]
          rfl
        refine pure_ (i := 4) (N := some 26) (v := ?_) (a' := ?_) #[true, true, true, true, true] rfl rfl (by kernel_rfl) (fun _ _ _ h => h) (Or.inl ⟨by rfl, ?_⟩) ?_ ?_
        rotate_left
        · intro w'
          go_simp
          with_reducible rfl
        rotate_left
        · simp only [Act.put, List.setIfInBounds_toArray, List.set_cons_zero, List.set_cons_succ, i64_w, i32_w]
          rfl
        refine done_ (by kernel_rfl) ?_
        (try go_wp2)
        go_ret
        exact ⟨rfl, by first | exact H111.out.below | exact Drawn0.refl _⟩
      · rw [if_neg c22] at H
        exact absurd H (by simp)

end Go.Proofs.Ytbdbeccaopphaaa.Q
