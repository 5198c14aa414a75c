-- By a program of this session's own out of the translation.
import Derived.Test.YtbdbeccaopphaaaQT
import Derived.Test.YtbdbeccaopphaaaQlawstoByteS
import Derived.Test.YtbdbeccaopphaaaQlawseqByteS
import Derived.Test.YtbdbeccaopphaaaQspecParseTicket
import Derived.Test.YtbdbeccaopphaaaQimplParseTicket
import Derived.Test.YtbdbeccaopphaaaQlawseqTicket
namespace Go.Proofs.Ytbdbeccaopphaaa.Q
open Go.RowKit Go.Proofs.YtbdbeccaopphaaaW.PrintWords Go.Proofs.YtbdbeccaopphaaaW.PrintLast Go.Proofs.Ytbdbeccaopphaaa.LK Go.Proofs.YtbdbeccaopphaaaW.PrintMore
attribute [local go_sem] max2_int min2_int max_two min_two max_three min_three max_four min_four   -- for this text's walks alone
set_option linter.unusedVariables false
set_option linter.unusedSimpArgs false

/-! ### laws_FnExactParseTicket: function 5 -/
def laws_FnExactParseTicket.f (k : Nat) (l0 : List Int) : Option (Bool) := if (l0.length : Int) > 1048576 then (some true) else ((laws_toByteS.f k l0).bind fun t101 => ((spec_ParseTicket.f t101).bind fun bt104 => ((laws_toByteS.f k l0).bind fun t108 => ((impl_ParseTicket.f k t108).bind fun bt111 => ((laws_eqTicket.f bt111.1 bt111.2.1 bt111.2.2 bt104.1 bt104.2.1 bt104.2.2).bind fun t115 => (if t115 = true then ((laws_toByteS.f k l0).bind fun t116 => ((laws_eqByteS.f k t108 t116).bind fun t119 => (if t119 = true then (some true) else (some false)))) else (some false)))))))
theorem laws_FnExactParseTicket.mono : ∀ a0 k, LeO (laws_FnExactParseTicket.f k a0) (laws_FnExactParseTicket.f (k + 1) a0) := by
  intro a0 k
  unfold laws_FnExactParseTicket.f
  repeat' first
      | (with_reducible exact impl_ParseTicket.mono _ _)
      | (with_reducible exact laws_eqByteS.mono _ _ _)
      | (with_reducible exact laws_toByteS.mono _ _)
      | (with_reducible exact LeO.refl _)
      | (with_reducible exact LeO.none _)
      | (with_reducible refine LeO.ite ?_ ?_)
      | (with_reducible refine LeO.bind ?_ (fun _ => ?_))
      | exact impl_ParseTicket.mono _ _
      | exact laws_eqByteS.mono _ _ _
      | exact laws_toByteS.mono _ _
      | exact LeO.none _
      | refine LeO.ite ?_ ?_
      | refine LeO.bind ?_ (fun _ => ?_)
set_option maxHeartbeats 8000000 in
set_option maxRecDepth 100000 in
theorem laws_FnExactParseTicket.calls (k : Nat) (A0 : Option Addr) (c0 : Nat) (l0 : List Int) (w : World) (hr0 : Kd.C (Kd.int .u8) w A0 l0.length l0) (hc0 : l0.length ≤ c0) (h : laws_FnExactParseTicket.f k l0 = some true) :
    Calls Try.prog 5 #[.slice A0 l0.length c0] w fun e w' => e = .returned (.bool true) ∧ Below w.heap.size w w' := by
  have hu30 := Try.underlying30
  have HR0 := Aside0.mk hr0
  have HC0 := Aside0.mk hc0
  clear hr0 hc0
  have HB := Aside0.mk (Below.refl w.heap.size w)
  have H : (if (l0.length : Int) > 1048576 then (some true) else ((laws_toByteS.f k l0).bind fun t101 => ((spec_ParseTicket.f t101).bind fun bt104 => ((laws_toByteS.f k l0).bind fun t108 => ((impl_ParseTicket.f k t108).bind fun bt111 => ((laws_eqTicket.f bt111.1 bt111.2.1 bt111.2.2 bt104.1 bt104.2.1 bt104.2.2).bind fun t115 => (if t115 = true then ((laws_toByteS.f k l0).bind fun t116 => ((laws_eqByteS.f k t108 t116).bind fun t119 => (if t119 = true then (some true) else (some false)))) else (some false)))))))) = some true := h
  clear h
  by_cases c1 : (l0.length : Int) > 1048576
  · rw [if_pos c1] at H
    have c1b0 : decide (1048576 < (l0.length : Int)) = true := decide_eq_true c1
    have c1b1 : decide (1048576 < l0.length) = true := decide_eq_true (by omega)
    clear c1
    clear H
    (try clear HB)
    have H0 := Aside0.mk (Hist.refl w)
    go_enter Try.func5, Try.ntmps5
    (try go_wp2)
    go_ret
    exact ⟨rfl, by first | exact H0.out.below | exact Drawn0.refl _⟩
  · rw [if_neg c1] at H
    have c1b0 : decide (1048576 < (l0.length : Int)) = false := decide_eq_false c1
    have c1b1 : decide (1048576 < l0.length) = false := decide_eq_false (by omega)
    clear c1
    replace H := Option.bind_eq_some_iff.mp H
    obtain ⟨t101, A2_, H⟩ := H
    have A2 := Aside0.mk A2_
    clear A2_
    (try dsimp only at H)
    replace H := Option.bind_eq_some_iff.mp H
    obtain ⟨⟨t104, t105, t106⟩, A3_, H⟩ := H
    have A3 := Aside0.mk A3_
    clear A3_
    (try dsimp only at H)
    replace H := Option.bind_eq_some_iff.mp H
    obtain ⟨t108, A4_, H⟩ := H
    have A4 := Aside0.mk A4_
    clear A4_
    (try dsimp only at H)
    replace H := Option.bind_eq_some_iff.mp H
    obtain ⟨⟨t111, t112, t113⟩, A5_, H⟩ := H
    have A5 := Aside0.mk A5_
    clear A5_
    (try dsimp only at H)
    replace H := Option.bind_eq_some_iff.mp H
    obtain ⟨t115, A6_, H⟩ := H
    have A6 := Aside0.mk A6_
    clear A6_
    (try dsimp only at H)
    by_cases c7 : t115 = true
    · rw [if_pos c7] at H
      subst c7
      replace H := Option.bind_eq_some_iff.mp H
      obtain ⟨t116, A8_, H⟩ := H
      have A8 := Aside0.mk A8_
      clear A8_
      (try dsimp only at H)
      replace H := Option.bind_eq_some_iff.mp H
      obtain ⟨t119, A9_, H⟩ := H
      have A9 := Aside0.mk A9_
      clear A9_
      (try dsimp only at H)
      by_cases c10 : t119 = true
      · rw [if_pos c10] at H
        subst c10
        clear H
        (try clear HB)
        have H0 := Aside0.mk (Hist.refl w)
        go_enter Try.func5, Try.ntmps5
        go_wp2_with (first | (((with_reducible refine gate_callee (f := 16) rfl ?_)); refine goesW (some 10) rfl ?hw Try.func16 (by kernel_rfl) rfl #[.slice A0 l0.length c0] rfl (by (try simp only [List.map_toArray, List.map_cons, List.map_nil]); first | done | rfl | (simp only [List.length_drop, List.length_take]; rfl)) ?_; (case hw => rfl); with_reducible refine (laws_toByteS.calls k _ _ l0 t101 _ ?side1 ?side2 A2.out).mono ?_; (case side1 => exact Kd.C_below HR0.out H0.out.below); (case side2 => exact HC0.out); rintro e w11 ⟨v12, rfl, ho13, hb14⟩; refine ⟨_, rfl, ?_⟩; have H15 := Aside0.mk (Hist.step H0.out hb14); clear H0; clear hb14; have F18 := Aside0.mk ho13; clear ho13; obtain ⟨Ao16, co17, eo20⟩ := Kd.R_slice F18.out; (first | subst eo20 | (injection eo20 with f1_ f2_ f3_; have f4_ := f1_.symm; have f5_ := f3_.symm; clear f1_ f2_ f3_; subst f4_; subst f5_))) | (((with_reducible refine gate_callee (f := 19) rfl ?_)); refine goesW (some 11) rfl ?hw Try.func19 (by kernel_rfl) rfl #[.slice Ao16 t101.length co17] rfl (by (try simp only [List.map_toArray, List.map_cons, List.map_nil]); first | done | rfl | (simp only [List.length_drop, List.length_take]; rfl)) ?_; (case hw => rfl); with_reducible refine (spec_ParseTicket.calls _ _ t101 t104 t105 t106 _ ?side1 ?side2 A3.out).mono ?_; (case side1 => exact (Kd.R_reads' (R_fix F18.out H15.out.fixes.hd)).2.2); (case side2 => exact R_capn (R_fix F18.out H15.out.fixes.hd)); rintro e w21 ⟨rfl, hb22⟩; refine ⟨_, rfl, ?_⟩; have H23 := Aside0.mk (Hist.pass H15.out hb22); clear H15; clear hb22) | ((with_reducible refine gate_dst (N := 3) rfl ?_); refine mk ?hw (N := 3) ?hd (cs := #[.bool false, .int .i64 0, .int .i64 0]) (t := 30) ?hr ?_; (case hd => rfl); (case hw => rfl); (case hr => first | (go_simp; done) | (go_simp; rfl)); intro g24 hg28 w25 hbox27 hb26; have H29 := Aside0.mk (Hist.step H23.out hb26); clear H23; have B30 := Aside0.mk hbox27; have G31 := Aside0.mk (Nat.le_of_eq hg28.symm); have L32 := Aside0.mk (blk_lt hbox27); clear hb26 hbox27 hg28) | ((with_reducible refine gate_store (t := 30) (p := 3) rfl ?_); refine st_all ?hw ?hN rfl ?hp (cs := #[.bool t104, .int .i64 t105, .int .i64 t106]) ?hx (blk_fix2 B30.out ⟨G31.out, L32.out⟩ H29.out.fixes.hd) (by kernel_rfl) rfl (by simp [Value.oneCell']) ?_; (case hw => rfl); (case hN => rfl); (case hp => rfl); (case hx => rfl); intro w33 hbox34 hs35; have H36 : Aside0 (Hist w [(w33, w21.heap.size, w25.heap.size), (w11, w.heap.size, w11.heap.size)] w33) := ⟨Hist.mark' (w := w25) (b := w21.heap.size) (t := w25.heap.size) (l1 := []) (l2 := [(w11, w.heap.size, w11.heap.size)]) (by simp only [List.cons_append, List.nil_append]) (by simp only [List.cons_append, List.nil_append]) H29.out hs35 (fun k_ hk_ => by rw [hk_]; exact ⟨G31.out, L32.out⟩)⟩; have B30n := Aside0.mk hbox34; clear hs35 hbox34 H29 B30; have B30 := B30n; clear B30n) | (((with_reducible refine gate_callee (f := 16) rfl ?_)); refine goesW (some 13) rfl ?hw Try.func16 (by kernel_rfl) rfl #[.slice A0 l0.length c0] rfl (by (try simp only [List.map_toArray, List.map_cons, List.map_nil]); first | done | rfl | (simp only [List.length_drop, List.length_take]; rfl)) ?_; (case hw => rfl); with_reducible refine (laws_toByteS.calls k _ _ l0 t108 _ ?side1 ?side2 A4.out).mono ?_; (case side1 => exact Kd.C_below HR0.out H36.out.below); (case side2 => exact HC0.out); rintro e w37 ⟨v38, rfl, ho39, hb40⟩; refine ⟨_, rfl, ?_⟩; have H41 := Aside0.mk (Hist.step H36.out hb40); clear H36; clear hb40; have F44 := Aside0.mk ho39; clear ho39; obtain ⟨Ao42, co43, eo46⟩ := Kd.R_slice F44.out; (first | subst eo46 | (injection eo46 with f1_ f2_ f3_; have f4_ := f1_.symm; have f5_ := f3_.symm; clear f1_ f2_ f3_; subst f4_; subst f5_))) | (((with_reducible refine gate_callee (f := 20) rfl ?_)); refine goesW (some 15) rfl ?hw Try.func20 (by kernel_rfl) rfl #[.slice Ao42 t108.length co43] rfl (by (try simp only [List.map_toArray, List.map_cons, List.map_nil]); first | done | rfl | (simp only [List.length_drop, List.length_take]; rfl)) ?_; (case hw => rfl); with_reducible refine (impl_ParseTicket.calls k _ _ t108 t111 t112 t113 _ ?side1 ?side2 A5.out).mono ?_; (case side1 => exact (Kd.R_reads' (R_fix F44.out H41.out.fixes.hd)).2.2); (case side2 => exact R_capn (R_fix F44.out H41.out.fixes.hd)); rintro e w47 ⟨rfl, hb48⟩; refine ⟨_, rfl, ?_⟩; have H49 := Aside0.mk (Hist.pass H41.out hb48); clear H41; clear hb48) | ((with_reducible refine gate_dst (N := 5) rfl ?_); refine mk ?hw (N := 5) ?hd (cs := #[.bool false, .int .i64 0, .int .i64 0]) (t := 30) ?hr ?_; (case hd => rfl); (case hw => rfl); (case hr => first | (go_simp; done) | (go_simp; rfl)); intro g50 hg54 w51 hbox53 hb52; have H55 := Aside0.mk (Hist.step H49.out hb52); clear H49; have B56 := Aside0.mk hbox53; have G57 := Aside0.mk (Nat.le_of_eq hg54.symm); have L58 := Aside0.mk (blk_lt hbox53); clear hb52 hbox53 hg54) | ((with_reducible refine gate_store (t := 30) (p := 5) rfl ?_); refine st_all ?hw ?hN rfl ?hp (cs := #[.bool t111, .int .i64 t112, .int .i64 t113]) ?hx (blk_fix2 B56.out ⟨G57.out, L58.out⟩ H55.out.fixes.hd) (by kernel_rfl) rfl (by simp [Value.oneCell']) ?_; (case hw => rfl); (case hN => rfl); (case hp => rfl); (case hx => rfl); intro w59 hbox60 hs61; have H62 : Aside0 (Hist w [(w59, w47.heap.size, w51.heap.size), (w37, w33.heap.size, w37.heap.size), (w33, w21.heap.size, w25.heap.size), (w11, w.heap.size, w11.heap.size)] w59) := ⟨Hist.mark' (w := w51) (b := w47.heap.size) (t := w51.heap.size) (l1 := []) (l2 := [(w37, w33.heap.size, w37.heap.size), (w33, w21.heap.size, w25.heap.size), (w11, w.heap.size, w11.heap.size)]) (by simp only [List.cons_append, List.nil_append]) (by simp only [List.cons_append, List.nil_append]) H55.out hs61 (fun k_ hk_ => by rw [hk_]; exact ⟨G57.out, L58.out⟩)⟩; have B56n := Aside0.mk hbox60; clear hs61 hbox60 H55 B56; have B56 := B56n; clear B56n) | ((with_reducible refine gate_dst (N := 16) rfl ?_); refine ld ?hw rfl ?hx (blk_fix2 B56.out ⟨G57.out, L58.out⟩ H62.out.fixes.hd) Try.underlying30 rfl (by kernel_rfl) ?_; (case hw => rfl); (case hx => rfl)) | ((with_reducible refine gate_dst (N := 17) rfl ?_); refine ld ?hw rfl ?hx (blk_fix2 B30.out ⟨G31.out, L32.out⟩ H62.out.fixes.tl.tl.hd) Try.underlying30 rfl (by kernel_rfl) ?_; (case hw => rfl); (case hx => rfl)) | (((with_reducible refine gate_callee (f := 21) rfl ?_)); refine goesW (some 18) rfl ?hw Try.func21 (by kernel_rfl) rfl #[.agg #[.bool t111, .int .i64 t112, .int .i64 t113], .agg #[.bool t104, .int .i64 t105, .int .i64 t106]] rfl (by (try simp only [List.map_toArray, List.map_cons, List.map_nil]); first | done | rfl | (simp only [List.length_drop, List.length_take]; rfl)) ?_; (case hw => rfl); with_reducible refine (laws_eqTicket.calls t111 t112 t113 t104 t105 t106 true _  A6.out).mono ?_; rintro e w63 ⟨rfl, hb64⟩; refine ⟨_, rfl, ?_⟩; have H65 := Aside0.mk (Hist.pass H62.out hb64); clear H62; clear hb64) | (((with_reducible refine gate_callee (f := 16) rfl ?_)); refine goesW (some 22) rfl ?hw Try.func16 (by kernel_rfl) rfl #[.slice A0 l0.length c0] rfl (by (try simp only [List.map_toArray, List.map_cons, List.map_nil]); first | done | rfl | (simp only [List.length_drop, List.length_take]; rfl)) ?_; (case hw => rfl); with_reducible refine (laws_toByteS.calls k _ _ l0 t116 _ ?side1 ?side2 A8.out).mono ?_; (case side1 => exact Kd.C_below HR0.out H65.out.below); (case side2 => exact HC0.out); rintro e w66 ⟨v67, rfl, ho68, hb69⟩; refine ⟨_, rfl, ?_⟩; have H70 := Aside0.mk (Hist.step H65.out hb69); clear H65; clear hb69; have F73 := Aside0.mk ho68; clear ho68; obtain ⟨Ao71, co72, eo75⟩ := Kd.R_slice F73.out; (first | subst eo75 | (injection eo75 with f1_ f2_ f3_; have f4_ := f1_.symm; have f5_ := f3_.symm; clear f1_ f2_ f3_; subst f4_; subst f5_))) | (((with_reducible refine gate_callee (f := 18) rfl ?_)); refine goesW (some 23) rfl ?hw Try.func18 (by kernel_rfl) rfl #[.slice Ao42 t108.length co43, .slice Ao71 t116.length co72] rfl (by (try simp only [List.map_toArray, List.map_cons, List.map_nil]); first | done | rfl | (simp only [List.length_drop, List.length_take]; rfl)) ?_; (case hw => rfl); with_reducible refine (laws_eqByteS.calls k _ _ t108 _ _ t116 true _ ?side1 ?side2 ?side3 ?side4 A9.out).mono ?_; (case side1 => exact (Kd.R_reads' (R_fix F44.out H70.out.fixes.tl.tl.hd)).2.2); (case side2 => exact R_capn (R_fix F44.out H70.out.fixes.tl.tl.hd)); (case side3 => exact (Kd.R_reads' (R_fix F73.out H70.out.fixes.hd)).2.2); (case side4 => exact R_capn (R_fix F73.out H70.out.fixes.hd)); rintro e w76 ⟨rfl, hd_⟩; have hb77 := hd_.below; clear hd_; refine ⟨_, rfl, ?_⟩; have H78 := Aside0.mk (Hist.pass H70.out hb77); clear H70; clear hb77))
        go_ret
        exact ⟨rfl, by first | exact H78.out.below | exact Drawn0.refl _⟩
      · rw [if_neg c10] at H
        exact absurd H (by simp)
    · rw [if_neg c7] at H
      exact absurd H (by simp)

end Go.Proofs.Ytbdbeccaopphaaa.Q
