-- By a program of this session's own out of the translation.
import Derived.Test.YtbdbeccaopphaaaQT
import Derived.Test.YtbdbeccaopphaaaQspecDevNew
import Derived.Test.YtbdbeccaopphaaaQimplDevNew
import Derived.Test.YtbdbeccaopphaaaQlawseqDev
import Derived.Test.YtbdbeccaopphaaaQlawsheldDev
import Derived.Test.YtbdbeccaopphaaaMarksDev
namespace Go.Proofs.Ytbdbeccaopphaaa.Q
open Go.RowKit Go.Proofs.YtbdbeccaopphaaaW.PrintWords Go.Proofs.YtbdbeccaopphaaaW.PrintLast Go.Proofs.Ytbdbeccaopphaaa.LK Go.Proofs.YtbdbeccaopphaaaW.PrintMore
attribute [local go_sem] max2_int min2_int max_two min_two max_three min_three max_four min_four   -- for this text's walks alone
set_option linter.unusedVariables false
set_option linter.unusedSimpArgs false

/-! ### laws_FnExactDevNew: function 6 -/
def laws_FnExactDevNew.f (k : Nat) (a0 : Int) : Option (Bool) := (spec_DevNew.f k a0).bind fun bt101 => ((impl_DevNew.f a0).bind fun bt110 => ((laws_eqDev.f k bt110.1 bt110.2.1 bt110.2.2.1 bt110.2.2.2 bt101.1 bt101.2.1 bt101.2.2.1 bt101.2.2.2).bind fun t119 => (if t119 = true then ((laws_markDev.f k bt110.1 bt110.2.1 bt110.2.2.1 bt110.2.2.2 1).bind fun bt120 => ((laws_heldDev.f k bt120.2.1 bt120.2.2 bt110.2.2.1 bt110.2.2.2 1).bind fun t123 => (if t123 < 0 then (some false) else (if t123 = bt120.1 then ((impl_DevNew.f a0).bind fun bt124 => ((laws_eqDev.f k bt124.1 bt124.2.1 bt124.2.2.1 bt124.2.2.2 bt101.1 bt101.2.1 bt101.2.2.1 bt101.2.2.2).bind fun t133 => (if t133 = true then (some true) else (some false)))) else (some false))))) else (some false))))
theorem laws_FnExactDevNew.mono : ∀ a0 k, LeO (laws_FnExactDevNew.f k a0) (laws_FnExactDevNew.f (k + 1) a0) := by
  intro a0 k
  unfold laws_FnExactDevNew.f
  repeat' first
      | (with_reducible exact laws_eqDev.mono _ _ _ _ _ _ _ _ _)
      | (with_reducible exact laws_heldDev.mono _ _ _ _ _ _)
      | (with_reducible exact laws_markDev.mono _ _ _ _ _ _)
      | (with_reducible exact spec_DevNew.mono _ _)
      | (with_reducible exact LeO.refl _)
      | (with_reducible exact LeO.none _)
      | (with_reducible refine LeO.ite ?_ ?_)
      | (with_reducible refine LeO.bind ?_ (fun _ => ?_))
      | exact laws_eqDev.mono _ _ _ _ _ _ _ _ _
      | exact laws_heldDev.mono _ _ _ _ _ _
      | exact laws_markDev.mono _ _ _ _ _ _
      | exact spec_DevNew.mono _ _
      | exact LeO.none _
      | refine LeO.ite ?_ ?_
      | refine LeO.bind ?_ (fun _ => ?_)
set_option maxHeartbeats 8000000 in
set_option maxRecDepth 100000 in
theorem laws_FnExactDevNew.calls (k : Nat) (a0 : Int) (w : World) (h : laws_FnExactDevNew.f k a0 = some true) :
    Calls Try.prog 6 #[.int .i64 a0] w fun e w' => e = .returned (.bool true) ∧ Below w.heap.size w w' := by
  have hu35 := Try.underlying35
  have HB := Aside0.mk (Below.refl w.heap.size w)
  have H : ((spec_DevNew.f k a0).bind fun bt101 => ((impl_DevNew.f a0).bind fun bt110 => ((laws_eqDev.f k bt110.1 bt110.2.1 bt110.2.2.1 bt110.2.2.2 bt101.1 bt101.2.1 bt101.2.2.1 bt101.2.2.2).bind fun t119 => (if t119 = true then ((laws_markDev.f k bt110.1 bt110.2.1 bt110.2.2.1 bt110.2.2.2 1).bind fun bt120 => ((laws_heldDev.f k bt120.2.1 bt120.2.2 bt110.2.2.1 bt110.2.2.2 1).bind fun t123 => (if t123 < 0 then (some false) else (if t123 = bt120.1 then ((impl_DevNew.f a0).bind fun bt124 => ((laws_eqDev.f k bt124.1 bt124.2.1 bt124.2.2.1 bt124.2.2.2 bt101.1 bt101.2.1 bt101.2.2.1 bt101.2.2.2).bind fun t133 => (if t133 = true then (some true) else (some false)))) else (some false))))) else (some false))))) = some true := h
  clear h
  replace H := Option.bind_eq_some_iff.mp H
  obtain ⟨⟨t101, t104, t107, t108⟩, A1_, H⟩ := H
  have A1 := Aside0.mk A1_
  clear A1_
  (try dsimp only at H)
  replace H := Option.bind_eq_some_iff.mp H
  obtain ⟨⟨t110, t113, t116, t117⟩, A2_, H⟩ := H
  have A2 := Aside0.mk A2_
  clear A2_
  (try dsimp only at H)
  replace H := Option.bind_eq_some_iff.mp H
  obtain ⟨t119, A3_, H⟩ := H
  have A3 := Aside0.mk A3_
  clear A3_
  (try dsimp only at H)
  by_cases c4 : t119 = true
  · rw [if_pos c4] at H
    subst c4
    replace H := Option.bind_eq_some_iff.mp H
    obtain ⟨⟨t120, t121, t122⟩, A5_, H⟩ := H
    have A5 := Aside0.mk A5_
    clear A5_
    (try dsimp only at H)
    replace H := Option.bind_eq_some_iff.mp H
    obtain ⟨t123, A6_, H⟩ := H
    have A6 := Aside0.mk A6_
    clear A6_
    (try dsimp only at H)
    by_cases c7 : t123 < 0
    · rw [if_pos c7] at H
      exact absurd H (by simp)
    · rw [if_neg c7] at H
      have c7b0 : decide (t123 < 0) = false := decide_eq_false c7
      clear c7
      by_cases c8 : t123 = t120
      · rw [if_pos c8] at H
        have c8b0 : (t123 == t120) = true := beq_iff_eq.mpr c8
        have c8b1 : (t123 != t120) = false := bne_eq_false_iff_eq.mpr c8
        clear c8
        replace H := Option.bind_eq_some_iff.mp H
        obtain ⟨⟨t124, t127, t130, t131⟩, A9_, H⟩ := H
        have A9 := Aside0.mk A9_
        clear A9_
        (try dsimp only at H)
        replace H := Option.bind_eq_some_iff.mp H
        obtain ⟨t133, A10_, H⟩ := H
        have A10 := Aside0.mk A10_
        clear A10_
        (try dsimp only at H)
        by_cases c11 : t133 = true
        · rw [if_pos c11] at H
          subst c11
          clear H
          (try clear HB)
          have H0 := Aside0.mk (Hist.refl w)
          go_enter Try.func6, Try.ntmps6
          go_wp2_with (first | (((with_reducible refine gate_callee (f := 22) rfl ?_)); refine goesW (some 9) rfl ?hw Try.func22 (by kernel_rfl) rfl #[.int .i64 a0] rfl (by (try simp only [List.map_toArray, List.map_cons, List.map_nil]); first | done | rfl | (simp only [List.length_drop, List.length_take]; rfl)) ?_; (case hw => rfl); with_reducible refine (spec_DevNew.calls k a0 t101 t104 t107 t108 _  A1.out).mono ?_; rintro e w12 ⟨v13, v14, rfl, ho15, ho16, hb17⟩; refine ⟨_, rfl, ?_⟩; have H18 := Aside0.mk (Hist.step H0.out hb17); clear H0; clear hb17; have F21 := Aside0.mk ho15; clear ho15; have F25 := Aside0.mk ho16; clear ho16; obtain ⟨Ao19, co20, eo27⟩ := Kd.R_slice F21.out; (first | subst eo27 | (injection eo27 with f1_ f2_ f3_; have f4_ := f1_.symm; have f5_ := f3_.symm; clear f1_ f2_ f3_; subst f4_; subst f5_)); obtain ⟨Ao23, co24, eo28⟩ := Kd.S_slice F25.out; (first | subst eo28 | (injection eo28 with f1_ f2_ f3_; have f4_ := f1_.symm; have f5_ := f3_.symm; clear f1_ f2_ f3_; subst f4_; subst f5_))) | ((with_reducible refine gate_dst (N := 3) rfl ?_); refine mk ?hw (N := 3) ?hd (cs := #[.slice none 0 0, .slice none 0 0, .int .i64 0, .bool false]) (t := 35) ?hr ?_; (case hd => rfl); (case hw => rfl); (case hr => first | (go_simp; done) | (go_simp; rfl)); intro g29 hg33 w30 hbox32 hb31; have H34 := Aside0.mk (Hist.step H18.out hb31); clear H18; have B35 := Aside0.mk hbox32; have G36 := Aside0.mk (Nat.le_of_eq hg33.symm); have L37 := Aside0.mk (blk_lt hbox32); clear hb31 hbox32 hg33) | ((with_reducible refine gate_store (t := 35) (p := 3) rfl ?_); refine st_all ?hw ?hN rfl ?hp (cs := #[.slice Ao19 t101.length co20, .slice Ao23 t104.length co24, .int .i64 t107, .bool t108]) ?hx (blk_fix2 B35.out ⟨G36.out, L37.out⟩ H34.out.fixes.hd) (by kernel_rfl) rfl (by simp [Value.oneCell']) ?_; (case hw => rfl); (case hN => rfl); (case hp => rfl); (case hx => rfl); intro w38 hbox39 hs40; have H41 : Aside0 (Hist w [(w38, w12.heap.size, w30.heap.size), (w12, w.heap.size, w12.heap.size)] w38) := ⟨Hist.mark' (w := w30) (b := w12.heap.size) (t := w30.heap.size) (l1 := []) (l2 := [(w12, w.heap.size, w12.heap.size)]) (by simp only [List.cons_append, List.nil_append]) (by simp only [List.cons_append, List.nil_append]) H34.out hs40 (fun k_ hk_ => by rw [hk_]; exact ⟨G36.out, L37.out⟩)⟩; have B35n := Aside0.mk hbox39; clear hs40 hbox39 H34 B35; have B35 := B35n; clear B35n) | (((with_reducible refine gate_callee (f := 23) rfl ?_)); refine goesW (some 11) rfl ?hw Try.func23 (by kernel_rfl) rfl #[.int .i64 a0] rfl (by (try simp only [List.map_toArray, List.map_cons, List.map_nil]); first | done | rfl | (simp only [List.length_drop, List.length_take]; rfl)) ?_; (case hw => rfl); with_reducible refine (impl_DevNew.calls a0 t110 t113 t116 t117 _  A2.out).mono ?_; rintro e w42 ⟨v43, v44, rfl, ho45, ho46, hb47⟩; refine ⟨_, rfl, ?_⟩; have H48 := Aside0.mk (Hist.step H41.out hb47); clear H41; clear hb47; have F51 := Aside0.mk ho45; clear ho45; have F55 := Aside0.mk ho46; clear ho46; obtain ⟨Ao49, co50, eo57⟩ := Kd.R_slice F51.out; (first | subst eo57 | (injection eo57 with f1_ f2_ f3_; have f4_ := f1_.symm; have f5_ := f3_.symm; clear f1_ f2_ f3_; subst f4_; subst f5_)); obtain ⟨Ao53, co54, eo58⟩ := Kd.S_slice F55.out; (first | subst eo58 | (injection eo58 with f1_ f2_ f3_; have f4_ := f1_.symm; have f5_ := f3_.symm; clear f1_ f2_ f3_; subst f4_; subst f5_))) | ((with_reducible refine gate_dst (N := 4) rfl ?_); refine mk ?hw (N := 4) ?hd (cs := #[.slice none 0 0, .slice none 0 0, .int .i64 0, .bool false]) (t := 35) ?hr ?_; (case hd => rfl); (case hw => rfl); (case hr => first | (go_simp; done) | (go_simp; rfl)); intro g59 hg63 w60 hbox62 hb61; have H64 := Aside0.mk (Hist.step H48.out hb61); clear H48; have B65 := Aside0.mk hbox62; have G66 := Aside0.mk (Nat.le_of_eq hg63.symm); have L67 := Aside0.mk (blk_lt hbox62); clear hb61 hbox62 hg63) | ((with_reducible refine gate_store (t := 35) (p := 4) rfl ?_); refine st_all ?hw ?hN rfl ?hp (cs := #[.slice Ao49 t110.length co50, .slice Ao53 t113.length co54, .int .i64 t116, .bool t117]) ?hx (blk_fix2 B65.out ⟨G66.out, L67.out⟩ H64.out.fixes.hd) (by kernel_rfl) rfl (by simp [Value.oneCell']) ?_; (case hw => rfl); (case hN => rfl); (case hp => rfl); (case hx => rfl); intro w68 hbox69 hs70; have H71 : Aside0 (Hist w [(w68, w42.heap.size, w60.heap.size), (w42, w38.heap.size, w42.heap.size), (w38, w12.heap.size, w30.heap.size), (w12, w.heap.size, w12.heap.size)] w68) := ⟨Hist.mark' (w := w60) (b := w42.heap.size) (t := w60.heap.size) (l1 := []) (l2 := [(w42, w38.heap.size, w42.heap.size), (w38, w12.heap.size, w30.heap.size), (w12, w.heap.size, w12.heap.size)]) (by simp only [List.cons_append, List.nil_append]) (by simp only [List.cons_append, List.nil_append]) H64.out hs70 (fun k_ hk_ => by rw [hk_]; exact ⟨G66.out, L67.out⟩)⟩; have B65n := Aside0.mk hbox69; clear hs70 hbox69 H64 B65; have B65 := B65n; clear B65n) | ((with_reducible refine gate_dst (N := 12) rfl ?_); refine ld ?hw rfl ?hx (blk_fix2 B65.out ⟨G66.out, L67.out⟩ H71.out.fixes.hd) Try.underlying35 rfl (by kernel_rfl) ?_; (case hw => rfl); (case hx => rfl)) | ((with_reducible refine gate_dst (N := 13) rfl ?_); refine ld ?hw rfl ?hx (blk_fix2 B35.out ⟨G36.out, L37.out⟩ H71.out.fixes.tl.tl.hd) Try.underlying35 rfl (by kernel_rfl) ?_; (case hw => rfl); (case hx => rfl)) | (((with_reducible refine gate_callee (f := 24) rfl ?_)); refine goesW (some 14) rfl ?hw Try.func24 (by kernel_rfl) rfl #[.agg #[.slice Ao49 t110.length co50, .slice Ao53 t113.length co54, .int .i64 t116, .bool t117], .agg #[.slice Ao19 t101.length co20, .slice Ao23 t104.length co24, .int .i64 t107, .bool t108]] rfl (by (try simp only [List.map_toArray, List.map_cons, List.map_nil]); first | done | rfl | (simp only [List.length_drop, List.length_take]; rfl)) ?_; (case hw => rfl); with_reducible refine (laws_eqDev.calls k _ _ t110 _ _ t113 t116 t117 _ _ t101 _ _ t104 t107 t108 true _ ?side1 ?side2 ?side3 ?side4 ?side5 ?side6 ?side7 ?side8 A3.out).mono ?_; (case side1 => exact (Kd.R_reads' (R_fix F51.out H71.out.fixes.tl.hd)).2.2); (case side2 => exact R_capn (R_fix F51.out H71.out.fixes.tl.hd)); (case side3 => exact (Kd.S_reads' (S_fix F55.out H71.out.fixes.tl.hd)).2.2); (case side4 => exact S_capn (S_fix F55.out H71.out.fixes.tl.hd)); (case side5 => exact (Kd.R_reads' (R_fix F21.out H71.out.fixes.tl.tl.tl.hd)).2.2); (case side6 => exact R_capn (R_fix F21.out H71.out.fixes.tl.tl.tl.hd)); (case side7 => exact (Kd.S_reads' (S_fix F25.out H71.out.fixes.tl.tl.tl.hd)).2.2); (case side8 => exact S_capn (S_fix F25.out H71.out.fixes.tl.tl.tl.hd)); rintro e w72 ⟨rfl, hb73⟩; refine ⟨_, rfl, ?_⟩; have H74 := Aside0.mk (Hist.pass H71.out hb73); clear H71; clear hb73) | ((with_reducible refine gate_dst (N := 16) rfl ?_); refine ld ?hw rfl ?hx (blk_fix2 B65.out ⟨G66.out, L67.out⟩ H74.out.fixes.hd) Try.underlying35 rfl (by kernel_rfl) ?_; (case hw => rfl); (case hx => rfl)) | (((with_reducible refine gate_callee (f := 25) rfl ?_)); refine goesW (some 18) rfl ?hw Try.func25 (by kernel_rfl) rfl #[.agg #[.slice Ao49 t110.length co50, .slice Ao53 t113.length co54, .int .i64 t116, .bool t117], .int .i64 1] rfl (by (try simp only [List.map_toArray, List.map_cons, List.map_nil]); first | done | rfl | (simp only [List.length_drop, List.length_take]; rfl)) ?_; (case hw => rfl); with_reducible refine (mk_laws_markDev (Fixes.at (w := w42) (b := w38.heap.size) (t := w42.heap.size) (l1 := [(w68, w42.heap.size, w60.heap.size)]) (l2 := [(w38, w12.heap.size, w30.heap.size), (w12, w.heap.size, w12.heap.size)]) (by simp only [List.cons_append, List.nil_append]) H74.out.fixes) (R_fix F51.out H74.out.fixes.tl.hd) (S_fix F55.out H74.out.fixes.tl.hd) (fun _ h_ => h_.1) A5.out).mono ?_; rintro e w75 ⟨rfl, hr77, hr78, hs76⟩; refine ⟨_, rfl, ?_⟩; have H79 : Aside0 (Hist w [(w68, w42.heap.size, w60.heap.size), (w75, w38.heap.size, w42.heap.size), (w38, w12.heap.size, w30.heap.size), (w12, w.heap.size, w12.heap.size)] w75) := ⟨Hist.mark' (w := w42) (b := w38.heap.size) (t := w42.heap.size) (l1 := [(w68, w42.heap.size, w60.heap.size)]) (l2 := [(w38, w12.heap.size, w30.heap.size), (w12, w.heap.size, w12.heap.size)]) (by simp only [List.cons_append, List.nil_append]) (by simp only [List.cons_append, List.nil_append]) H74.out hs76 (fun k_ hk_ => by first | exact hk_.2 | (rcases hk_ with hk_ | hk_ <;> exact hk_.2))⟩; clear H74 hs76; have F80 := Aside0.mk hr77; have E81 := Aside0.mk (Kd.R_reads' hr77).1; clear hr77; have F82 := Aside0.mk hr78; have E83 := Aside0.mk (Kd.S_reads' hr78).1; clear hr78) | ((with_reducible refine gate_dst (N := 19) rfl ?_); refine ld ?hw rfl ?hx (blk_fix2 B65.out ⟨G66.out, L67.out⟩ H79.out.fixes.hd) Try.underlying35 rfl (by kernel_rfl) ?_; (case hw => rfl); (case hx => rfl)) | (((with_reducible refine gate_callee (f := 26) rfl ?_)); refine goesW (some 21) rfl ?hw Try.func26 (by kernel_rfl) rfl #[.agg #[.slice Ao49 t121.length co50, .slice Ao53 t122.length co54, .int .i64 t116, .bool t117], .int .i64 1] rfl (by (try simp only [List.map_toArray, List.map_cons, List.map_nil]); first | done | rfl | (rw [← E81.out, ← E83.out]; first | done | rfl) | (simp only [List.length_drop, List.length_take]; rfl)) ?_; (case hw => rfl); with_reducible refine (laws_heldDev.calls k _ _ t121 _ _ t122 t116 t117 1 t123 _ ?side1 ?side2 ?side3 ?side4 A6.out).mono ?_; (case side1 => exact (Kd.R_reads' (R_fix2 F80.out H79.out.fixes.tl.hd)).2.2); (case side2 => exact R_capn (R_fix2 F80.out H79.out.fixes.tl.hd)); (case side3 => exact (Kd.S_reads' (S_fix2 F82.out H79.out.fixes.tl.hd)).2.2); (case side4 => exact S_capn (S_fix2 F82.out H79.out.fixes.tl.hd)); rintro e w84 ⟨rfl, hb85⟩; refine ⟨_, rfl, ?_⟩; have H86 := Aside0.mk (Hist.pass H79.out hb85); clear H79; clear hb85) | (((with_reducible refine gate_callee (f := 23) rfl ?_)); refine goesW (some 28) rfl ?hw Try.func23 (by kernel_rfl) rfl #[.int .i64 a0] rfl (by (try simp only [List.map_toArray, List.map_cons, List.map_nil]); first | done | rfl | (simp only [List.length_drop, List.length_take]; rfl)) ?_; (case hw => rfl); with_reducible refine (impl_DevNew.calls a0 t124 t127 t130 t131 _  A9.out).mono ?_; rintro e w87 ⟨v88, v89, rfl, ho90, ho91, hb92⟩; refine ⟨_, rfl, ?_⟩; have H93 := Aside0.mk (Hist.step H86.out hb92); clear H86; clear hb92; have F96 := Aside0.mk ho90; clear ho90; have F100 := Aside0.mk ho91; clear ho91; obtain ⟨Ao94, co95, eo102⟩ := Kd.R_slice F96.out; (first | subst eo102 | (injection eo102 with f1_ f2_ f3_; have f4_ := f1_.symm; have f5_ := f3_.symm; clear f1_ f2_ f3_; subst f4_; subst f5_)); obtain ⟨Ao98, co99, eo103⟩ := Kd.S_slice F100.out; (first | subst eo103 | (injection eo103 with f1_ f2_ f3_; have f4_ := f1_.symm; have f5_ := f3_.symm; clear f1_ f2_ f3_; subst f4_; subst f5_))) | ((with_reducible refine gate_dst (N := 7) rfl ?_); refine mk ?hw (N := 7) ?hd (cs := #[.slice none 0 0, .slice none 0 0, .int .i64 0, .bool false]) (t := 35) ?hr ?_; (case hd => rfl); (case hw => rfl); (case hr => first | (go_simp; done) | (go_simp; rfl)); intro g104 hg108 w105 hbox107 hb106; have H109 := Aside0.mk (Hist.step H93.out hb106); clear H93; have B110 := Aside0.mk hbox107; have G111 := Aside0.mk (Nat.le_of_eq hg108.symm); have L112 := Aside0.mk (blk_lt hbox107); clear hb106 hbox107 hg108) | ((with_reducible refine gate_store (t := 35) (p := 7) rfl ?_); refine st_all ?hw ?hN rfl ?hp (cs := #[.slice Ao94 t124.length co95, .slice Ao98 t127.length co99, .int .i64 t130, .bool t131]) ?hx (blk_fix2 B110.out ⟨G111.out, L112.out⟩ H109.out.fixes.hd) (by kernel_rfl) rfl (by simp [Value.oneCell']) ?_; (case hw => rfl); (case hN => rfl); (case hp => rfl); (case hx => rfl); intro w113 hbox114 hs115; have H116 : Aside0 (Hist w [(w113, w87.heap.size, w105.heap.size), (w87, w84.heap.size, w87.heap.size), (w68, w42.heap.size, w60.heap.size), (w75, w38.heap.size, w42.heap.size), (w38, w12.heap.size, w30.heap.size), (w12, w.heap.size, w12.heap.size)] w113) := ⟨Hist.mark' (w := w105) (b := w87.heap.size) (t := w105.heap.size) (l1 := []) (l2 := [(w87, w84.heap.size, w87.heap.size), (w68, w42.heap.size, w60.heap.size), (w75, w38.heap.size, w42.heap.size), (w38, w12.heap.size, w30.heap.size), (w12, w.heap.size, w12.heap.size)]) (by simp only [List.cons_append, List.nil_append]) (by simp only [List.cons_append, List.nil_append]) H109.out hs115 (fun k_ hk_ => by rw [hk_]; exact ⟨G111.out, L112.out⟩)⟩; have B110n := Aside0.mk hbox114; clear hs115 hbox114 H109 B110; have B110 := B110n; clear B110n) | ((with_reducible refine gate_dst (N := 29) rfl ?_); refine ld ?hw rfl ?hx (blk_fix2 B110.out ⟨G111.out, L112.out⟩ H116.out.fixes.hd) Try.underlying35 rfl (by kernel_rfl) ?_; (case hw => rfl); (case hx => rfl)) | ((with_reducible refine gate_dst (N := 30) rfl ?_); refine ld ?hw rfl ?hx (blk_fix2 B35.out ⟨G36.out, L37.out⟩ H116.out.fixes.tl.tl.tl.tl.hd) Try.underlying35 rfl (by kernel_rfl) ?_; (case hw => rfl); (case hx => rfl)) | (((with_reducible refine gate_callee (f := 24) rfl ?_)); refine goesW (some 31) rfl ?hw Try.func24 (by kernel_rfl) rfl #[.agg #[.slice Ao94 t124.length co95, .slice Ao98 t127.length co99, .int .i64 t130, .bool t131], .agg #[.slice Ao19 t101.length co20, .slice Ao23 t104.length co24, .int .i64 t107, .bool t108]] rfl (by (try simp only [List.map_toArray, List.map_cons, List.map_nil]); first | done | rfl | (simp only [List.length_drop, List.length_take]; rfl)) ?_; (case hw => rfl); with_reducible refine (laws_eqDev.calls k _ _ t124 _ _ t127 t130 t131 _ _ t101 _ _ t104 t107 t108 true _ ?side1 ?side2 ?side3 ?side4 ?side5 ?side6 ?side7 ?side8 A10.out).mono ?_; (case side1 => exact (Kd.R_reads' (R_fix F96.out H116.out.fixes.tl.hd)).2.2); (case side2 => exact R_capn (R_fix F96.out H116.out.fixes.tl.hd)); (case side3 => exact (Kd.S_reads' (S_fix F100.out H116.out.fixes.tl.hd)).2.2); (case side4 => exact S_capn (S_fix F100.out H116.out.fixes.tl.hd)); (case side5 => exact (Kd.R_reads' (R_fix F21.out H116.out.fixes.tl.tl.tl.tl.tl.hd)).2.2); (case side6 => exact R_capn (R_fix F21.out H116.out.fixes.tl.tl.tl.tl.tl.hd)); (case side7 => exact (Kd.S_reads' (S_fix F25.out H116.out.fixes.tl.tl.tl.tl.tl.hd)).2.2); (case side8 => exact S_capn (S_fix F25.out H116.out.fixes.tl.tl.tl.tl.tl.hd)); rintro e w117 ⟨rfl, hb118⟩; refine ⟨_, rfl, ?_⟩; have H119 := Aside0.mk (Hist.pass H116.out hb118); clear H116; clear hb118))
          go_ret
          exact ⟨rfl, by first | exact H119.out.below | exact Drawn0.refl _⟩
        · rw [if_neg c11] at H
          exact absurd H (by simp)
      · rw [if_neg c8] at H
        exact absurd H (by simp)
  · rw [if_neg c4] at H
    exact absurd H (by simp)

end Go.Proofs.Ytbdbeccaopphaaa.Q
