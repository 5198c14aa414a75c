/- Part 7 of 8 of the proof that the law FnExactDevCrash returns true at every input. No further condition. -/
import Derived.Test.YtbdbeccaopphaaaWWords
import Derived.ChangeArms
import Derived.DataReads
import Derived.Test.YtbdbeccaopphaaaMFnExactDevCrash6
namespace Go.Proofs.Ytbdbeccaopphaaa.Q
open Go.RowKit Go.Proofs.YtbdbeccaopphaaaW.PrintWords Go.Proofs.YtbdbeccaopphaaaW.PrintLast Go.Proofs.Ytbdbeccaopphaaa.LK Go.Proofs.YtbdbeccaopphaaaW.PrintMore
attribute [local go_sem] max2_int min2_int max_two min_two max_three min_three max_four min_four   -- for this text's walks alone
set_option linter.unusedVariables false
set_option linter.unusedSimpArgs false

/-! ### laws_FnExactDevCrash: function 11 -/
def laws_FnExactDevCrash.f (k : Nat) (l0_0 : List Int) (l0_1 : List (S139)) (a0_2 : Int) (a0_3 : Bool) (l1_0 : List Bool) (a1_1 : Int) (a1_2 : Int) : Option (Bool) := (laws_szDev.f k l0_0 l0_1 a0_2 a0_3 1048576).bind fun t103 => (if t103 < 0 then (some true) else ((laws_szCrash.f l1_0 a1_1 a1_2 t103).bind fun t104 => (if t104 < 0 then (some true) else ((laws_toDev.f k l0_0 l0_1 a0_2 a0_3).bind fun bt105 => ((laws_toCrash.f k l1_0 a1_1 a1_2).bind fun bt113 => ((spec_DevCrash.f k bt105.1 bt105.2.1 bt105.2.2.1 bt105.2.2.2 bt113.1 bt113.2.1 bt113.2.2).bind fun bt118 => ((laws_toDev.f k l0_0 l0_1 a0_2 a0_3).bind fun bt127 => ((laws_toCrash.f k l1_0 a1_1 a1_2).bind fun bt136 => ((impl_DevCrash.f bt127.1 bt127.2.1 bt127.2.2.1 bt127.2.2.2 bt136.1 bt136.2.1 bt136.2.2).bind fun bt142 => ((laws_eqDev.f k bt142.1 bt142.2.1 bt142.2.2.1 bt142.2.2.2 bt118.1 bt118.2.1 bt118.2.2.1 bt118.2.2.2).bind fun t151 => (if t151 = true then ((laws_toDev.f k l0_0 l0_1 a0_2 a0_3).bind fun bt152 => ((laws_eqDev.f k bt127.1 bt127.2.1 bt127.2.2.1 bt127.2.2.2 bt152.1 bt152.2.1 bt152.2.2.1 bt152.2.2.2).bind fun t160 => (if t160 = true then ((laws_toCrash.f k l1_0 a1_1 a1_2).bind fun bt161 => ((laws_eqCrash.f k bt136.1 bt136.2.1 bt136.2.2 bt161.1 bt161.2.1 bt161.2.2).bind fun t166 => (if t166 = true then ((laws_markDev.f k bt127.1 bt127.2.1 bt127.2.2.1 bt127.2.2.2 1).bind fun bt167 => ((laws_markCrash.f k bt136.1 bt136.2.1 bt136.2.2 bt167.1).bind fun bt170 => (if bt170.1 < 0 then (some false) else ((laws_eqDev.f k bt142.1 bt142.2.1 bt142.2.2.1 bt142.2.2.2 bt118.1 bt118.2.1 bt118.2.2.1 bt118.2.2.2).bind fun t172 => (if t172 = true then ((laws_markDev.f k bt142.1 bt142.2.1 bt142.2.2.1 bt142.2.2.2 1).bind fun bt173 => ((laws_heldDev.f k bt173.2.1 bt173.2.2 bt142.2.2.1 bt142.2.2.2 1).bind fun t176 => (if t176 < 0 then (some false) else (if t176 = bt173.1 then ((laws_toDev.f k l0_0 l0_1 a0_2 a0_3).bind fun bt177 => ((laws_toCrash.f k l1_0 a1_1 a1_2).bind fun bt185 => ((impl_DevCrash.f bt177.1 bt177.2.1 bt177.2.2.1 bt177.2.2.2 bt185.1 bt185.2.1 bt185.2.2).bind fun bt190 => ((laws_eqDev.f k bt190.1 bt190.2.1 bt190.2.2.1 bt190.2.2.2 bt118.1 bt118.2.1 bt118.2.2.1 bt118.2.2.2).bind fun t199 => (if t199 = true then (some true) else (some false)))))) else (some false))))) else (some false)))))) else (some false)))) else (some false)))) else (some false))))))))))))
theorem laws_FnExactDevCrash.mono : ∀ a0 a1 a2 a3 a4 a5 a6 k, LeO (laws_FnExactDevCrash.f k a0 a1 a2 a3 a4 a5 a6) (laws_FnExactDevCrash.f (k + 1) a0 a1 a2 a3 a4 a5 a6) := by
  intro a0 a1 a2 a3 a4 a5 a6 k
  unfold laws_FnExactDevCrash.f
  repeat' first
      | (with_reducible exact laws_eqCrash.mono _ _ _ _ _ _ _)
      | (with_reducible exact laws_eqDev.mono _ _ _ _ _ _ _ _ _)
      | (with_reducible exact laws_heldDev.mono _ _ _ _ _ _)
      | (with_reducible exact laws_markCrash.mono _ _ _ _ _)
      | (with_reducible exact laws_markDev.mono _ _ _ _ _ _)
      | (with_reducible exact laws_szDev.mono _ _ _ _ _ _)
      | (with_reducible exact laws_toCrash.mono _ _ _ _)
      | (with_reducible exact laws_toDev.mono _ _ _ _ _)
      | (with_reducible exact spec_DevCrash.mono _ _ _ _ _ _ _ _)
      | (with_reducible exact LeO.refl _)
      | (with_reducible exact LeO.none _)
      | (with_reducible refine LeO.ite ?_ ?_)
      | (with_reducible refine LeO.bind ?_ (fun _ => ?_))
      | exact laws_eqCrash.mono _ _ _ _ _ _ _
      | exact laws_eqDev.mono _ _ _ _ _ _ _ _ _
      | exact laws_heldDev.mono _ _ _ _ _ _
      | exact laws_markCrash.mono _ _ _ _ _
      | exact laws_markDev.mono _ _ _ _ _ _
      | exact laws_szDev.mono _ _ _ _ _ _
      | exact laws_toCrash.mono _ _ _ _
      | exact laws_toDev.mono _ _ _ _ _
      | exact spec_DevCrash.mono _ _ _ _ _ _ _ _
      | exact LeO.none _
      | refine LeO.ite ?_ ?_
      | refine LeO.bind ?_ (fun _ => ?_)
set_option maxHeartbeats 8000000 in
set_option maxRecDepth 100000 in
theorem laws_FnExactDevCrash.calls (k : Nat) (A0_0 : Option Addr) (c0_0 : Nat) (l0_0 : List Int) (A0_1 : Option Addr) (c0_1 : Nat) (l0_1 : List (S139)) (a0_2 : Int) (a0_3 : Bool) (A1_0 : Option Addr) (c1_0 : Nat) (l1_0 : List Bool) (a1_1 : Int) (a1_2 : Int) (w : World) (hr0_0 : Kd.C (Kd.int .u8) w A0_0 l0_0.length l0_0) (hc0_0 : l0_0.length ≤ c0_0) (hr0_1 : Kd.C k139 w A0_1 l0_1.length l0_1) (hc0_1 : l0_1.length ≤ c0_1) (hr1_0 : Kd.C Kd.bool w A1_0 l1_0.length l1_0) (hc1_0 : l1_0.length ≤ c1_0) (h : laws_FnExactDevCrash.f k l0_0 l0_1 a0_2 a0_3 l1_0 a1_1 a1_2 = some true) :
    Calls Try.prog 11 #[.agg #[.slice A0_0 l0_0.length c0_0, .slice A0_1 l0_1.length c0_1, .int .i64 a0_2, .bool a0_3], .agg #[.slice A1_0 l1_0.length c1_0, .int .i64 a1_1, .int .i64 a1_2]] w fun e w' => e = .returned (.bool true) ∧ Below w.heap.size w w' := by
  have hu42 := Try.underlying42
  have hu55 := Try.underlying55
  have hu35 := Try.underlying35
  have hu58 := Try.underlying58
  have HR0_0 := Aside0.mk hr0_0
  have HC0_0 := Aside0.mk hc0_0
  clear hr0_0 hc0_0
  have HR0_1 := Aside0.mk hr0_1
  have HC0_1 := Aside0.mk hc0_1
  clear hr0_1 hc0_1
  have HR1_0 := Aside0.mk hr1_0
  have HC1_0 := Aside0.mk hc1_0
  clear hr1_0 hc1_0
  have HB := Aside0.mk (Below.refl w.heap.size w)
  have H : ((laws_szDev.f k l0_0 l0_1 a0_2 a0_3 1048576).bind fun t103 => (if t103 < 0 then (some true) else ((laws_szCrash.f l1_0 a1_1 a1_2 t103).bind fun t104 => (if t104 < 0 then (some true) else ((laws_toDev.f k l0_0 l0_1 a0_2 a0_3).bind fun bt105 => ((laws_toCrash.f k l1_0 a1_1 a1_2).bind fun bt113 => ((spec_DevCrash.f k bt105.1 bt105.2.1 bt105.2.2.1 bt105.2.2.2 bt113.1 bt113.2.1 bt113.2.2).bind fun bt118 => ((laws_toDev.f k l0_0 l0_1 a0_2 a0_3).bind fun bt127 => ((laws_toCrash.f k l1_0 a1_1 a1_2).bind fun bt136 => ((impl_DevCrash.f bt127.1 bt127.2.1 bt127.2.2.1 bt127.2.2.2 bt136.1 bt136.2.1 bt136.2.2).bind fun bt142 => ((laws_eqDev.f k bt142.1 bt142.2.1 bt142.2.2.1 bt142.2.2.2 bt118.1 bt118.2.1 bt118.2.2.1 bt118.2.2.2).bind fun t151 => (if t151 = true then ((laws_toDev.f k l0_0 l0_1 a0_2 a0_3).bind fun bt152 => ((laws_eqDev.f k bt127.1 bt127.2.1 bt127.2.2.1 bt127.2.2.2 bt152.1 bt152.2.1 bt152.2.2.1 bt152.2.2.2).bind fun t160 => (if t160 = true then ((laws_toCrash.f k l1_0 a1_1 a1_2).bind fun bt161 => ((laws_eqCrash.f k bt136.1 bt136.2.1 bt136.2.2 bt161.1 bt161.2.1 bt161.2.2).bind fun t166 => (if t166 = true then ((laws_markDev.f k bt127.1 bt127.2.1 bt127.2.2.1 bt127.2.2.2 1).bind fun bt167 => ((laws_markCrash.f k bt136.1 bt136.2.1 bt136.2.2 bt167.1).bind fun bt170 => (if bt170.1 < 0 then (some false) else ((laws_eqDev.f k bt142.1 bt142.2.1 bt142.2.2.1 bt142.2.2.2 bt118.1 bt118.2.1 bt118.2.2.1 bt118.2.2.2).bind fun t172 => (if t172 = true then ((laws_markDev.f k bt142.1 bt142.2.1 bt142.2.2.1 bt142.2.2.2 1).bind fun bt173 => ((laws_heldDev.f k bt173.2.1 bt173.2.2 bt142.2.2.1 bt142.2.2.2 1).bind fun t176 => (if t176 < 0 then (some false) else (if t176 = bt173.1 then ((laws_toDev.f k l0_0 l0_1 a0_2 a0_3).bind fun bt177 => ((laws_toCrash.f k l1_0 a1_1 a1_2).bind fun bt185 => ((impl_DevCrash.f bt177.1 bt177.2.1 bt177.2.2.1 bt177.2.2.2 bt185.1 bt185.2.1 bt185.2.2).bind fun bt190 => ((laws_eqDev.f k bt190.1 bt190.2.1 bt190.2.2.1 bt190.2.2.2 bt118.1 bt118.2.1 bt118.2.2.1 bt118.2.2.2).bind fun t199 => (if t199 = true then (some true) else (some false)))))) else (some false))))) else (some false)))))) else (some false)))) else (some false)))) else (some false))))))))))))) = some true := h
  clear h
  replace H := Option.bind_eq_some_iff.mp H
  obtain ⟨t103, A1_, H⟩ := H
  have A1 := Aside0.mk A1_
  clear A1_
  (try dsimp only at H)
  by_cases c2 : t103 < 0
  · rw [if_pos c2] at H
    have c2b0 : decide (t103 < 0) = true := decide_eq_true c2
    clear c2
    clear H
    (try clear HB)
    have H0 := Aside0.mk (Hist.refl w)
    go_enter Try.func11, Try.ntmps11
    go_wp2_with (first | ((with_reducible refine gate_dst (N := 2) rfl ?_); refine mk ?hw (N := 2) ?hd (cs := #[.slice A0_0 l0_0.length c0_0, .slice A0_1 l0_1.length c0_1, .int .i64 a0_2, .bool a0_3]) (t := 42) ?hr ?_; (case hd => rfl); (case hw => rfl); (case hr => first | (go_simp; done) | (go_simp; rfl)); intro g3 hg7 w4 hbox6 hb5; have H8 := Aside0.mk (Hist.step H0.out hb5); clear H0; have B9 := Aside0.mk hbox6; have G10 := Aside0.mk (Nat.le_of_eq hg7.symm); have L11 := Aside0.mk (blk_lt hbox6); clear hb5 hbox6 hg7; refine normL (a' := ?_) ?hn ?_; (case hn => first | (simp only [Act.put, List.setIfInBounds_toArray, List.set_cons_zero, List.set_cons_succ]; rfl) | rfl)) | ((with_reducible refine gate_dst (N := 3) rfl ?_); refine mk ?hw (N := 3) ?hd (cs := #[.slice A1_0 l1_0.length c1_0, .int .i64 a1_1, .int .i64 a1_2]) (t := 55) ?hr ?_; (case hd => rfl); (case hw => rfl); (case hr => first | (go_simp; done) | (go_simp; rfl)); intro g12 hg16 w13 hbox15 hb14; have H17 := Aside0.mk (Hist.step H8.out hb14); clear H8; have B18 := Aside0.mk hbox15; have G19 := Aside0.mk (Nat.le_of_eq hg16.symm); have L20 := Aside0.mk (blk_lt hbox15); clear hb14 hbox15 hg16; refine normL (a' := ?_) ?hn ?_; (case hn => first | (simp only [Act.put, List.setIfInBounds_toArray, List.set_cons_zero, List.set_cons_succ]; rfl) | rfl)) | ((with_reducible refine gate_dst (N := 14) rfl ?_); refine ld ?hw rfl ?hx (blk_fix2 B9.out ⟨G10.out, L11.out⟩ H17.out.fixes.tl.hd) Try.underlying42 rfl (by kernel_rfl) ?_; (case hw => rfl); (case hx => rfl); refine normL (a' := ?_) ?hn ?_; (case hn => first | (simp only [Act.put, List.setIfInBounds_toArray, List.set_cons_zero, List.set_cons_succ]; rfl) | rfl)) | (((with_reducible refine gate_callee (f := 27) rfl ?_)); refine goesW (some 16) rfl ?hw Try.func27 (by kernel_rfl) rfl #[.agg #[.slice A0_0 l0_0.length c0_0, .slice A0_1 l0_1.length c0_1, .int .i64 a0_2, .bool a0_3], .int .i64 1048576] rfl (by (try simp only [List.map_toArray, List.map_cons, List.map_nil]); first | done | rfl | (simp only [List.length_drop, List.length_take]; rfl)) ?_; (case hw => rfl); with_reducible refine (laws_szDev.calls k _ _ l0_0 _ _ l0_1 a0_2 a0_3 1048576 t103 _ ?side1 ?side2 ?side3 ?side4 A1.out).mono ?_; (case side1 => exact Kd.C_below HR0_0.out H17.out.below); (case side2 => exact HC0_0.out); (case side3 => exact Kd.C_below HR0_1.out H17.out.below); (case side4 => exact HC0_1.out); rintro e w21 ⟨rfl, hb22⟩; refine ⟨_, rfl, ?_⟩; have H23 := Aside0.mk (Hist.pass H17.out hb22); clear H17; clear hb22; refine normL (a' := ?_) ?hn ?_; (case hn => first | (simp only [Act.put, List.setIfInBounds_toArray, List.set_cons_zero, List.set_cons_succ]; rfl) | rfl)))
    go_ret
    exact ⟨rfl, by first | exact H23.out.below | exact Drawn0.refl _⟩
  · rw [if_neg c2] at H
    have c2b0 : decide (t103 < 0) = false := decide_eq_false c2
    clear c2
    replace H := Option.bind_eq_some_iff.mp H
    obtain ⟨t104, A24_, H⟩ := H
    have A24 := Aside0.mk A24_
    clear A24_
    (try dsimp only at H)
    by_cases c25 : t104 < 0
    · rw [if_pos c25] at H
      have c25b0 : decide (t104 < 0) = true := decide_eq_true c25
      clear c25
      clear H
      (try clear HB)
      have H0 := Aside0.mk (Hist.refl w)
      go_enter Try.func11, Try.ntmps11
      go_wp2_with (first | ((with_reducible refine gate_dst (N := 2) rfl ?_); refine mk ?hw (N := 2) ?hd (cs := #[.slice A0_0 l0_0.length c0_0, .slice A0_1 l0_1.length c0_1, .int .i64 a0_2, .bool a0_3]) (t := 42) ?hr ?_; (case hd => rfl); (case hw => rfl); (case hr => first | (go_simp; done) | (go_simp; rfl)); intro g26 hg30 w27 hbox29 hb28; have H31 := Aside0.mk (Hist.step H0.out hb28); clear H0; have B32 := Aside0.mk hbox29; have G33 := Aside0.mk (Nat.le_of_eq hg30.symm); have L34 := Aside0.mk (blk_lt hbox29); clear hb28 hbox29 hg30; refine normL (a' := ?_) ?hn ?_; (case hn => first | (simp only [Act.put, List.setIfInBounds_toArray, List.set_cons_zero, List.set_cons_succ]; rfl) | rfl)) | ((with_reducible refine gate_dst (N := 3) rfl ?_); refine mk ?hw (N := 3) ?hd (cs := #[.slice A1_0 l1_0.length c1_0, .int .i64 a1_1, .int .i64 a1_2]) (t := 55) ?hr ?_; (case hd => rfl); (case hw => rfl); (case hr => first | (go_simp; done) | (go_simp; rfl)); intro g35 hg39 w36 hbox38 hb37; have H40 := Aside0.mk (Hist.step H31.out hb37); clear H31; have B41 := Aside0.mk hbox38; have G42 := Aside0.mk (Nat.le_of_eq hg39.symm); have L43 := Aside0.mk (blk_lt hbox38); clear hb37 hbox38 hg39; refine normL (a' := ?_) ?hn ?_; (case hn => first | (simp only [Act.put, List.setIfInBounds_toArray, List.set_cons_zero, List.set_cons_succ]; rfl) | rfl)) | ((with_reducible refine gate_dst (N := 14) rfl ?_); refine ld ?hw rfl ?hx (blk_fix2 B32.out ⟨G33.out, L34.out⟩ H40.out.fixes.tl.hd) Try.underlying42 rfl (by kernel_rfl) ?_; (case hw => rfl); (case hx => rfl); refine normL (a' := ?_) ?hn ?_; (case hn => first | (simp only [Act.put, List.setIfInBounds_toArray, List.set_cons_zero, List.set_cons_succ]; rfl) | rfl)) | (((with_reducible refine gate_callee (f := 27) rfl ?_)); refine goesW (some 16) rfl ?hw Try.func27 (by kernel_rfl) rfl #[.agg #[.slice A0_0 l0_0.length c0_0, .slice A0_1 l0_1.length c0_1, .int .i64 a0_2, .bool a0_3], .int .i64 1048576] rfl (by (try simp only [List.map_toArray, List.map_cons, List.map_nil]); first | done | rfl | (simp only [List.length_drop, List.length_take]; rfl)) ?_; (case hw => rfl); with_reducible refine (laws_szDev.calls k _ _ l0_0 _ _ l0_1 a0_2 a0_3 1048576 t103 _ ?side1 ?side2 ?side3 ?side4 A1.out).mono ?_; (case side1 => exact Kd.C_below HR0_0.out H40.out.below); (case side2 => exact HC0_0.out); (case side3 => exact Kd.C_below HR0_1.out H40.out.below); (case side4 => exact HC0_1.out); rintro e w44 ⟨rfl, hb45⟩; refine ⟨_, rfl, ?_⟩; have H46 := Aside0.mk (Hist.pass H40.out hb45); clear H40; clear hb45; refine normL (a' := ?_) ?hn ?_; (case hn => first | (simp only [Act.put, List.setIfInBounds_toArray, List.set_cons_zero, List.set_cons_succ]; rfl) | rfl)) | ((with_reducible refine gate_dst (N := 19) rfl ?_); refine ld ?hw rfl ?hx (blk_fix2 B41.out ⟨G42.out, L43.out⟩ H46.out.fixes.hd) Try.underlying55 rfl (by kernel_rfl) ?_; (case hw => rfl); (case hx => rfl); refine normL (a' := ?_) ?hn ?_; (case hn => first | (simp only [Act.put, List.setIfInBounds_toArray, List.set_cons_zero, List.set_cons_succ]; rfl) | rfl)) | (((with_reducible refine gate_callee (f := 39) rfl ?_)); refine goesW (some 21) rfl ?hw Try.func39 (by kernel_rfl) rfl #[.agg #[.slice A1_0 l1_0.length c1_0, .int .i64 a1_1, .int .i64 a1_2], .int .i64 t103] rfl (by (try simp only [List.map_toArray, List.map_cons, List.map_nil]); first | done | rfl | (simp only [List.length_drop, List.length_take]; rfl)) ?_; (case hw => rfl); with_reducible refine (laws_szCrash.calls _ _ l1_0 a1_1 a1_2 t103 t104 _ ?side1 ?side2 A24.out).mono ?_; (case side1 => exact Kd.C_below HR1_0.out H46.out.below); (case side2 => exact HC1_0.out); rintro e w47 ⟨rfl, hb48⟩; refine ⟨_, rfl, ?_⟩; have H49 := Aside0.mk (Hist.pass H46.out hb48); clear H46; clear hb48; refine normL (a' := ?_) ?hn ?_; (case hn => first | (simp only [Act.put, List.setIfInBounds_toArray, List.set_cons_zero, List.set_cons_succ]; rfl) | rfl)))
      go_ret
      exact ⟨rfl, by first | exact H49.out.below | exact Drawn0.refl _⟩
    · rw [if_neg c25] at H
      have c25b0 : decide (t104 < 0) = false := decide_eq_false c25
      clear c25
      replace H := Option.bind_eq_some_iff.mp H
      obtain ⟨⟨t105, t108, t111, t112⟩, A50_, H⟩ := H
      have A50 := Aside0.mk A50_
      clear A50_
      (try dsimp only at H)
      replace H := Option.bind_eq_some_iff.mp H
      obtain ⟨⟨t113, t116, t117⟩, A51_, H⟩ := H
      have A51 := Aside0.mk A51_
      clear A51_
      (try dsimp only at H)
      replace H := Option.bind_eq_some_iff.mp H
      obtain ⟨⟨t118, t121, t124, t125⟩, A52_, H⟩ := H
      have A52 := Aside0.mk A52_
      clear A52_
      (try dsimp only at H)
      replace H := Option.bind_eq_some_iff.mp H
      obtain ⟨⟨t127, t130, t133, t134⟩, A53_, H⟩ := H
      have A53 := Aside0.mk A53_
      clear A53_
      (try dsimp only at H)
      replace H := Option.bind_eq_some_iff.mp H
      obtain ⟨⟨t136, t139, t140⟩, A54_, H⟩ := H
      have A54 := Aside0.mk A54_
      clear A54_
      (try dsimp only at H)
      replace H := Option.bind_eq_some_iff.mp H
      obtain ⟨⟨t142, t145, t148, t149⟩, A55_, H⟩ := H
      have A55 := Aside0.mk A55_
      clear A55_
      (try dsimp only at H)
      replace H := Option.bind_eq_some_iff.mp H
      obtain ⟨t151, A56_, H⟩ := H
      have A56 := Aside0.mk A56_
      clear A56_
      (try dsimp only at H)
      by_cases c57 : t151 = true
      · rw [if_pos c57] at H
        subst c57
        replace H := Option.bind_eq_some_iff.mp H
        obtain ⟨⟨t152, t155, t158, t159⟩, A58_, H⟩ := H
        have A58 := Aside0.mk A58_
        clear A58_
        (try dsimp only at H)
        replace H := Option.bind_eq_some_iff.mp H
        obtain ⟨t160, A59_, H⟩ := H
        have A59 := Aside0.mk A59_
        clear A59_
        (try dsimp only at H)
        by_cases c60 : t160 = true
        · rw [if_pos c60] at H
          subst c60
          replace H := Option.bind_eq_some_iff.mp H
          obtain ⟨⟨t161, t164, t165⟩, A61_, H⟩ := H
          have A61 := Aside0.mk A61_
          clear A61_
          (try dsimp only at H)
          replace H := Option.bind_eq_some_iff.mp H
          obtain ⟨t166, A62_, H⟩ := H
          have A62 := Aside0.mk A62_
          clear A62_
          (try dsimp only at H)
          by_cases c63 : t166 = true
          · rw [if_pos c63] at H
            subst c63
            replace H := Option.bind_eq_some_iff.mp H
            obtain ⟨⟨t167, t168, t169⟩, A64_, H⟩ := H
            have A64 := Aside0.mk A64_
            clear A64_
            (try dsimp only at H)
            replace H := Option.bind_eq_some_iff.mp H
            obtain ⟨⟨t170, t171⟩, A65_, H⟩ := H
            have A65 := Aside0.mk A65_
            clear A65_
            (try dsimp only at H)
            by_cases c66 : t170 < 0
            · rw [if_pos c66] at H
              exact absurd H (by simp)
            · rw [if_neg c66] at H
              have c66b0 : decide (t170 < 0) = false := decide_eq_false c66
              clear c66
              replace H := Option.bind_eq_some_iff.mp H
              obtain ⟨t172, A67_, H⟩ := H
              have A67 := Aside0.mk A67_
              clear A67_
              (try dsimp only at H)
              by_cases c68 : t172 = true
              · rw [if_pos c68] at H
                subst c68
                replace H := Option.bind_eq_some_iff.mp H
                obtain ⟨⟨t173, t174, t175⟩, A69_, H⟩ := H
                have A69 := Aside0.mk A69_
                clear A69_
                (try dsimp only at H)
                replace H := Option.bind_eq_some_iff.mp H
                obtain ⟨t176, A70_, H⟩ := H
                have A70 := Aside0.mk A70_
                clear A70_
                (try dsimp only at H)
                by_cases c71 : t176 < 0
                · rw [if_pos c71] at H
                  exact absurd H (by simp)
                · rw [if_neg c71] at H
                  have c71b0 : decide (t176 < 0) = false := decide_eq_false c71
                  clear c71
                  by_cases c72 : t176 = t173
                  · rw [if_pos c72] at H
                    have c72b0 : (t176 == t173) = true := beq_iff_eq.mpr c72
                    have c72b1 : (t176 != t173) = false := bne_eq_false_iff_eq.mpr c72
                    clear c72
                    replace H := Option.bind_eq_some_iff.mp H
                    obtain ⟨⟨t177, t180, t183, t184⟩, A73_, H⟩ := H
                    have A73 := Aside0.mk A73_
                    clear A73_
                    (try dsimp only at H)
                    replace H := Option.bind_eq_some_iff.mp H
                    obtain ⟨⟨t185, t188, t189⟩, A74_, H⟩ := H
                    have A74 := Aside0.mk A74_
                    clear A74_
                    (try dsimp only at H)
                    replace H := Option.bind_eq_some_iff.mp H
                    obtain ⟨⟨t190, t193, t196, t197⟩, A75_, H⟩ := H
                    have A75 := Aside0.mk A75_
                    clear A75_
                    (try dsimp only at H)
                    replace H := Option.bind_eq_some_iff.mp H
                    obtain ⟨t199, A76_, H⟩ := H
                    have A76 := Aside0.mk A76_
                    clear A76_
                    (try dsimp only at H)
                    by_cases c77 : t199 = true
                    · rw [if_pos c77] at H
                      subst c77
                      clear H
                      (try clear HB)
                      have H0 := Aside0.mk (Hist.refl w)
                      go_enter Try.func11, Try.ntmps11
                      go_wp2_with (first | ((with_reducible refine gate_dst (N := 2) rfl ?_); refine mk ?hw (N := 2) ?hd (cs := #[.slice A0_0 l0_0.length c0_0, .slice A0_1 l0_1.length c0_1, .int .i64 a0_2, .bool a0_3]) (t := 42) ?hr ?_; (case hd => rfl); (case hw => rfl); (case hr => first | (go_simp; done) | (go_simp; rfl)); intro g78 hg82 w79 hbox81 hb80; have H83 := Aside0.mk (Hist.step H0.out hb80); clear H0; have B84 := Aside0.mk hbox81; have G85 := Aside0.mk (Nat.le_of_eq hg82.symm); have L86 := Aside0.mk (blk_lt hbox81); clear hb80 hbox81 hg82; refine normL (a' := ?_) ?hn ?_; (case hn => first | (simp only [Act.put, List.setIfInBounds_toArray, List.set_cons_zero, List.set_cons_succ]; rfl) | rfl)) | ((with_reducible refine gate_dst (N := 3) rfl ?_); refine mk ?hw (N := 3) ?hd (cs := #[.slice A1_0 l1_0.length c1_0, .int .i64 a1_1, .int .i64 a1_2]) (t := 55) ?hr ?_; (case hd => rfl); (case hw => rfl); (case hr => first | (go_simp; done) | (go_simp; rfl)); intro g87 hg91 w88 hbox90 hb89; have H92 := Aside0.mk (Hist.step H83.out hb89); clear H83; have B93 := Aside0.mk hbox90; have G94 := Aside0.mk (Nat.le_of_eq hg91.symm); have L95 := Aside0.mk (blk_lt hbox90); clear hb89 hbox90 hg91; refine normL (a' := ?_) ?hn ?_; (case hn => first | (simp only [Act.put, List.setIfInBounds_toArray, List.set_cons_zero, List.set_cons_succ]; rfl) | rfl)) | ((with_reducible refine gate_dst (N := 14) rfl ?_); refine ld ?hw rfl ?hx (blk_fix2 B84.out ⟨G85.out, L86.out⟩ H92.out.fixes.tl.hd) Try.underlying42 rfl (by kernel_rfl) ?_; (case hw => rfl); (case hx => rfl); refine normL (a' := ?_) ?hn ?_; (case hn => first | (simp only [Act.put, List.setIfInBounds_toArray, List.set_cons_zero, List.set_cons_succ]; rfl) | rfl)) | (((with_reducible refine gate_callee (f := 27) rfl ?_)); refine goesW (some 16) rfl ?hw Try.func27 (by kernel_rfl) rfl #[.agg #[.slice A0_0 l0_0.length c0_0, .slice A0_1 l0_1.length c0_1, .int .i64 a0_2, .bool a0_3], .int .i64 1048576] rfl (by (try simp only [List.map_toArray, List.map_cons, List.map_nil]); first | done | rfl | (simp only [List.length_drop, List.length_take]; rfl)) ?_; (case hw => rfl); with_reducible refine (laws_szDev.calls k _ _ l0_0 _ _ l0_1 a0_2 a0_3 1048576 t103 _ ?side1 ?side2 ?side3 ?side4 A1.out).mono ?_; (case side1 => exact Kd.C_below HR0_0.out H92.out.below); (case side2 => exact HC0_0.out); (case side3 => exact Kd.C_below HR0_1.out H92.out.below); (case side4 => exact HC0_1.out); rintro e w96 ⟨rfl, hb97⟩; refine ⟨_, rfl, ?_⟩; have H98 := Aside0.mk (Hist.pass H92.out hb97); clear H92; clear hb97; refine normL (a' := ?_) ?hn ?_; (case hn => first | (simp only [Act.put, List.setIfInBounds_toArray, List.set_cons_zero, List.set_cons_succ]; rfl) | rfl)) | ((with_reducible refine gate_dst (N := 19) rfl ?_); refine ld ?hw rfl ?hx (blk_fix2 B93.out ⟨G94.out, L95.out⟩ H98.out.fixes.hd) Try.underlying55 rfl (by kernel_rfl) ?_; (case hw => rfl); (case hx => rfl); refine normL (a' := ?_) ?hn ?_; (case hn => first | (simp only [Act.put, List.setIfInBounds_toArray, List.set_cons_zero, List.set_cons_succ]; rfl) | rfl)) | (((with_reducible refine gate_callee (f := 39) rfl ?_)); refine goesW (some 21) rfl ?hw Try.func39 (by kernel_rfl) rfl #[.agg #[.slice A1_0 l1_0.length c1_0, .int .i64 a1_1, .int .i64 a1_2], .int .i64 t103] rfl (by (try simp only [List.map_toArray, List.map_cons, List.map_nil]); first | done | rfl | (simp only [List.length_drop, List.length_take]; rfl)) ?_; (case hw => rfl); with_reducible refine (laws_szCrash.calls _ _ l1_0 a1_1 a1_2 t103 t104 _ ?side1 ?side2 A24.out).mono ?_; (case side1 => exact Kd.C_below HR1_0.out H98.out.below); (case side2 => exact HC1_0.out); rintro e w99 ⟨rfl, hb100⟩; refine ⟨_, rfl, ?_⟩; have H101 := Aside0.mk (Hist.pass H98.out hb100); clear H98; clear hb100; refine normL (a' := ?_) ?hn ?_; (case hn => first | (simp only [Act.put, List.setIfInBounds_toArray, List.set_cons_zero, List.set_cons_succ]; rfl) | rfl)))
                      have H102 := Aside0.mk (Hist.drew H101.out)
                      clear H101
                      refine start_ (n := 7) (S := fun w' => w'.heap[g78]? = some (.cells #[.slice A0_0 l0_0.length c0_0, .slice A0_1 l0_1.length c0_1, .int .i64 a0_2, .bool a0_3] 42 (0, 0)) ∧ w'.heap[g87]? = some (.cells #[.slice A1_0 l1_0.length c1_0, .int .i64 a1_1, .int .i64 a1_2] 55 (0, 0))) (ds := []) #[false, false, false, false, false, false, false] (by kernel_rfl) rfl rfl ⟨(blk_fix2 B84.out ⟨G85.out, L86.out⟩ H102.out.fixes.tl.hd), (blk_fix2 B93.out ⟨G94.out, L95.out⟩ H102.out.fixes.hd)⟩ (fun hHeld => ?_)
                      generalize w99.drew = w103 at H102 hHeld ⊢
                      refine take_ (i := 0) (N := some 24) (v := .agg #[.slice A0_0 l0_0.length c0_0, .slice A0_1 l0_1.length c0_1, .int .i64 a0_2, .bool a0_3]) (a' := ?aaq104) #[true, false, false, false, false, false, false] rfl rfl (by kernel_rfl) (fun _ _ _ h => h) (Or.inl ⟨by rfl, ?ylq104⟩) hHeld ?haq104 ?hhq104
                      case ylq104 =>
                        rintro w' ⟨s0, s1⟩
                        exact ld_run (x := .tmp 2) (by rfl) (by rfl) s0 Try.underlying42 rfl (by kernel_rfl)
                      case haq104 =>
                        simp only [Act.put, List.setIfInBounds_toArray, List.set_cons_zero, List.set_cons_succ, i64_w, i32_w]
                        rfl
                      refine take_ (i := 2) (N := some 26) (v := .agg #[.slice A1_0 l1_0.length c1_0, .int .i64 a1_1, .int .i64 a1_2]) (a' := ?aaq105) #[true, false, true, false, false, false, false] rfl rfl (by kernel_rfl) (fun _ _ _ h => h) (Or.inl ⟨by rfl, ?ylq105⟩) hHeld ?haq105 ?hhq105
                      case ylq105 =>
                        rintro w' ⟨s0, s1⟩
                        exact ld_run (x := .tmp 3) (by rfl) (by rfl) s1 Try.underlying55 rfl (by kernel_rfl)
                      case haq105 =>
                        simp only [Act.put, List.setIfInBounds_toArray, List.set_cons_zero, List.set_cons_succ, i64_w, i32_w]
                        rfl
                      have HXB0 := Aside0.mk (blk_fix2 B84.out ⟨G85.out, L86.out⟩ H102.out.fixes.tl.hd)
                      have HXB1 := Aside0.mk (blk_fix2 B93.out ⟨G94.out, L95.out⟩ H102.out.fixes.hd)
                      have HBs := Aside0.mk (Below.refl w103.heap.size w103)
                      have HBw := Aside0.mk H102.out.below
                      refine join_ (σ := Nat × Value × Value × Value × Value × Value) 1 #[true, true, true, true, true, true, false] (fun s_ => [(25, (.agg #[s_.2.1, s_.2.2.1, .int .i64 t111, .bool t112])), (27, (.agg #[s_.2.2.2.1, .int .i64 t116, .int .i64 t117])), (28, (.agg #[s_.2.2.2.2.1, s_.2.2.2.2.2, .int .i64 t124, .bool t125])), (6, .pointer (some ⟨s_.1, 0, none⟩))]) (fun s_ w' => (w'.heap[g78]? = some (.cells #[.slice A0_0 l0_0.length c0_0, .slice A0_1 l0_1.length c0_1, .int .i64 a0_2, .bool a0_3] 42 (0, 0)) ∧ w'.heap[g87]? = some (.cells #[.slice A1_0 l1_0.length c1_0, .int .i64 a1_1, .int .i64 a1_2] 55 (0, 0))) ∧ (Below w103.heap.size w103 w') ∧ (w103.heap.size ≤ s_.1) ∧ (w'.heap[s_.1]? = some (.cells #[.slice none 0 0, .slice none 0 0, .int .i64 0, .bool false] 35 (0, 0))) ∧ (Kd.R (Kd.int .u8) 5 w' w103.heap.size (fun _ => True) s_.2.2.2.2.1 t118) ∧ (Kd.S k101 101 w' w103.heap.size (fun k_ => some k_ ≠ (s_.2.2.2.2.1 : Value).ownBlock) s_.2.2.2.2.2 t121)) ?_ ?_
                      rotate_left
                      · intro hCont
                        refine two_ (i := 1) (j := 5) (Ni := some 25) (Nj := some 6) #[true, true, true, false, false, false, false] #[true, false, true, false, false, true, false] rfl rfl rfl rfl (by kernel_rfl) (by decide) (by decide) (fun K hK => ?_) (fun K hK => ?_)
                        · skip
                          refine goes_ Try.func29 (by kernel_rfl) rfl #[.agg #[.slice A0_0 l0_0.length c0_0, .slice A0_1 l0_1.length c0_1, .int .i64 a0_2, .bool a0_3]] (by rfl) rfl rfl (by (try simp only [List.map_toArray, List.map_cons, List.map_nil]); first | done | rfl | (simp only [List.length_drop, List.length_take]; rfl)) ?_
                          with_reducible refine (laws_toDev.calls k _ _ l0_0 _ _ l0_1 a0_2 a0_3 t105 t108 t111 t112 _ (Kd.C_below HR0_0.out HBw.out) (HC0_0.out) (Kd.C_below HR0_1.out HBw.out) (HC0_1.out) A50.out).mono ?_
                          rintro e wn_ ⟨vr0_, vr1_, rfl, hvr0_, hvr1_, hb_⟩
                          refine ⟨_, rfl, ?_⟩
                          have F108 := Aside0.mk (Kd.R_lower hvr0_ HBs.out.size)
                          have F111 := Aside0.mk (Kd.S_lower hvr1_ HBs.out.size)
                          obtain ⟨Ao106, co107, eo_⟩ := Kd.R_slice F108.out
                          subst eo_
                          obtain ⟨Ao109, co110, eo_⟩ := Kd.S_slice F111.out
                          subst eo_
                          clear hvr0_ hvr1_
                          replace HBs := Aside0.mk (below_step HBs.out hb_)
                          replace HBw := Aside0.mk (below_step HBw.out hb_)
                          clear hb_
                          refine hK.out _ _ ⟨((HBs.out.block _ (blk_lt HXB0.out)).trans HXB0.out), ((HBs.out.block _ (blk_lt HXB1.out)).trans HXB1.out)⟩ (fun hHeld => ?_)
                          clear hK K
                          refine norm_ (a' := ?_) ?_ ?_
                          rotate_left
                          · show Act.put _ (some 25) _ = _
                            simp only [Act.put, List.setIfInBounds_toArray, List.set_cons_zero, List.set_cons_succ, i64_w, i32_w]
                            rfl
                          refine two_ (i := 3) (j := 5) (Ni := some 27) (Nj := some 6) #[true, true, true, true, false, false, false] #[true, true, true, false, false, true, false] rfl rfl rfl rfl (by kernel_rfl) (by decide) (by decide) (fun K hK => ?_) (fun K hK => ?_)
                          · skip
                            refine goes_ Try.func41 (by kernel_rfl) rfl #[.agg #[.slice A1_0 l1_0.length c1_0, .int .i64 a1_1, .int .i64 a1_2]] (by rfl) rfl rfl (by (try simp only [List.map_toArray, List.map_cons, List.map_nil]); first | done | rfl | (simp only [List.length_drop, List.length_take]; rfl)) ?_
                            with_reducible refine (laws_toCrash.calls k _ _ l1_0 a1_1 a1_2 t113 t116 t117 _ (Kd.C_below HR1_0.out HBw.out) (HC1_0.out) A51.out).mono ?_
                            rintro e wn_ ⟨vr2_, rfl, hvr2_, hb_⟩
                            refine ⟨_, rfl, ?_⟩
                            have F114 := Aside0.mk (Kd.R_lower hvr2_ HBs.out.size)
                            obtain ⟨Ao112, co113, eo_⟩ := Kd.R_slice F114.out
                            subst eo_
                            clear hvr2_
                            replace F108 := Aside0.mk (Kd.R_below F108.out hb_)
                            replace F111 := Aside0.mk (Kd.S_below F111.out hb_)
                            replace HBs := Aside0.mk (below_step HBs.out hb_)
                            replace HBw := Aside0.mk (below_step HBw.out hb_)
                            clear hb_
                            refine hK.out _ _ ⟨((HBs.out.block _ (blk_lt HXB0.out)).trans HXB0.out), ((HBs.out.block _ (blk_lt HXB1.out)).trans HXB1.out)⟩ (fun hHeld => ?_)
                            clear hK K
                            refine norm_ (a' := ?_) ?_ ?_
                            rotate_left
                            · show Act.put _ (some 27) _ = _
                              simp only [Act.put, List.setIfInBounds_toArray, List.set_cons_zero, List.set_cons_succ, i64_w, i32_w]
                              rfl
                            refine two_ (i := 4) (j := 5) (Ni := some 28) (Nj := some 6) #[true, true, true, true, true, false, false] #[true, true, true, true, false, true, false] rfl rfl rfl rfl (by kernel_rfl) (by decide) (by decide) (fun K hK => ?_) (fun K hK => ?_)
                            · skip
                              refine goes_ Try.func40 (by kernel_rfl) rfl #[.agg #[.slice Ao106 t105.length co107, .slice Ao109 t108.length co110, .int .i64 t111, .bool t112], .agg #[.slice Ao112 t113.length co113, .int .i64 t116, .int .i64 t117]] (by rfl) rfl rfl (by (try simp only [List.map_toArray, List.map_cons, List.map_nil]); first | done | rfl | (simp only [List.length_drop, List.length_take]; rfl)) ?_
                              with_reducible refine (spec_DevCrash.calls k _ _ t105 _ _ t108 t111 t112 _ _ t113 t116 t117 t118 t121 t124 t125 _ ((Kd.R_reads' F108.out).2.2) (R_capn F108.out) ((Kd.S_reads' F111.out).2.2) (S_capn F111.out) ((Kd.R_reads' F114.out).2.2) (R_capn F114.out) A52.out).mono ?_
                              rintro e wn_ ⟨vr3_, vr4_, rfl, hvr3_, hvr4_, hb_⟩
                              refine ⟨_, rfl, ?_⟩
                              have F117 := Aside0.mk (Kd.R_lower hvr3_ HBs.out.size)
                              have F120 := Aside0.mk (Kd.S_lower hvr4_ HBs.out.size)
                              obtain ⟨Ao115, co116, eo_⟩ := Kd.R_slice F117.out
                              subst eo_
                              obtain ⟨Ao118, co119, eo_⟩ := Kd.S_slice F120.out
                              subst eo_
                              clear hvr3_ hvr4_
                              replace F108 := Aside0.mk (Kd.R_below F108.out hb_)
                              replace F111 := Aside0.mk (Kd.S_below F111.out hb_)
                              replace F114 := Aside0.mk (Kd.R_below F114.out hb_)
                              replace HBs := Aside0.mk (below_step HBs.out hb_)
                              replace HBw := Aside0.mk (below_step HBw.out hb_)
                              clear hb_
                              refine hK.out _ _ ⟨((HBs.out.block _ (blk_lt HXB0.out)).trans HXB0.out), ((HBs.out.block _ (blk_lt HXB1.out)).trans HXB1.out)⟩ (fun hHeld => ?_)
                              clear hK K
                              refine norm_ (a' := ?_) ?_ ?_
                              rotate_left
                              · show Act.put _ (some 28) _ = _
                                simp only [Act.put, List.setIfInBounds_toArray, List.set_cons_zero, List.set_cons_succ, i64_w, i32_w]
                                rfl
                              refine one_ (i := 5) (N := some 6) #[true, true, true, true, true, true, false] rfl rfl (by kernel_rfl) (by decide) (fun K hK => ?_)
                              refine box_step ?hg (N := 6) ?hd (cs := #[.slice none 0 0, .slice none 0 0, .int .i64 0, .bool false]) (t := 35) ?hr ?_; (case hd => rfl); (case hg => rfl); (case hr => first | (go_simp; done) | (go_simp; rfl))
                              intro gn_ hg_ wn_ hbox_ hb_
                              have HGn := Aside0.mk (show w103.heap.size ≤ gn_ from by rw [hg_]; exact HBs.out.size)
                              have HBox := Aside0.mk hbox_
                              replace F108 := Aside0.mk (Kd.R_below F108.out hb_)
                              replace F111 := Aside0.mk (Kd.S_below F111.out hb_)
                              replace F114 := Aside0.mk (Kd.R_below F114.out hb_)
                              replace F117 := Aside0.mk (Kd.R_below F117.out hb_)
                              replace F120 := Aside0.mk (Kd.S_below F120.out hb_)
                              replace HBs := Aside0.mk (below_step HBs.out hb_)
                              replace HBw := Aside0.mk (below_step HBw.out hb_)
                              clear hg_ hbox_ hb_
                              refine hK.out _ _ ⟨((HBs.out.block _ (blk_lt HXB0.out)).trans HXB0.out), ((HBs.out.block _ (blk_lt HXB1.out)).trans HXB1.out)⟩ (fun hHeld => ?_)
                              clear hK K
                              refine norm_ (a' := ?_) ?_ ?_
                              rotate_left
                              · show Act.put _ (some 6) _ = _
                                simp only [Act.put, List.setIfInBounds_toArray, List.set_cons_zero, List.set_cons_succ, i64_w, i32_w]
                                rfl
                              exact norm_ (by simp only [putAll, Act.put, List.setIfInBounds_toArray, List.set_cons_zero, List.set_cons_succ]) (hCont (gn_, .slice Ao106 t105.length co107, .slice Ao109 t108.length co110, .slice Ao112 t113.length co113, .slice Ao115 t118.length co116, .slice Ao118 t121.length co119) _ ⟨hHeld, HBs.out, HGn.out, HBox.out, F117.out, F120.out⟩)
                            · skip
                              refine box_step ?hg (N := 6) ?hd (cs := #[.slice none 0 0, .slice none 0 0, .int .i64 0, .bool false]) (t := 35) ?hr ?_; (case hd => rfl); (case hg => rfl); (case hr => first | (go_simp; done) | (go_simp; rfl))
                              intro gn_ hg_ wn_ hbox_ hb_
                              have HGn := Aside0.mk (show w103.heap.size ≤ gn_ from by rw [hg_]; exact HBs.out.size)
                              have HBox := Aside0.mk hbox_
                              replace F108 := Aside0.mk (Kd.R_below F108.out hb_)
                              replace F111 := Aside0.mk (Kd.S_below F111.out hb_)
                              replace F114 := Aside0.mk (Kd.R_below F114.out hb_)
                              replace HBs := Aside0.mk (below_step HBs.out hb_)
                              replace HBw := Aside0.mk (below_step HBw.out hb_)
                              clear hg_ hbox_ hb_
                              refine hK.out _ _ ⟨((HBs.out.block _ (blk_lt HXB0.out)).trans HXB0.out), ((HBs.out.block _ (blk_lt HXB1.out)).trans HXB1.out)⟩ (fun hHeld => ?_)
                              clear hK K
                              refine norm_ (a' := ?_) ?_ ?_
                              rotate_left
                              · show Act.put _ (some 6) _ = _
                                simp only [Act.put, List.setIfInBounds_toArray, List.set_cons_zero, List.set_cons_succ, i64_w, i32_w]
                                rfl
                              refine one_ (i := 4) (N := some 28) #[true, true, true, true, true, true, false] rfl rfl (by kernel_rfl) (by decide) (fun K hK => ?_)
                              refine goes_ Try.func40 (by kernel_rfl) rfl #[.agg #[.slice Ao106 t105.length co107, .slice Ao109 t108.length co110, .int .i64 t111, .bool t112], .agg #[.slice Ao112 t113.length co113, .int .i64 t116, .int .i64 t117]] (by rfl) rfl rfl (by (try simp only [List.map_toArray, List.map_cons, List.map_nil]); first | done | rfl | (simp only [List.length_drop, List.length_take]; rfl)) ?_
                              with_reducible refine (spec_DevCrash.calls k _ _ t105 _ _ t108 t111 t112 _ _ t113 t116 t117 t118 t121 t124 t125 _ ((Kd.R_reads' F108.out).2.2) (R_capn F108.out) ((Kd.S_reads' F111.out).2.2) (S_capn F111.out) ((Kd.R_reads' F114.out).2.2) (R_capn F114.out) A52.out).mono ?_
                              rintro e wn_ ⟨vr3_, vr4_, rfl, hvr3_, hvr4_, hb_⟩
                              refine ⟨_, rfl, ?_⟩
                              have F117 := Aside0.mk (Kd.R_lower hvr3_ HBs.out.size)
                              have F120 := Aside0.mk (Kd.S_lower hvr4_ HBs.out.size)
                              obtain ⟨Ao115, co116, eo_⟩ := Kd.R_slice F117.out
                              subst eo_
                              obtain ⟨Ao118, co119, eo_⟩ := Kd.S_slice F120.out
                              subst eo_
                              clear hvr3_ hvr4_
                              replace HBox := Aside0.mk ((hb_.block _ (blk_lt HBox.out)).trans HBox.out)
                              replace F108 := Aside0.mk (Kd.R_below F108.out hb_)
                              replace F111 := Aside0.mk (Kd.S_below F111.out hb_)
                              replace F114 := Aside0.mk (Kd.R_below F114.out hb_)
                              replace HBs := Aside0.mk (below_step HBs.out hb_)
                              replace HBw := Aside0.mk (below_step HBw.out hb_)
                              clear hb_
                              refine hK.out _ _ ⟨((HBs.out.block _ (blk_lt HXB0.out)).trans HXB0.out), ((HBs.out.block _ (blk_lt HXB1.out)).trans HXB1.out)⟩ (fun hHeld => ?_)
                              clear hK K
                              refine norm_ (a' := ?_) ?_ ?_
                              rotate_left
                              · show Act.put _ (some 28) _ = _
                                simp only [Act.put, List.setIfInBounds_toArray, List.set_cons_zero, List.set_cons_succ, i64_w, i32_w]
                                rfl
                              exact norm_ (by simp only [putAll, Act.put, List.setIfInBounds_toArray, List.set_cons_zero, List.set_cons_succ]) (hCont (gn_, .slice Ao106 t105.length co107, .slice Ao109 t108.length co110, .slice Ao112 t113.length co113, .slice Ao115 t118.length co116, .slice Ao118 t121.length co119) _ ⟨hHeld, HBs.out, HGn.out, HBox.out, F117.out, F120.out⟩)
                          · skip
                            refine box_step ?hg (N := 6) ?hd (cs := #[.slice none 0 0, .slice none 0 0, .int .i64 0, .bool false]) (t := 35) ?hr ?_; (case hd => rfl); (case hg => rfl); (case hr => first | (go_simp; done) | (go_simp; rfl))
                            intro gn_ hg_ wn_ hbox_ hb_
                            have HGn := Aside0.mk (show w103.heap.size ≤ gn_ from by rw [hg_]; exact HBs.out.size)
                            have HBox := Aside0.mk hbox_
                            replace F108 := Aside0.mk (Kd.R_below F108.out hb_)
                            replace F111 := Aside0.mk (Kd.S_below F111.out hb_)
                            replace HBs := Aside0.mk (below_step HBs.out hb_)
                            replace HBw := Aside0.mk (below_step HBw.out hb_)
                            clear hg_ hbox_ hb_
                            refine hK.out _ _ ⟨((HBs.out.block _ (blk_lt HXB0.out)).trans HXB0.out), ((HBs.out.block _ (blk_lt HXB1.out)).trans HXB1.out)⟩ (fun hHeld => ?_)
                            clear hK K
                            refine norm_ (a' := ?_) ?_ ?_
                            rotate_left
                            · show Act.put _ (some 6) _ = _
                              simp only [Act.put, List.setIfInBounds_toArray, List.set_cons_zero, List.set_cons_succ, i64_w, i32_w]
                              rfl
                            refine one_ (i := 3) (N := some 27) #[true, true, true, true, false, true, false] rfl rfl (by kernel_rfl) (by decide) (fun K hK => ?_)
                            refine goes_ Try.func41 (by kernel_rfl) rfl #[.agg #[.slice A1_0 l1_0.length c1_0, .int .i64 a1_1, .int .i64 a1_2]] (by rfl) rfl rfl (by (try simp only [List.map_toArray, List.map_cons, List.map_nil]); first | done | rfl | (simp only [List.length_drop, List.length_take]; rfl)) ?_
                            with_reducible refine (laws_toCrash.calls k _ _ l1_0 a1_1 a1_2 t113 t116 t117 _ (Kd.C_below HR1_0.out HBw.out) (HC1_0.out) A51.out).mono ?_
                            rintro e wn_ ⟨vr2_, rfl, hvr2_, hb_⟩
                            refine ⟨_, rfl, ?_⟩
                            have F114 := Aside0.mk (Kd.R_lower hvr2_ HBs.out.size)
                            obtain ⟨Ao112, co113, eo_⟩ := Kd.R_slice F114.out
                            subst eo_
                            clear hvr2_
                            replace HBox := Aside0.mk ((hb_.block _ (blk_lt HBox.out)).trans HBox.out)
                            replace F108 := Aside0.mk (Kd.R_below F108.out hb_)
                            replace F111 := Aside0.mk (Kd.S_below F111.out hb_)
                            replace HBs := Aside0.mk (below_step HBs.out hb_)
                            replace HBw := Aside0.mk (below_step HBw.out hb_)
                            clear hb_
                            refine hK.out _ _ ⟨((HBs.out.block _ (blk_lt HXB0.out)).trans HXB0.out), ((HBs.out.block _ (blk_lt HXB1.out)).trans HXB1.out)⟩ (fun hHeld => ?_)
                            clear hK K
                            refine norm_ (a' := ?_) ?_ ?_
                            rotate_left
                            · show Act.put _ (some 27) _ = _
                              simp only [Act.put, List.setIfInBounds_toArray, List.set_cons_zero, List.set_cons_succ, i64_w, i32_w]
                              rfl
                            refine one_ (i := 4) (N := some 28) #[true, true, true, true, true, true, false] rfl rfl (by kernel_rfl) (by decide) (fun K hK => ?_)
                            refine goes_ Try.func40 (by kernel_rfl) rfl #[.agg #[.slice Ao106 t105.length co107, .slice Ao109 t108.length co110, .int .i64 t111, .bool t112], .agg #[.slice Ao112 t113.length co113, .int .i64 t116, .int .i64 t117]] (by rfl) rfl rfl (by (try simp only [List.map_toArray, List.map_cons, List.map_nil]); first | done | rfl | (simp only [List.length_drop, List.length_take]; rfl)) ?_
                            with_reducible refine (spec_DevCrash.calls k _ _ t105 _ _ t108 t111 t112 _ _ t113 t116 t117 t118 t121 t124 t125 _ ((Kd.R_reads' F108.out).2.2) (R_capn F108.out) ((Kd.S_reads' F111.out).2.2) (S_capn F111.out) ((Kd.R_reads' F114.out).2.2) (R_capn F114.out) A52.out).mono ?_
                            rintro e wn_ ⟨vr3_, vr4_, rfl, hvr3_, hvr4_, hb_⟩
                            refine ⟨_, rfl, ?_⟩
                            have F117 := Aside0.mk (Kd.R_lower hvr3_ HBs.out.size)
                            have F120 := Aside0.mk (Kd.S_lower hvr4_ HBs.out.size)
                            obtain ⟨Ao115, co116, eo_⟩ := Kd.R_slice F117.out
                            subst eo_
                            obtain ⟨Ao118, co119, eo_⟩ := Kd.S_slice F120.out
                            subst eo_
                            clear hvr3_ hvr4_
                            replace HBox := Aside0.mk ((hb_.block _ (blk_lt HBox.out)).trans HBox.out)
                            replace F108 := Aside0.mk (Kd.R_below F108.out hb_)
                            replace F111 := Aside0.mk (Kd.S_below F111.out hb_)
                            replace F114 := Aside0.mk (Kd.R_below F114.out hb_)
                            replace HBs := Aside0.mk (below_step HBs.out hb_)
                            replace HBw := Aside0.mk (below_step HBw.out hb_)
                            clear hb_
                            refine hK.out _ _ ⟨((HBs.out.block _ (blk_lt HXB0.out)).trans HXB0.out), ((HBs.out.block _ (blk_lt HXB1.out)).trans HXB1.out)⟩ (fun hHeld => ?_)
                            clear hK K
                            refine norm_ (a' := ?_) ?_ ?_
                            rotate_left
                            · show Act.put _ (some 28) _ = _
                              simp only [Act.put, List.setIfInBounds_toArray, List.set_cons_zero, List.set_cons_succ, i64_w, i32_w]
                              rfl
                            exact norm_ (by simp only [putAll, Act.put, List.setIfInBounds_toArray, List.set_cons_zero, List.set_cons_succ]) (hCont (gn_, .slice Ao106 t105.length co107, .slice Ao109 t108.length co110, .slice Ao112 t113.length co113, .slice Ao115 t118.length co116, .slice Ao118 t121.length co119) _ ⟨hHeld, HBs.out, HGn.out, HBox.out, F117.out, F120.out⟩)
                        · skip
                          refine box_step ?hg (N := 6) ?hd (cs := #[.slice none 0 0, .slice none 0 0, .int .i64 0, .bool false]) (t := 35) ?hr ?_; (case hd => rfl); (case hg => rfl); (case hr => first | (go_simp; done) | (go_simp; rfl))
                          intro gn_ hg_ wn_ hbox_ hb_
                          have HGn := Aside0.mk (show w103.heap.size ≤ gn_ from by rw [hg_]; exact HBs.out.size)
                          have HBox := Aside0.mk hbox_
                          replace HBs := Aside0.mk (below_step HBs.out hb_)
                          replace HBw := Aside0.mk (below_step HBw.out hb_)
                          clear hg_ hbox_ hb_
                          refine hK.out _ _ ⟨((HBs.out.block _ (blk_lt HXB0.out)).trans HXB0.out), ((HBs.out.block _ (blk_lt HXB1.out)).trans HXB1.out)⟩ (fun hHeld => ?_)
                          clear hK K
                          refine norm_ (a' := ?_) ?_ ?_
                          rotate_left
                          · show Act.put _ (some 6) _ = _
                            simp only [Act.put, List.setIfInBounds_toArray, List.set_cons_zero, List.set_cons_succ, i64_w, i32_w]
                            rfl
                          refine one_ (i := 1) (N := some 25) #[true, true, true, false, false, true, false] rfl rfl (by kernel_rfl) (by decide) (fun K hK => ?_)
                          refine goes_ Try.func29 (by kernel_rfl) rfl #[.agg #[.slice A0_0 l0_0.length c0_0, .slice A0_1 l0_1.length c0_1, .int .i64 a0_2, .bool a0_3]] (by rfl) rfl rfl (by (try simp only [List.map_toArray, List.map_cons, List.map_nil]); first | done | rfl | (simp only [List.length_drop, List.length_take]; rfl)) ?_
                          with_reducible refine (laws_toDev.calls k _ _ l0_0 _ _ l0_1 a0_2 a0_3 t105 t108 t111 t112 _ (Kd.C_below HR0_0.out HBw.out) (HC0_0.out) (Kd.C_below HR0_1.out HBw.out) (HC0_1.out) A50.out).mono ?_
                          rintro e wn_ ⟨vr0_, vr1_, rfl, hvr0_, hvr1_, hb_⟩
                          refine ⟨_, rfl, ?_⟩
                          have F108 := Aside0.mk (Kd.R_lower hvr0_ HBs.out.size)
                          have F111 := Aside0.mk (Kd.S_lower hvr1_ HBs.out.size)
                          obtain ⟨Ao106, co107, eo_⟩ := Kd.R_slice F108.out
                          subst eo_
                          obtain ⟨Ao109, co110, eo_⟩ := Kd.S_slice F111.out
                          subst eo_
                          clear hvr0_ hvr1_
                          replace HBox := Aside0.mk ((hb_.block _ (blk_lt HBox.out)).trans HBox.out)
                          replace HBs := Aside0.mk (below_step HBs.out hb_)
                          replace HBw := Aside0.mk (below_step HBw.out hb_)
                          clear hb_
                          refine hK.out _ _ ⟨((HBs.out.block _ (blk_lt HXB0.out)).trans HXB0.out), ((HBs.out.block _ (blk_lt HXB1.out)).trans HXB1.out)⟩ (fun hHeld => ?_)
                          clear hK K
                          refine norm_ (a' := ?_) ?_ ?_
                          rotate_left
                          · show Act.put _ (some 25) _ = _
                            simp only [Act.put, List.setIfInBounds_toArray, List.set_cons_zero, List.set_cons_succ, i64_w, i32_w]
                            rfl
                          refine one_ (i := 3) (N := some 27) #[true, true, true, true, false, true, false] rfl rfl (by kernel_rfl) (by decide) (fun K hK => ?_)
                          refine goes_ Try.func41 (by kernel_rfl) rfl #[.agg #[.slice A1_0 l1_0.length c1_0, .int .i64 a1_1, .int .i64 a1_2]] (by rfl) rfl rfl (by (try simp only [List.map_toArray, List.map_cons, List.map_nil]); first | done | rfl | (simp only [List.length_drop, List.length_take]; rfl)) ?_
                          with_reducible refine (laws_toCrash.calls k _ _ l1_0 a1_1 a1_2 t113 t116 t117 _ (Kd.C_below HR1_0.out HBw.out) (HC1_0.out) A51.out).mono ?_
                          rintro e wn_ ⟨vr2_, rfl, hvr2_, hb_⟩
                          refine ⟨_, rfl, ?_⟩
                          have F114 := Aside0.mk (Kd.R_lower hvr2_ HBs.out.size)
                          obtain ⟨Ao112, co113, eo_⟩ := Kd.R_slice F114.out
                          subst eo_
                          clear hvr2_
                          replace HBox := Aside0.mk ((hb_.block _ (blk_lt HBox.out)).trans HBox.out)
                          replace F108 := Aside0.mk (Kd.R_below F108.out hb_)
                          replace F111 := Aside0.mk (Kd.S_below F111.out hb_)
                          replace HBs := Aside0.mk (below_step HBs.out hb_)
                          replace HBw := Aside0.mk (below_step HBw.out hb_)
                          clear hb_
                          refine hK.out _ _ ⟨((HBs.out.block _ (blk_lt HXB0.out)).trans HXB0.out), ((HBs.out.block _ (blk_lt HXB1.out)).trans HXB1.out)⟩ (fun hHeld => ?_)
                          clear hK K
                          refine norm_ (a' := ?_) ?_ ?_
                          rotate_left
                          · show Act.put _ (some 27) _ = _
                            simp only [Act.put, List.setIfInBounds_toArray, List.set_cons_zero, List.set_cons_succ, i64_w, i32_w]
                            rfl
                          refine one_ (i := 4) (N := some 28) #[true, true, true, true, true, true, false] rfl rfl (by kernel_rfl) (by decide) (fun K hK => ?_)
                          refine goes_ Try.func40 (by kernel_rfl) rfl #[.agg #[.slice Ao106 t105.length co107, .slice Ao109 t108.length co110, .int .i64 t111, .bool t112], .agg #[.slice Ao112 t113.length co113, .int .i64 t116, .int .i64 t117]] (by rfl) rfl rfl (by (try simp only [List.map_toArray, List.map_cons, List.map_nil]); first | done | rfl | (simp only [List.length_drop, List.length_take]; rfl)) ?_
                          with_reducible refine (spec_DevCrash.calls k _ _ t105 _ _ t108 t111 t112 _ _ t113 t116 t117 t118 t121 t124 t125 _ ((Kd.R_reads' F108.out).2.2) (R_capn F108.out) ((Kd.S_reads' F111.out).2.2) (S_capn F111.out) ((Kd.R_reads' F114.out).2.2) (R_capn F114.out) A52.out).mono ?_
                          rintro e wn_ ⟨vr3_, vr4_, rfl, hvr3_, hvr4_, hb_⟩
                          refine ⟨_, rfl, ?_⟩
                          have F117 := Aside0.mk (Kd.R_lower hvr3_ HBs.out.size)
                          have F120 := Aside0.mk (Kd.S_lower hvr4_ HBs.out.size)
                          obtain ⟨Ao115, co116, eo_⟩ := Kd.R_slice F117.out
                          subst eo_
                          obtain ⟨Ao118, co119, eo_⟩ := Kd.S_slice F120.out
                          subst eo_
                          clear hvr3_ hvr4_
                          replace HBox := Aside0.mk ((hb_.block _ (blk_lt HBox.out)).trans HBox.out)
                          replace F108 := Aside0.mk (Kd.R_below F108.out hb_)
                          replace F111 := Aside0.mk (Kd.S_below F111.out hb_)
                          replace F114 := Aside0.mk (Kd.R_below F114.out hb_)
                          replace HBs := Aside0.mk (below_step HBs.out hb_)
                          replace HBw := Aside0.mk (below_step HBw.out hb_)
                          clear hb_
                          refine hK.out _ _ ⟨((HBs.out.block _ (blk_lt HXB0.out)).trans HXB0.out), ((HBs.out.block _ (blk_lt HXB1.out)).trans HXB1.out)⟩ (fun hHeld => ?_)
                          clear hK K
                          refine norm_ (a' := ?_) ?_ ?_
                          rotate_left
                          · show Act.put _ (some 28) _ = _
                            simp only [Act.put, List.setIfInBounds_toArray, List.set_cons_zero, List.set_cons_succ, i64_w, i32_w]
                            rfl
                          exact norm_ (by simp only [putAll, Act.put, List.setIfInBounds_toArray, List.set_cons_zero, List.set_cons_succ]) (hCont (gn_, .slice Ao106 t105.length co107, .slice Ao109 t108.length co110, .slice Ao112 t113.length co113, .slice Ao115 t118.length co116, .slice Ao118 t121.length co119) _ ⟨hHeld, HBs.out, HGn.out, HBox.out, F117.out, F120.out⟩)
                      rintro ⟨g121, vr0_, vr1_, vr2_, vr3_, vr4_⟩ w122 ⟨hHeld, hB_, hG_, hbox_, hvr3_, hvr4_⟩
                      obtain ⟨Ao115, co116, eo_⟩ := Kd.R_slice hvr3_
                      subst eo_
                      obtain ⟨Ao118, co119, eo_⟩ := Kd.S_slice hvr4_
                      subst eo_
                      have H123 := Aside0.mk (Hist.step H102.out hB_)
                      clear H102 hB_ HBs HBw HXB0 HXB1
                      refine norm_ (a' := ?_) ?_ ?_
                      rotate_left
                      · simp only [putAll, Act.put, List.setIfInBounds_toArray, List.set_cons_zero, List.set_cons_succ]
                        rfl
                      have G125 := Aside0.mk hG_
                      have L126 := Aside0.mk (blk_lt hbox_)
                      have HBox := Aside0.mk hbox_
                      have F117 := Aside0.mk (Kd.R_mono (Kd.R_bound hvr3_) (fun k_ hk_ => (⟨hk_.1, hk_.2.1, hk_.2.2.1⟩ : _ ∧ w103.heap.size ≤ k_ ∧ k_ < w122.heap.size)))
                      clear hvr3_
                      have F120 := Aside0.mk (Kd.S_mono (Kd.S_bound hvr4_) (fun k_ hk_ => (⟨hk_.1, hk_.2.1, hk_.2.2.1⟩ : _ ∧ w103.heap.size ≤ k_ ∧ k_ < w122.heap.size)))
                      clear hvr4_
                      clear hG_ hbox_
                      refine one_ (i := 6) (N := none) #[true, true, true, true, true, true, true] rfl rfl (by kernel_rfl) (by decide) (fun K hK => ?_)
                      refine st_step (by rfl) rfl rfl ?hp (cs := #[.slice Ao115 t118.length co116, .slice Ao118 t121.length co119, .int .i64 t124, .bool t125]) ?hx HBox.out (by kernel_rfl) rfl (by simp [Value.oneCell']) ?_
                      case hp => rfl
                      case hx => rfl
                      intro w127 hbx_ hs_
                      have n_ := Aside0.mk (R_other F117.out HBox.out (by decide) hs_)
                      clear F117
                      have F117 := n_
                      clear n_
                      have n_ := Aside0.mk (S_other F120.out HBox.out (by decide) hs_)
                      clear F120
                      have F120 := n_
                      clear n_
                      have H128 : Aside0 (Hist w [(w127, w103.heap.size, w122.heap.size), (w88, w79.heap.size, w88.heap.size), (w79, w.heap.size, w79.heap.size)] w127) := ⟨Hist.mark' (w := w122) (b := w103.heap.size) (t := w122.heap.size) (l1 := []) (l2 := [(w88, w79.heap.size, w88.heap.size), (w79, w.heap.size, w79.heap.size)]) (by simp only [List.cons_append, List.nil_append]) (by simp only [List.cons_append, List.nil_append]) H123.out hs_ (fun k_ hk_ => by rw [hk_]; exact ⟨G125.out, L126.out⟩)⟩
                      have B124 := Aside0.mk hbx_
                      clear H123 hs_ hbx_ HBox
                      refine hK.out _ _ ⟨(blk_fix2 B84.out ⟨G85.out, L86.out⟩ H128.out.fixes.tl.tl.hd), (blk_fix2 B93.out ⟨G94.out, L95.out⟩ H128.out.fixes.tl.hd)⟩ (fun hHeld => ?_)
                      clear hK K
                      refine done_ (by kernel_rfl) ?_
                      try dsimp only
                      go_wp2_with (first | ((with_reducible refine gate_dst (N := 29) rfl ?_); refine ld ?hw rfl ?hx (blk_fix2 B84.out ⟨G85.out, L86.out⟩ H128.out.fixes.tl.tl.hd) Try.underlying42 rfl (by kernel_rfl) ?_; (case hw => rfl); (case hx => rfl); refine normL (a' := ?_) ?hn ?_; (case hn => first | (simp only [Act.put, List.setIfInBounds_toArray, List.set_cons_zero, List.set_cons_succ]; rfl) | rfl)) | (((with_reducible refine gate_callee (f := 29) rfl ?_)); refine goesW (some 30) rfl ?hw Try.func29 (by kernel_rfl) rfl #[.agg #[.slice A0_0 l0_0.length c0_0, .slice A0_1 l0_1.length c0_1, .int .i64 a0_2, .bool a0_3]] rfl (by (try simp only [List.map_toArray, List.map_cons, List.map_nil]); first | done | rfl | (simp only [List.length_drop, List.length_take]; rfl)) ?_; (case hw => rfl); with_reducible refine (laws_toDev.calls k _ _ l0_0 _ _ l0_1 a0_2 a0_3 t127 t130 t133 t134 _ ?side1 ?side2 ?side3 ?side4 A53.out).mono ?_; (case side1 => exact Kd.C_below HR0_0.out H128.out.below); (case side2 => exact HC0_0.out); (case side3 => exact Kd.C_below HR0_1.out H128.out.below); (case side4 => exact HC0_1.out); rintro e w129 ⟨v130, v131, rfl, ho132, ho133, hb134⟩; refine ⟨_, rfl, ?_⟩; have H135 := Aside0.mk (Hist.step H128.out hb134); clear H128; clear hb134; have F138 := Aside0.mk ho132; clear ho132; have F142 := Aside0.mk ho133; clear ho133; obtain ⟨Ao136, co137, eo144⟩ := Kd.R_slice F138.out; (first | subst eo144 | (injection eo144 with f1_ f2_ f3_; have f4_ := f1_.symm; have f5_ := f3_.symm; clear f1_ f2_ f3_; subst f4_; subst f5_)); obtain ⟨Ao140, co141, eo145⟩ := Kd.S_slice F142.out; (first | subst eo145 | (injection eo145 with f1_ f2_ f3_; have f4_ := f1_.symm; have f5_ := f3_.symm; clear f1_ f2_ f3_; subst f4_; subst f5_)); refine normL (a' := ?_) ?hn ?_; (case hn => first | (simp only [Act.put, List.setIfInBounds_toArray, List.set_cons_zero, List.set_cons_succ]; rfl) | rfl)) | ((with_reducible refine gate_dst (N := 7) rfl ?_); refine mk ?hw (N := 7) ?hd (cs := #[.slice none 0 0, .slice none 0 0, .int .i64 0, .bool false]) (t := 35) ?hr ?_; (case hd => rfl); (case hw => rfl); (case hr => first | (go_simp; done) | (go_simp; rfl)); intro g146 hg150 w147 hbox149 hb148; have H151 := Aside0.mk (Hist.step H135.out hb148); clear H135; have B152 := Aside0.mk hbox149; have G153 := Aside0.mk (Nat.le_of_eq hg150.symm); have L154 := Aside0.mk (blk_lt hbox149); clear hb148 hbox149 hg150; refine normL (a' := ?_) ?hn ?_; (case hn => first | (simp only [Act.put, List.setIfInBounds_toArray, List.set_cons_zero, List.set_cons_succ]; rfl) | rfl)) | ((with_reducible refine gate_store (t := 35) (p := 7) rfl ?_); refine st_all ?hw ?hN rfl ?hp (cs := #[.slice Ao136 t127.length co137, .slice Ao140 t130.length co141, .int .i64 t133, .bool t134]) ?hx (blk_fix2 B152.out ⟨G153.out, L154.out⟩ H151.out.fixes.hd) (by kernel_rfl) rfl (by simp [Value.oneCell']) ?_; (case hw => rfl); (case hN => rfl); (case hp => rfl); (case hx => rfl); intro w155 hbox156 hs157; have H158 : Aside0 (Hist w [(w155, w129.heap.size, w147.heap.size), (w129, w127.heap.size, w129.heap.size), (w127, w103.heap.size, w122.heap.size), (w88, w79.heap.size, w88.heap.size), (w79, w.heap.size, w79.heap.size)] w155) := ⟨Hist.mark' (w := w147) (b := w129.heap.size) (t := w147.heap.size) (l1 := []) (l2 := [(w129, w127.heap.size, w129.heap.size), (w127, w103.heap.size, w122.heap.size), (w88, w79.heap.size, w88.heap.size), (w79, w.heap.size, w79.heap.size)]) (by simp only [List.cons_append, List.nil_append]) (by simp only [List.cons_append, List.nil_append]) H151.out hs157 (fun k_ hk_ => by rw [hk_]; exact ⟨G153.out, L154.out⟩)⟩; have B152n := Aside0.mk hbox156; clear hs157 hbox156 H151 B152; have B152 := B152n; clear B152n) | ((with_reducible refine gate_dst (N := 31) rfl ?_); refine ld ?hw rfl ?hx (blk_fix2 B93.out ⟨G94.out, L95.out⟩ H158.out.fixes.tl.tl.tl.hd) Try.underlying55 rfl (by kernel_rfl) ?_; (case hw => rfl); (case hx => rfl); refine normL (a' := ?_) ?hn ?_; (case hn => first | (simp only [Act.put, List.setIfInBounds_toArray, List.set_cons_zero, List.set_cons_succ]; rfl) | rfl)) | (((with_reducible refine gate_callee (f := 41) rfl ?_)); refine goesW (some 32) rfl ?hw Try.func41 (by kernel_rfl) rfl #[.agg #[.slice A1_0 l1_0.length c1_0, .int .i64 a1_1, .int .i64 a1_2]] rfl (by (try simp only [List.map_toArray, List.map_cons, List.map_nil]); first | done | rfl | (simp only [List.length_drop, List.length_take]; rfl)) ?_; (case hw => rfl); with_reducible refine (laws_toCrash.calls k _ _ l1_0 a1_1 a1_2 t136 t139 t140 _ ?side1 ?side2 A54.out).mono ?_; (case side1 => exact Kd.C_below HR1_0.out H158.out.below); (case side2 => exact HC1_0.out); rintro e w159 ⟨v160, rfl, ho161, hb162⟩; refine ⟨_, rfl, ?_⟩; have H163 := Aside0.mk (Hist.step H158.out hb162); clear H158; clear hb162; have F166 := Aside0.mk ho161; clear ho161; obtain ⟨Ao164, co165, eo168⟩ := Kd.R_slice F166.out; (first | subst eo168 | (injection eo168 with f1_ f2_ f3_; have f4_ := f1_.symm; have f5_ := f3_.symm; clear f1_ f2_ f3_; subst f4_; subst f5_)); refine normL (a' := ?_) ?hn ?_; (case hn => first | (simp only [Act.put, List.setIfInBounds_toArray, List.set_cons_zero, List.set_cons_succ]; rfl) | rfl)) | ((with_reducible refine gate_dst (N := 8) rfl ?_); refine mk ?hw (N := 8) ?hd (cs := #[.slice none 0 0, .int .i64 0, .int .i64 0]) (t := 58) ?hr ?_; (case hd => rfl); (case hw => rfl); (case hr => first | (go_simp; done) | (go_simp; rfl)); intro g169 hg173 w170 hbox172 hb171; have H174 := Aside0.mk (Hist.step H163.out hb171); clear H163; have B175 := Aside0.mk hbox172; have G176 := Aside0.mk (Nat.le_of_eq hg173.symm); have L177 := Aside0.mk (blk_lt hbox172); clear hb171 hbox172 hg173; refine normL (a' := ?_) ?hn ?_; (case hn => first | (simp only [Act.put, List.setIfInBounds_toArray, List.set_cons_zero, List.set_cons_succ]; rfl) | rfl)) | ((with_reducible refine gate_store (t := 58) (p := 8) rfl ?_); refine st_all ?hw ?hN rfl ?hp (cs := #[.slice Ao164 t136.length co165, .int .i64 t139, .int .i64 t140]) ?hx (blk_fix2 B175.out ⟨G176.out, L177.out⟩ H174.out.fixes.hd) (by kernel_rfl) rfl (by simp [Value.oneCell']) ?_; (case hw => rfl); (case hN => rfl); (case hp => rfl); (case hx => rfl); intro w178 hbox179 hs180; have H181 : Aside0 (Hist w [(w178, w159.heap.size, w170.heap.size), (w159, w155.heap.size, w159.heap.size), (w155, w129.heap.size, w147.heap.size), (w129, w127.heap.size, w129.heap.size), (w127, w103.heap.size, w122.heap.size), (w88, w79.heap.size, w88.heap.size), (w79, w.heap.size, w79.heap.size)] w178) := ⟨Hist.mark' (w := w170) (b := w159.heap.size) (t := w170.heap.size) (l1 := []) (l2 := [(w159, w155.heap.size, w159.heap.size), (w155, w129.heap.size, w147.heap.size), (w129, w127.heap.size, w129.heap.size), (w127, w103.heap.size, w122.heap.size), (w88, w79.heap.size, w88.heap.size), (w79, w.heap.size, w79.heap.size)]) (by simp only [List.cons_append, List.nil_append]) (by simp only [List.cons_append, List.nil_append]) H174.out hs180 (fun k_ hk_ => by rw [hk_]; exact ⟨G176.out, L177.out⟩)⟩; have B175n := Aside0.mk hbox179; clear hs180 hbox179 H174 B175; have B175 := B175n; clear B175n) | ((with_reducible refine gate_dst (N := 33) rfl ?_); refine ld ?hw rfl ?hx (blk_fix2 B152.out ⟨G153.out, L154.out⟩ H181.out.fixes.tl.tl.hd) Try.underlying35 rfl (by kernel_rfl) ?_; (case hw => rfl); (case hx => rfl); refine normL (a' := ?_) ?hn ?_; (case hn => first | (simp only [Act.put, List.setIfInBounds_toArray, List.set_cons_zero, List.set_cons_succ]; rfl) | rfl)) | ((with_reducible refine gate_dst (N := 34) rfl ?_); refine ld ?hw rfl ?hx (blk_fix2 B175.out ⟨G176.out, L177.out⟩ H181.out.fixes.hd) Try.underlying58 rfl (by kernel_rfl) ?_; (case hw => rfl); (case hx => rfl); refine normL (a' := ?_) ?hn ?_; (case hn => first | (simp only [Act.put, List.setIfInBounds_toArray, List.set_cons_zero, List.set_cons_succ]; rfl) | rfl)) | (((with_reducible refine gate_callee (f := 42) rfl ?_)); refine goesW (some 35) rfl ?hw Try.func42 (by kernel_rfl) rfl #[.agg #[.slice Ao136 t127.length co137, .slice Ao140 t130.length co141, .int .i64 t133, .bool t134], .agg #[.slice Ao164 t136.length co165, .int .i64 t139, .int .i64 t140]] rfl (by (try simp only [List.map_toArray, List.map_cons, List.map_nil]); first | done | rfl | (simp only [List.length_drop, List.length_take]; rfl)) ?_; (case hw => rfl); with_reducible refine (impl_DevCrash.calls _ _ t127 _ _ t130 t133 t134 _ _ t136 t139 t140 t142 t145 t148 t149 _ ?side1 ?side2 ?side3 ?side4 ?side5 ?side6 A55.out).mono ?_; (case side1 => exact (Kd.R_reads' (R_fix F138.out H181.out.fixes.tl.tl.tl.hd)).2.2); (case side2 => exact R_capn (R_fix F138.out H181.out.fixes.tl.tl.tl.hd)); (case side3 => exact (Kd.S_reads' (S_fix F142.out H181.out.fixes.tl.tl.tl.hd)).2.2); (case side4 => exact S_capn (S_fix F142.out H181.out.fixes.tl.tl.tl.hd)); (case side5 => exact (Kd.R_reads' (R_fix F166.out H181.out.fixes.tl.hd)).2.2); (case side6 => exact R_capn (R_fix F166.out H181.out.fixes.tl.hd)); rintro e w182 ⟨v183, v184, rfl, ho185, ho186, hb187⟩; refine ⟨_, rfl, ?_⟩; have H188 := Aside0.mk (Hist.step H181.out hb187); clear H181; clear hb187; have F191 := Aside0.mk ho185; clear ho185; have F195 := Aside0.mk ho186; clear ho186; obtain ⟨Ao189, co190, eo197⟩ := Kd.R_slice F191.out; (first | subst eo197 | (injection eo197 with f1_ f2_ f3_; have f4_ := f1_.symm; have f5_ := f3_.symm; clear f1_ f2_ f3_; subst f4_; subst f5_)); obtain ⟨Ao193, co194, eo198⟩ := Kd.S_slice F195.out; (first | subst eo198 | (injection eo198 with f1_ f2_ f3_; have f4_ := f1_.symm; have f5_ := f3_.symm; clear f1_ f2_ f3_; subst f4_; subst f5_)); refine normL (a' := ?_) ?hn ?_; (case hn => first | (simp only [Act.put, List.setIfInBounds_toArray, List.set_cons_zero, List.set_cons_succ]; rfl) | rfl)) | ((with_reducible refine gate_dst (N := 9) rfl ?_); refine mk ?hw (N := 9) ?hd (cs := #[.slice none 0 0, .slice none 0 0, .int .i64 0, .bool false]) (t := 35) ?hr ?_; (case hd => rfl); (case hw => rfl); (case hr => first | (go_simp; done) | (go_simp; rfl)); intro g199 hg203 w200 hbox202 hb201; have H204 := Aside0.mk (Hist.step H188.out hb201); clear H188; have B205 := Aside0.mk hbox202; have G206 := Aside0.mk (Nat.le_of_eq hg203.symm); have L207 := Aside0.mk (blk_lt hbox202); clear hb201 hbox202 hg203; refine normL (a' := ?_) ?hn ?_; (case hn => first | (simp only [Act.put, List.setIfInBounds_toArray, List.set_cons_zero, List.set_cons_succ]; rfl) | rfl)) | ((with_reducible refine gate_store (t := 35) (p := 9) rfl ?_); refine st_all ?hw ?hN rfl ?hp (cs := #[.slice Ao189 t142.length co190, .slice Ao193 t145.length co194, .int .i64 t148, .bool t149]) ?hx (blk_fix2 B205.out ⟨G206.out, L207.out⟩ H204.out.fixes.hd) (by kernel_rfl) rfl (by simp [Value.oneCell']) ?_; (case hw => rfl); (case hN => rfl); (case hp => rfl); (case hx => rfl); intro w208 hbox209 hs210; have H211 : Aside0 (Hist w [(w208, w182.heap.size, w200.heap.size), (w182, w178.heap.size, w182.heap.size), (w178, w159.heap.size, w170.heap.size), (w159, w155.heap.size, w159.heap.size), (w155, w129.heap.size, w147.heap.size), (w129, w127.heap.size, w129.heap.size), (w127, w103.heap.size, w122.heap.size), (w88, w79.heap.size, w88.heap.size), (w79, w.heap.size, w79.heap.size)] w208) := ⟨Hist.mark' (w := w200) (b := w182.heap.size) (t := w200.heap.size) (l1 := []) (l2 := [(w182, w178.heap.size, w182.heap.size), (w178, w159.heap.size, w170.heap.size), (w159, w155.heap.size, w159.heap.size), (w155, w129.heap.size, w147.heap.size), (w129, w127.heap.size, w129.heap.size), (w127, w103.heap.size, w122.heap.size), (w88, w79.heap.size, w88.heap.size), (w79, w.heap.size, w79.heap.size)]) (by simp only [List.cons_append, List.nil_append]) (by simp only [List.cons_append, List.nil_append]) H204.out hs210 (fun k_ hk_ => by rw [hk_]; exact ⟨G206.out, L207.out⟩)⟩; have B205n := Aside0.mk hbox209; clear hs210 hbox209 H204 B205; have B205 := B205n; clear B205n) | ((with_reducible refine gate_dst (N := 36) rfl ?_); refine ld ?hw rfl ?hx (blk_fix2 B205.out ⟨G206.out, L207.out⟩ H211.out.fixes.hd) Try.underlying35 rfl (by kernel_rfl) ?_; (case hw => rfl); (case hx => rfl); refine normL (a' := ?_) ?hn ?_; (case hn => first | (simp only [Act.put, List.setIfInBounds_toArray, List.set_cons_zero, List.set_cons_succ]; rfl) | rfl)) | ((with_reducible refine gate_dst (N := 37) rfl ?_); refine ld ?hw rfl ?hx (blk_fix2 B124.out ⟨G125.out, L126.out⟩ H211.out.fixes.tl.tl.tl.tl.tl.tl.hd) Try.underlying35 rfl (by kernel_rfl) ?_; (case hw => rfl); (case hx => rfl); refine normL (a' := ?_) ?hn ?_; (case hn => first | (simp only [Act.put, List.setIfInBounds_toArray, List.set_cons_zero, List.set_cons_succ]; rfl) | rfl)) | (((with_reducible refine gate_callee (f := 24) rfl ?_)); refine goesW (some 38) rfl ?hw Try.func24 (by kernel_rfl) rfl #[.agg #[.slice Ao189 t142.length co190, .slice Ao193 t145.length co194, .int .i64 t148, .bool t149], .agg #[.slice Ao115 t118.length co116, .slice Ao118 t121.length co119, .int .i64 t124, .bool t125]] rfl (by (try simp only [List.map_toArray, List.map_cons, List.map_nil]); first | done | rfl | (simp only [List.length_drop, List.length_take]; rfl)) ?_; (case hw => rfl); with_reducible refine (laws_eqDev.calls k _ _ t142 _ _ t145 t148 t149 _ _ t118 _ _ t121 t124 t125 true _ ?side1 ?side2 ?side3 ?side4 ?side5 ?side6 ?side7 ?side8 A56.out).mono ?_; (case side1 => exact (Kd.R_reads' (R_fix F191.out H211.out.fixes.tl.hd)).2.2); (case side2 => exact R_capn (R_fix F191.out H211.out.fixes.tl.hd)); (case side3 => exact (Kd.S_reads' (S_fix F195.out H211.out.fixes.tl.hd)).2.2); (case side4 => exact S_capn (S_fix F195.out H211.out.fixes.tl.hd)); (case side5 => exact (Kd.R_reads' (R_fix2 F117.out H211.out.fixes.tl.tl.tl.tl.tl.tl.hd)).2.2); (case side6 => exact R_capn (R_fix2 F117.out H211.out.fixes.tl.tl.tl.tl.tl.tl.hd)); (case side7 => exact (Kd.S_reads' (S_fix2 F120.out H211.out.fixes.tl.tl.tl.tl.tl.tl.hd)).2.2); (case side8 => exact S_capn (S_fix2 F120.out H211.out.fixes.tl.tl.tl.tl.tl.tl.hd)); rintro e w212 ⟨rfl, hb213⟩; refine ⟨_, rfl, ?_⟩; have H214 := Aside0.mk (Hist.pass H211.out hb213); clear H211; clear hb213; refine normL (a' := ?_) ?hn ?_; (case hn => first | (simp only [Act.put, List.setIfInBounds_toArray, List.set_cons_zero, List.set_cons_succ]; rfl) | rfl)))
                      have H215 := Aside0.mk (Hist.drew H214.out)
                      clear H214
                      refine start_ (n := 5) (S := fun w' => w'.heap[g146]? = some (.cells #[.slice Ao136 t127.length co137, .slice Ao140 t130.length co141, .int .i64 t133, .bool t134] 35 (0, 0)) ∧ w'.heap[g78]? = some (.cells #[.slice A0_0 l0_0.length c0_0, .slice A0_1 l0_1.length c0_1, .int .i64 a0_2, .bool a0_3] 42 (0, 0))) (ds := []) #[false, false, false, false, false] (by kernel_rfl) rfl rfl ⟨(blk_fix2 B152.out ⟨G153.out, L154.out⟩ H215.out.fixes.tl.tl.tl.tl.hd), (blk_fix2 B84.out ⟨G85.out, L86.out⟩ H215.out.fixes.tl.tl.tl.tl.tl.tl.tl.tl.hd)⟩ (fun hHeld => ?_)
                      generalize w212.drew = w216 at H215 hHeld ⊢
                      refine take_ (i := 0) (N := some 40) (v := .agg #[.slice Ao136 t127.length co137, .slice Ao140 t130.length co141, .int .i64 t133, .bool t134]) (a' := ?aaq217) #[true, false, false, false, false] rfl rfl (by kernel_rfl) (fun _ _ _ h => h) (Or.inl ⟨by rfl, ?ylq217⟩) hHeld ?haq217 ?hhq217
                      case ylq217 =>
                        rintro w' ⟨s0, s1⟩
                        exact ld_run (x := .tmp 7) (by rfl) (by rfl) s0 Try.underlying35 rfl (by kernel_rfl)
                      case haq217 =>
                        simp only [Act.put, List.setIfInBounds_toArray, List.set_cons_zero, List.set_cons_succ, i64_w, i32_w]
                        rfl
                      refine take_ (i := 1) (N := some 41) (v := .agg #[.slice A0_0 l0_0.length c0_0, .slice A0_1 l0_1.length c0_1, .int .i64 a0_2, .bool a0_3]) (a' := ?aaq218) #[true, true, false, false, false] rfl rfl (by kernel_rfl) (fun _ _ _ h => h) (Or.inl ⟨by rfl, ?ylq218⟩) hHeld ?haq218 ?hhq218
                      case ylq218 =>
                        rintro w' ⟨s0, s1⟩
                        exact ld_run (x := .tmp 2) (by rfl) (by rfl) s1 Try.underlying42 rfl (by kernel_rfl)
                      case haq218 =>
                        simp only [Act.put, List.setIfInBounds_toArray, List.set_cons_zero, List.set_cons_succ, i64_w, i32_w]
                        rfl
                      refine one_ (i := 2) (N := some 42) #[true, true, true, false, false] rfl rfl (by kernel_rfl) (by decide) (fun K hK => ?_)
                      refine goes_ Try.func29 (by kernel_rfl) rfl #[.agg #[.slice A0_0 l0_0.length c0_0, .slice A0_1 l0_1.length c0_1, .int .i64 a0_2, .bool a0_3]] (by rfl) rfl rfl (by (try simp only [List.map_toArray, List.map_cons, List.map_nil]); first | done | rfl | (simp only [List.length_drop, List.length_take]; rfl)) ?_
                      with_reducible refine (laws_toDev.calls k _ _ l0_0 _ _ l0_1 a0_2 a0_3 t152 t155 t158 t159 _ ?side1 ?side2 ?side3 ?side4 A58.out).mono ?_
                      (case side1 => exact Kd.C_below HR0_0.out H215.out.below)
                      (case side2 => exact HC0_0.out)
                      (case side3 => exact Kd.C_below HR0_1.out H215.out.below)
                      (case side4 => exact HC0_1.out)
                      rintro e w219 ⟨v220, v221, rfl, ho222, ho223, hb224⟩
                      refine ⟨_, rfl, ?_⟩
                      have H225 := Aside0.mk (Hist.step H215.out hb224)
                      clear H215
                      clear hb224
                      have F228 := Aside0.mk ho222
                      clear ho222
                      have F232 := Aside0.mk ho223
                      clear ho223
                      obtain ⟨Ao226, co227, eo234⟩ := Kd.R_slice F228.out
                      (first | subst eo234 | (injection eo234 with f1_ f2_ f3_; have f4_ := f1_.symm; have f5_ := f3_.symm; clear f1_ f2_ f3_; subst f4_; subst f5_))
                      obtain ⟨Ao230, co231, eo235⟩ := Kd.S_slice F232.out
                      (first | subst eo235 | (injection eo235 with f1_ f2_ f3_; have f4_ := f1_.symm; have f5_ := f3_.symm; clear f1_ f2_ f3_; subst f4_; subst f5_))
                      refine hK.out _ _ ⟨(blk_fix2 B152.out ⟨G153.out, L154.out⟩ H225.out.fixes.tl.tl.tl.tl.tl.hd), (blk_fix2 B84.out ⟨G85.out, L86.out⟩ H225.out.fixes.tl.tl.tl.tl.tl.tl.tl.tl.tl.hd)⟩ (fun hHeld => ?_)
                      clear hK K
                      refine norm_ (a' := ?_) ?_ ?_
                      rotate_left
                      · show Act.put _ (some 42) _ = _
                        simp only [Act.put, List.setIfInBounds_toArray, List.set_cons_zero, List.set_cons_succ, i64_w, i32_w]
                        rfl
                      refine one_ (i := 3) (N := some 43) #[true, true, true, true, false] rfl rfl (by kernel_rfl) (by decide) (fun K hK => ?_)
                      refine goes_ Try.func24 (by kernel_rfl) rfl #[.agg #[.slice Ao136 t127.length co137, .slice Ao140 t130.length co141, .int .i64 t133, .bool t134], .agg #[.slice Ao226 t152.length co227, .slice Ao230 t155.length co231, .int .i64 t158, .bool t159]] (by rfl) rfl rfl (by (try simp only [List.map_toArray, List.map_cons, List.map_nil]); first | done | rfl | (simp only [List.length_drop, List.length_take]; rfl)) ?_
                      with_reducible refine (laws_eqDev.calls k _ _ t127 _ _ t130 t133 t134 _ _ t152 _ _ t155 t158 t159 true _ ?side1 ?side2 ?side3 ?side4 ?side5 ?side6 ?side7 ?side8 A59.out).mono ?_
                      (case side1 => exact (Kd.R_reads' (R_fix F138.out H225.out.fixes.tl.tl.tl.tl.tl.tl.hd)).2.2)
                      (case side2 => exact R_capn (R_fix F138.out H225.out.fixes.tl.tl.tl.tl.tl.tl.hd))
                      (case side3 => exact (Kd.S_reads' (S_fix F142.out H225.out.fixes.tl.tl.tl.tl.tl.tl.hd)).2.2)
                      (case side4 => exact S_capn (S_fix F142.out H225.out.fixes.tl.tl.tl.tl.tl.tl.hd))
                      (case side5 => exact (Kd.R_reads' (R_fix F228.out H225.out.fixes.hd)).2.2)
                      (case side6 => exact R_capn (R_fix F228.out H225.out.fixes.hd))
                      (case side7 => exact (Kd.S_reads' (S_fix F232.out H225.out.fixes.hd)).2.2)
                      (case side8 => exact S_capn (S_fix F232.out H225.out.fixes.hd))
                      rintro e w236 ⟨rfl, hb237⟩
                      refine ⟨_, rfl, ?_⟩
                      have H238 := Aside0.mk (Hist.pass H225.out hb237)
                      clear H225
                      clear hb237
                      refine hK.out _ _ ⟨(blk_fix2 B152.out ⟨G153.out, L154.out⟩ H238.out.fixes.tl.tl.tl.tl.tl.hd), (blk_fix2 B84.out ⟨G85.out, L86.out⟩ H238.out.fixes.tl.tl.tl.tl.tl.tl.tl.tl.tl.hd)⟩ (fun hHeld => ?_)
                      clear hK K
                      refine norm_ (a' := ?_) ?_ ?_
                      rotate_left
                      · show Act.put _ (some 43) _ = _
                        simp only [Act.put, List.setIfInBounds_toArray, List.set_cons_zero, List.set_cons_succ, i64_w, i32_w]
                        rfl
                      refine pure_ (i := 4) (N := some 44) (v := ?_) (a' := ?_) #[true, true, true, true, true] rfl rfl (by kernel_rfl) (fun _ _ _ h => h) (Or.inl ⟨by rfl, ?_⟩) ?_ ?_
                      rotate_left
                      · intro w'
                        go_simp
                        with_reducible rfl
                      rotate_left
                      · simp only [Act.put, List.setIfInBounds_toArray, List.set_cons_zero, List.set_cons_succ, i64_w, i32_w]
                        rfl
                      refine done_ (by kernel_rfl) ?_
                      (try go_wp2)
                      have H239 := Aside0.mk (Hist.drew H238.out)
                      clear H238
                      refine start_ (n := 5) (S := fun w' => w'.heap[g169]? = some (.cells #[.slice Ao164 t136.length co165, .int .i64 t139, .int .i64 t140] 58 (0, 0)) ∧ w'.heap[g87]? = some (.cells #[.slice A1_0 l1_0.length c1_0, .int .i64 a1_1, .int .i64 a1_2] 55 (0, 0))) (ds := []) #[false, false, false, false, false] (by kernel_rfl) rfl rfl ⟨(blk_fix2 B175.out ⟨G176.out, L177.out⟩ H239.out.fixes.tl.tl.tl.hd), (blk_fix2 B93.out ⟨G94.out, L95.out⟩ H239.out.fixes.tl.tl.tl.tl.tl.tl.tl.tl.hd)⟩ (fun hHeld => ?_)
                      generalize w236.drew = w240 at H239 hHeld ⊢
                      refine take_ (i := 0) (N := some 45) (v := .agg #[.slice Ao164 t136.length co165, .int .i64 t139, .int .i64 t140]) (a' := ?aaq241) #[true, false, false, false, false] rfl rfl (by kernel_rfl) (fun _ _ _ h => h) (Or.inl ⟨by rfl, ?ylq241⟩) hHeld ?haq241 ?hhq241
                      case ylq241 =>
                        rintro w' ⟨s0, s1⟩
                        exact ld_run (x := .tmp 8) (by rfl) (by rfl) s0 Try.underlying58 rfl (by kernel_rfl)
                      case haq241 =>
                        simp only [Act.put, List.setIfInBounds_toArray, List.set_cons_zero, List.set_cons_succ, i64_w, i32_w]
                        rfl
                      refine take_ (i := 1) (N := some 46) (v := .agg #[.slice A1_0 l1_0.length c1_0, .int .i64 a1_1, .int .i64 a1_2]) (a' := ?aaq242) #[true, true, false, false, false] rfl rfl (by kernel_rfl) (fun _ _ _ h => h) (Or.inl ⟨by rfl, ?ylq242⟩) hHeld ?haq242 ?hhq242
                      case ylq242 =>
                        rintro w' ⟨s0, s1⟩
                        exact ld_run (x := .tmp 3) (by rfl) (by rfl) s1 Try.underlying55 rfl (by kernel_rfl)
                      case haq242 =>
                        simp only [Act.put, List.setIfInBounds_toArray, List.set_cons_zero, List.set_cons_succ, i64_w, i32_w]
                        rfl
                      refine one_ (i := 2) (N := some 47) #[true, true, true, false, false] rfl rfl (by kernel_rfl) (by decide) (fun K hK => ?_)
                      refine goes_ Try.func41 (by kernel_rfl) rfl #[.agg #[.slice A1_0 l1_0.length c1_0, .int .i64 a1_1, .int .i64 a1_2]] (by rfl) rfl rfl (by (try simp only [List.map_toArray, List.map_cons, List.map_nil]); first | done | rfl | (simp only [List.length_drop, List.length_take]; rfl)) ?_
                      with_reducible refine (laws_toCrash.calls k _ _ l1_0 a1_1 a1_2 t161 t164 t165 _ ?side1 ?side2 A61.out).mono ?_
                      (case side1 => exact Kd.C_below HR1_0.out H239.out.below)
                      (case side2 => exact HC1_0.out)
                      rintro e w243 ⟨v244, rfl, ho245, hb246⟩
                      refine ⟨_, rfl, ?_⟩
                      have H247 := Aside0.mk (Hist.step H239.out hb246)
                      clear H239
                      clear hb246
                      have F250 := Aside0.mk ho245
                      clear ho245
                      obtain ⟨Ao248, co249, eo252⟩ := Kd.R_slice F250.out
                      (first | subst eo252 | (injection eo252 with f1_ f2_ f3_; have f4_ := f1_.symm; have f5_ := f3_.symm; clear f1_ f2_ f3_; subst f4_; subst f5_))
                      refine hK.out _ _ ⟨(blk_fix2 B175.out ⟨G176.out, L177.out⟩ H247.out.fixes.tl.tl.tl.tl.hd), (blk_fix2 B93.out ⟨G94.out, L95.out⟩ H247.out.fixes.tl.tl.tl.tl.tl.tl.tl.tl.tl.hd)⟩ (fun hHeld => ?_)
                      clear hK K
                      refine norm_ (a' := ?_) ?_ ?_
                      rotate_left
                      · show Act.put _ (some 47) _ = _
                        simp only [Act.put, List.setIfInBounds_toArray, List.set_cons_zero, List.set_cons_succ, i64_w, i32_w]
                        rfl
                      refine one_ (i := 3) (N := some 48) #[true, true, true, true, false] rfl rfl (by kernel_rfl) (by decide) (fun K hK => ?_)
                      refine goes_ Try.func43 (by kernel_rfl) rfl #[.agg #[.slice Ao164 t136.length co165, .int .i64 t139, .int .i64 t140], .agg #[.slice Ao248 t161.length co249, .int .i64 t164, .int .i64 t165]] (by rfl) rfl rfl (by (try simp only [List.map_toArray, List.map_cons, List.map_nil]); first | done | rfl | (simp only [List.length_drop, List.length_take]; rfl)) ?_
                      with_reducible refine (laws_eqCrash.calls k _ _ t136 t139 t140 _ _ t161 t164 t165 true _ ?side1 ?side2 ?side3 ?side4 A62.out).mono ?_
                      (case side1 => exact (Kd.R_reads' (R_fix F166.out H247.out.fixes.tl.tl.tl.tl.tl.hd)).2.2)
                      (case side2 => exact R_capn (R_fix F166.out H247.out.fixes.tl.tl.tl.tl.tl.hd))
                      (case side3 => exact (Kd.R_reads' (R_fix F250.out H247.out.fixes.hd)).2.2)
                      (case side4 => exact R_capn (R_fix F250.out H247.out.fixes.hd))
                      rintro e w253 ⟨rfl, hb254⟩
                      refine ⟨_, rfl, ?_⟩
                      have H255 := Aside0.mk (Hist.pass H247.out hb254)
                      clear H247
                      clear hb254
                      refine hK.out _ _ ⟨(blk_fix2 B175.out ⟨G176.out, L177.out⟩ H255.out.fixes.tl.tl.tl.tl.hd), (blk_fix2 B93.out ⟨G94.out, L95.out⟩ H255.out.fixes.tl.tl.tl.tl.tl.tl.tl.tl.tl.hd)⟩ (fun hHeld => ?_)
                      clear hK K
                      refine norm_ (a' := ?_) ?_ ?_
                      rotate_left
                      · show Act.put _ (some 48) _ = _
                        simp only [Act.put, List.setIfInBounds_toArray, List.set_cons_zero, List.set_cons_succ, i64_w, i32_w]
                        rfl
                      refine pure_ (i := 4) (N := some 49) (v := ?_) (a' := ?_) #[true, true, true, true, true] rfl rfl (by kernel_rfl) (fun _ _ _ h => h) (Or.inl ⟨by rfl, ?_⟩) ?_ ?_
                      rotate_left
                      · intro w'
                        go_simp
                        with_reducible rfl
                      rotate_left
                      · simp only [Act.put, List.setIfInBounds_toArray, List.set_cons_zero, List.set_cons_succ, i64_w, i32_w]
                        rfl
                      refine done_ (by kernel_rfl) ?_
                      go_wp2_with (first | ((with_reducible refine gate_dst (N := 50) rfl ?_); refine ld ?hw rfl ?hx (blk_fix2 B152.out ⟨G153.out, L154.out⟩ H255.out.fixes.tl.tl.tl.tl.tl.tl.hd) Try.underlying35 rfl (by kernel_rfl) ?_; (case hw => rfl); (case hx => rfl); refine normL (a' := ?_) ?hn ?_; (case hn => first | (simp only [Act.put, List.setIfInBounds_toArray, List.set_cons_zero, List.set_cons_succ]; rfl) | rfl)) | (((with_reducible refine gate_callee (f := 25) rfl ?_)); refine goesW (some 52) rfl ?hw Try.func25 (by kernel_rfl) rfl #[.agg #[.slice Ao136 t127.length co137, .slice Ao140 t130.length co141, .int .i64 t133, .bool t134], .int .i64 1] rfl (by (try simp only [List.map_toArray, List.map_cons, List.map_nil]); first | done | rfl | (simp only [List.length_drop, List.length_take]; rfl)) ?_; (case hw => rfl); with_reducible refine (mk_laws_markDev (Fixes.at (w := w129) (b := w127.heap.size) (t := w129.heap.size) (l1 := [(w243, w240.heap.size, w243.heap.size), (w219, w216.heap.size, w219.heap.size), (w208, w182.heap.size, w200.heap.size), (w182, w178.heap.size, w182.heap.size), (w178, w159.heap.size, w170.heap.size), (w159, w155.heap.size, w159.heap.size), (w155, w129.heap.size, w147.heap.size)]) (l2 := [(w127, w103.heap.size, w122.heap.size), (w88, w79.heap.size, w88.heap.size), (w79, w.heap.size, w79.heap.size)]) (by simp only [List.cons_append, List.nil_append]) H255.out.fixes) (R_fix F138.out H255.out.fixes.tl.tl.tl.tl.tl.tl.tl.hd) (S_fix F142.out H255.out.fixes.tl.tl.tl.tl.tl.tl.tl.hd) (fun _ h_ => h_.1) A64.out).mono ?_; rintro e w256 ⟨rfl, hr258, hr259, hs257⟩; refine ⟨_, rfl, ?_⟩; have H260 : Aside0 (Hist w [(w243, w240.heap.size, w243.heap.size), (w219, w216.heap.size, w219.heap.size), (w208, w182.heap.size, w200.heap.size), (w182, w178.heap.size, w182.heap.size), (w178, w159.heap.size, w170.heap.size), (w159, w155.heap.size, w159.heap.size), (w155, w129.heap.size, w147.heap.size), (w256, w127.heap.size, w129.heap.size), (w127, w103.heap.size, w122.heap.size), (w88, w79.heap.size, w88.heap.size), (w79, w.heap.size, w79.heap.size)] w256) := ⟨Hist.mark' (w := w129) (b := w127.heap.size) (t := w129.heap.size) (l1 := [(w243, w240.heap.size, w243.heap.size), (w219, w216.heap.size, w219.heap.size), (w208, w182.heap.size, w200.heap.size), (w182, w178.heap.size, w182.heap.size), (w178, w159.heap.size, w170.heap.size), (w159, w155.heap.size, w159.heap.size), (w155, w129.heap.size, w147.heap.size)]) (l2 := [(w127, w103.heap.size, w122.heap.size), (w88, w79.heap.size, w88.heap.size), (w79, w.heap.size, w79.heap.size)]) (by simp only [List.cons_append, List.nil_append]) (by simp only [List.cons_append, List.nil_append]) H255.out hs257 (fun k_ hk_ => by first | exact hk_.2 | (rcases hk_ with hk_ | hk_ <;> exact hk_.2))⟩; clear H255 hs257; have F261 := Aside0.mk hr258; have E262 := Aside0.mk (Kd.R_reads' hr258).1; clear hr258; have F263 := Aside0.mk hr259; have E264 := Aside0.mk (Kd.S_reads' hr259).1; clear hr259; refine normL (a' := ?_) ?hn ?_; (case hn => first | (simp only [Act.put, List.setIfInBounds_toArray, List.set_cons_zero, List.set_cons_succ]; rfl) | rfl)) | ((with_reducible refine gate_dst (N := 53) rfl ?_); refine ld ?hw rfl ?hx (blk_fix2 B175.out ⟨G176.out, L177.out⟩ H260.out.fixes.tl.tl.tl.tl.hd) Try.underlying58 rfl (by kernel_rfl) ?_; (case hw => rfl); (case hx => rfl); refine normL (a' := ?_) ?hn ?_; (case hn => first | (simp only [Act.put, List.setIfInBounds_toArray, List.set_cons_zero, List.set_cons_succ]; rfl) | rfl)) | (((with_reducible refine gate_callee (f := 44) rfl ?_)); refine goesW (some 55) rfl ?hw Try.func44 (by kernel_rfl) rfl #[.agg #[.slice Ao164 t136.length co165, .int .i64 t139, .int .i64 t140], .int .i64 t167] rfl (by (try simp only [List.map_toArray, List.map_cons, List.map_nil]); first | done | rfl | (simp only [List.length_drop, List.length_take]; rfl)) ?_; (case hw => rfl); with_reducible refine (mk_laws_markCrash (Fixes.at (w := w159) (b := w155.heap.size) (t := w159.heap.size) (l1 := [(w243, w240.heap.size, w243.heap.size), (w219, w216.heap.size, w219.heap.size), (w208, w182.heap.size, w200.heap.size), (w182, w178.heap.size, w182.heap.size), (w178, w159.heap.size, w170.heap.size)]) (l2 := [(w155, w129.heap.size, w147.heap.size), (w256, w127.heap.size, w129.heap.size), (w127, w103.heap.size, w122.heap.size), (w88, w79.heap.size, w88.heap.size), (w79, w.heap.size, w79.heap.size)]) (by simp only [List.cons_append, List.nil_append]) H260.out.fixes) (R_fix F166.out H260.out.fixes.tl.tl.tl.tl.tl.hd) A65.out).mono ?_; rintro e w265 ⟨rfl, hr267, hs266⟩; refine ⟨_, rfl, ?_⟩; have H268 : Aside0 (Hist w [(w243, w240.heap.size, w243.heap.size), (w219, w216.heap.size, w219.heap.size), (w208, w182.heap.size, w200.heap.size), (w182, w178.heap.size, w182.heap.size), (w178, w159.heap.size, w170.heap.size), (w265, w155.heap.size, w159.heap.size), (w155, w129.heap.size, w147.heap.size), (w256, w127.heap.size, w129.heap.size), (w127, w103.heap.size, w122.heap.size), (w88, w79.heap.size, w88.heap.size), (w79, w.heap.size, w79.heap.size)] w265) := ⟨Hist.mark' (w := w159) (b := w155.heap.size) (t := w159.heap.size) (l1 := [(w243, w240.heap.size, w243.heap.size), (w219, w216.heap.size, w219.heap.size), (w208, w182.heap.size, w200.heap.size), (w182, w178.heap.size, w182.heap.size), (w178, w159.heap.size, w170.heap.size)]) (l2 := [(w155, w129.heap.size, w147.heap.size), (w256, w127.heap.size, w129.heap.size), (w127, w103.heap.size, w122.heap.size), (w88, w79.heap.size, w88.heap.size), (w79, w.heap.size, w79.heap.size)]) (by simp only [List.cons_append, List.nil_append]) (by simp only [List.cons_append, List.nil_append]) H260.out hs266 (fun k_ hk_ => by first | exact hk_.2 | (rcases hk_ with hk_ <;> exact hk_.2))⟩; clear H260 hs266; have F269 := Aside0.mk hr267; have E270 := Aside0.mk (Kd.R_reads' hr267).1; clear hr267; refine normL (a' := ?_) ?hn ?_; (case hn => first | (simp only [Act.put, List.setIfInBounds_toArray, List.set_cons_zero, List.set_cons_succ]; rfl) | rfl)) | ((with_reducible refine gate_dst (N := 59) rfl ?_); refine ld ?hw rfl ?hx (blk_fix2 B205.out ⟨G206.out, L207.out⟩ H268.out.fixes.tl.tl.hd) Try.underlying35 rfl (by kernel_rfl) ?_; (case hw => rfl); (case hx => rfl); refine normL (a' := ?_) ?hn ?_; (case hn => first | (simp only [Act.put, List.setIfInBounds_toArray, List.set_cons_zero, List.set_cons_succ]; rfl) | rfl)) | ((with_reducible refine gate_dst (N := 60) rfl ?_); refine ld ?hw rfl ?hx (blk_fix2 B124.out ⟨G125.out, L126.out⟩ H268.out.fixes.tl.tl.tl.tl.tl.tl.tl.tl.hd) Try.underlying35 rfl (by kernel_rfl) ?_; (case hw => rfl); (case hx => rfl); refine normL (a' := ?_) ?hn ?_; (case hn => first | (simp only [Act.put, List.setIfInBounds_toArray, List.set_cons_zero, List.set_cons_succ]; rfl) | rfl)) | (((with_reducible refine gate_callee (f := 24) rfl ?_)); refine goesW (some 61) rfl ?hw Try.func24 (by kernel_rfl) rfl #[.agg #[.slice Ao189 t142.length co190, .slice Ao193 t145.length co194, .int .i64 t148, .bool t149], .agg #[.slice Ao115 t118.length co116, .slice Ao118 t121.length co119, .int .i64 t124, .bool t125]] rfl (by (try simp only [List.map_toArray, List.map_cons, List.map_nil]); first | done | rfl | (simp only [List.length_drop, List.length_take]; rfl)) ?_; (case hw => rfl); with_reducible refine (laws_eqDev.calls k _ _ t142 _ _ t145 t148 t149 _ _ t118 _ _ t121 t124 t125 true _ ?side1 ?side2 ?side3 ?side4 ?side5 ?side6 ?side7 ?side8 A67.out).mono ?_; (case side1 => exact (Kd.R_reads' (R_fix F191.out H268.out.fixes.tl.tl.tl.hd)).2.2); (case side2 => exact R_capn (R_fix F191.out H268.out.fixes.tl.tl.tl.hd)); (case side3 => exact (Kd.S_reads' (S_fix F195.out H268.out.fixes.tl.tl.tl.hd)).2.2); (case side4 => exact S_capn (S_fix F195.out H268.out.fixes.tl.tl.tl.hd)); (case side5 => exact (Kd.R_reads' (R_fix2 F117.out H268.out.fixes.tl.tl.tl.tl.tl.tl.tl.tl.hd)).2.2); (case side6 => exact R_capn (R_fix2 F117.out H268.out.fixes.tl.tl.tl.tl.tl.tl.tl.tl.hd)); (case side7 => exact (Kd.S_reads' (S_fix2 F120.out H268.out.fixes.tl.tl.tl.tl.tl.tl.tl.tl.hd)).2.2); (case side8 => exact S_capn (S_fix2 F120.out H268.out.fixes.tl.tl.tl.tl.tl.tl.tl.tl.hd)); rintro e w271 ⟨rfl, hb272⟩; refine ⟨_, rfl, ?_⟩; have H273 := Aside0.mk (Hist.pass H268.out hb272); clear H268; clear hb272; refine normL (a' := ?_) ?hn ?_; (case hn => first | (simp only [Act.put, List.setIfInBounds_toArray, List.set_cons_zero, List.set_cons_succ]; rfl) | rfl)) | ((with_reducible refine gate_dst (N := 64) rfl ?_); refine ld ?hw rfl ?hx (blk_fix2 B205.out ⟨G206.out, L207.out⟩ H273.out.fixes.tl.tl.hd) Try.underlying35 rfl (by kernel_rfl) ?_; (case hw => rfl); (case hx => rfl); refine normL (a' := ?_) ?hn ?_; (case hn => first | (simp only [Act.put, List.setIfInBounds_toArray, List.set_cons_zero, List.set_cons_succ]; rfl) | rfl)) | (((with_reducible refine gate_callee (f := 25) rfl ?_)); refine goesW (some 66) rfl ?hw Try.func25 (by kernel_rfl) rfl #[.agg #[.slice Ao189 t142.length co190, .slice Ao193 t145.length co194, .int .i64 t148, .bool t149], .int .i64 1] rfl (by (try simp only [List.map_toArray, List.map_cons, List.map_nil]); first | done | rfl | (simp only [List.length_drop, List.length_take]; rfl)) ?_; (case hw => rfl); with_reducible refine (mk_laws_markDev (Fixes.at (w := w182) (b := w178.heap.size) (t := w182.heap.size) (l1 := [(w243, w240.heap.size, w243.heap.size), (w219, w216.heap.size, w219.heap.size), (w208, w182.heap.size, w200.heap.size)]) (l2 := [(w178, w159.heap.size, w170.heap.size), (w265, w155.heap.size, w159.heap.size), (w155, w129.heap.size, w147.heap.size), (w256, w127.heap.size, w129.heap.size), (w127, w103.heap.size, w122.heap.size), (w88, w79.heap.size, w88.heap.size), (w79, w.heap.size, w79.heap.size)]) (by simp only [List.cons_append, List.nil_append]) H273.out.fixes) (R_fix F191.out H273.out.fixes.tl.tl.tl.hd) (S_fix F195.out H273.out.fixes.tl.tl.tl.hd) (fun _ h_ => h_.1) A69.out).mono ?_; rintro e w274 ⟨rfl, hr276, hr277, hs275⟩; refine ⟨_, rfl, ?_⟩; have H278 : Aside0 (Hist w [(w243, w240.heap.size, w243.heap.size), (w219, w216.heap.size, w219.heap.size), (w208, w182.heap.size, w200.heap.size), (w274, w178.heap.size, w182.heap.size), (w178, w159.heap.size, w170.heap.size), (w265, w155.heap.size, w159.heap.size), (w155, w129.heap.size, w147.heap.size), (w256, w127.heap.size, w129.heap.size), (w127, w103.heap.size, w122.heap.size), (w88, w79.heap.size, w88.heap.size), (w79, w.heap.size, w79.heap.size)] w274) := ⟨Hist.mark' (w := w182) (b := w178.heap.size) (t := w182.heap.size) (l1 := [(w243, w240.heap.size, w243.heap.size), (w219, w216.heap.size, w219.heap.size), (w208, w182.heap.size, w200.heap.size)]) (l2 := [(w178, w159.heap.size, w170.heap.size), (w265, w155.heap.size, w159.heap.size), (w155, w129.heap.size, w147.heap.size), (w256, w127.heap.size, w129.heap.size), (w127, w103.heap.size, w122.heap.size), (w88, w79.heap.size, w88.heap.size), (w79, w.heap.size, w79.heap.size)]) (by simp only [List.cons_append, List.nil_append]) (by simp only [List.cons_append, List.nil_append]) H273.out hs275 (fun k_ hk_ => by first | exact hk_.2 | (rcases hk_ with hk_ | hk_ <;> exact hk_.2))⟩; clear H273 hs275; have F279 := Aside0.mk hr276; have E280 := Aside0.mk (Kd.R_reads' hr276).1; clear hr276; have F281 := Aside0.mk hr277; have E282 := Aside0.mk (Kd.S_reads' hr277).1; clear hr277; refine normL (a' := ?_) ?hn ?_; (case hn => first | (simp only [Act.put, List.setIfInBounds_toArray, List.set_cons_zero, List.set_cons_succ]; rfl) | rfl)) | ((with_reducible refine gate_dst (N := 67) rfl ?_); refine ld ?hw rfl ?hx (blk_fix2 B205.out ⟨G206.out, L207.out⟩ H278.out.fixes.tl.tl.hd) Try.underlying35 rfl (by kernel_rfl) ?_; (case hw => rfl); (case hx => rfl); refine normL (a' := ?_) ?hn ?_; (case hn => first | (simp only [Act.put, List.setIfInBounds_toArray, List.set_cons_zero, List.set_cons_succ]; rfl) | rfl)) | (((with_reducible refine gate_callee (f := 26) rfl ?_)); refine goesW (some 69) rfl ?hw Try.func26 (by kernel_rfl) rfl #[.agg #[.slice Ao189 t174.length co190, .slice Ao193 t175.length co194, .int .i64 t148, .bool t149], .int .i64 1] rfl (by (try simp only [List.map_toArray, List.map_cons, List.map_nil]); first | done | rfl | (rw [← E280.out, ← E282.out]; first | done | rfl) | (simp only [List.length_drop, List.length_take]; rfl)) ?_; (case hw => rfl); with_reducible refine (laws_heldDev.calls k _ _ t174 _ _ t175 t148 t149 1 t176 _ ?side1 ?side2 ?side3 ?side4 A70.out).mono ?_; (case side1 => exact (Kd.R_reads' (R_fix2 F279.out H278.out.fixes.tl.tl.tl.hd)).2.2); (case side2 => exact R_capn (R_fix2 F279.out H278.out.fixes.tl.tl.tl.hd)); (case side3 => exact (Kd.S_reads' (S_fix2 F281.out H278.out.fixes.tl.tl.tl.hd)).2.2); (case side4 => exact S_capn (S_fix2 F281.out H278.out.fixes.tl.tl.tl.hd)); rintro e w283 ⟨rfl, hb284⟩; refine ⟨_, rfl, ?_⟩; have H285 := Aside0.mk (Hist.pass H278.out hb284); clear H278; clear hb284; refine normL (a' := ?_) ?hn ?_; (case hn => first | (simp only [Act.put, List.setIfInBounds_toArray, List.set_cons_zero, List.set_cons_succ]; rfl) | rfl)))
                      have H286 := Aside0.mk (Hist.drew H285.out)
                      clear H285
                      refine start_ (n := 7) (S := fun w' => w'.heap[g78]? = some (.cells #[.slice A0_0 l0_0.length c0_0, .slice A0_1 l0_1.length c0_1, .int .i64 a0_2, .bool a0_3] 42 (0, 0)) ∧ w'.heap[g87]? = some (.cells #[.slice A1_0 l1_0.length c1_0, .int .i64 a1_1, .int .i64 a1_2] 55 (0, 0))) (ds := []) #[false, false, false, false, false, false, false] (by kernel_rfl) rfl rfl ⟨(blk_fix2 B84.out ⟨G85.out, L86.out⟩ H286.out.fixes.tl.tl.tl.tl.tl.tl.tl.tl.tl.tl.hd), (blk_fix2 B93.out ⟨G94.out, L95.out⟩ H286.out.fixes.tl.tl.tl.tl.tl.tl.tl.tl.tl.hd)⟩ (fun hHeld => ?_)
                      generalize w283.drew = w287 at H286 hHeld ⊢
                      refine take_ (i := 0) (N := some 75) (v := .agg #[.slice A0_0 l0_0.length c0_0, .slice A0_1 l0_1.length c0_1, .int .i64 a0_2, .bool a0_3]) (a' := ?aaq288) #[true, false, false, false, false, false, false] rfl rfl (by kernel_rfl) (fun _ _ _ h => h) (Or.inl ⟨by rfl, ?ylq288⟩) hHeld ?haq288 ?hhq288
                      case ylq288 =>
                        rintro w' ⟨s0, s1⟩
                        exact ld_run (x := .tmp 2) (by rfl) (by rfl) s0 Try.underlying42 rfl (by kernel_rfl)
                      case haq288 =>
                        simp only [Act.put, List.setIfInBounds_toArray, List.set_cons_zero, List.set_cons_succ, i64_w, i32_w]
                        rfl
                      refine take_ (i := 2) (N := some 77) (v := .agg #[.slice A1_0 l1_0.length c1_0, .int .i64 a1_1, .int .i64 a1_2]) (a' := ?aaq289) #[true, false, true, false, false, false, false] rfl rfl (by kernel_rfl) (fun _ _ _ h => h) (Or.inl ⟨by rfl, ?ylq289⟩) hHeld ?haq289 ?hhq289
                      case ylq289 =>
                        rintro w' ⟨s0, s1⟩
                        exact ld_run (x := .tmp 3) (by rfl) (by rfl) s1 Try.underlying55 rfl (by kernel_rfl)
                      case haq289 =>
                        simp only [Act.put, List.setIfInBounds_toArray, List.set_cons_zero, List.set_cons_succ, i64_w, i32_w]
                        rfl
                      have HXB0 := Aside0.mk (blk_fix2 B84.out ⟨G85.out, L86.out⟩ H286.out.fixes.tl.tl.tl.tl.tl.tl.tl.tl.tl.tl.hd)
                      have HXB1 := Aside0.mk (blk_fix2 B93.out ⟨G94.out, L95.out⟩ H286.out.fixes.tl.tl.tl.tl.tl.tl.tl.tl.tl.hd)
                      have HBs := Aside0.mk (Below.refl w287.heap.size w287)
                      have HBw := Aside0.mk H286.out.below
                      refine join_ (σ := Nat × Value × Value × Value × Value × Value) 1 #[true, true, true, true, true, true, false] (fun s_ => [(76, (.agg #[s_.2.1, s_.2.2.1, .int .i64 t183, .bool t184])), (78, (.agg #[s_.2.2.2.1, .int .i64 t188, .int .i64 t189])), (79, (.agg #[s_.2.2.2.2.1, s_.2.2.2.2.2, .int .i64 t196, .bool t197])), (13, .pointer (some ⟨s_.1, 0, none⟩))]) (fun s_ w' => (w'.heap[g78]? = some (.cells #[.slice A0_0 l0_0.length c0_0, .slice A0_1 l0_1.length c0_1, .int .i64 a0_2, .bool a0_3] 42 (0, 0)) ∧ w'.heap[g87]? = some (.cells #[.slice A1_0 l1_0.length c1_0, .int .i64 a1_1, .int .i64 a1_2] 55 (0, 0))) ∧ (Below w287.heap.size w287 w') ∧ (w287.heap.size ≤ s_.1) ∧ (w'.heap[s_.1]? = some (.cells #[.slice none 0 0, .slice none 0 0, .int .i64 0, .bool false] 35 (0, 0))) ∧ (Kd.R (Kd.int .u8) 5 w' w287.heap.size (fun _ => True) s_.2.2.2.2.1 t190) ∧ (Kd.S k101 101 w' w287.heap.size (fun k_ => some k_ ≠ (s_.2.2.2.2.1 : Value).ownBlock) s_.2.2.2.2.2 t193)) ?_ ?_
                      rotate_left
                      · intro hCont
                        refine two_ (i := 1) (j := 5) (Ni := some 76) (Nj := some 13) #[true, true, true, false, false, false, false] #[true, false, true, false, false, true, false] rfl rfl rfl rfl (by kernel_rfl) (by decide) (by decide) (fun K hK => ?_) (fun K hK => ?_)
                        · skip
                          refine goes_ Try.func29 (by kernel_rfl) rfl #[.agg #[.slice A0_0 l0_0.length c0_0, .slice A0_1 l0_1.length c0_1, .int .i64 a0_2, .bool a0_3]] (by rfl) rfl rfl (by (try simp only [List.map_toArray, List.map_cons, List.map_nil]); first | done | rfl | (simp only [List.length_drop, List.length_take]; rfl)) ?_
                          with_reducible refine (laws_toDev.calls k _ _ l0_0 _ _ l0_1 a0_2 a0_3 t177 t180 t183 t184 _ (Kd.C_below HR0_0.out HBw.out) (HC0_0.out) (Kd.C_below HR0_1.out HBw.out) (HC0_1.out) A73.out).mono ?_
                          rintro e wn_ ⟨vr0_, vr1_, rfl, hvr0_, hvr1_, hb_⟩
                          refine ⟨_, rfl, ?_⟩
                          have F292 := Aside0.mk (Kd.R_lower hvr0_ HBs.out.size)
                          have F295 := Aside0.mk (Kd.S_lower hvr1_ HBs.out.size)
                          obtain ⟨Ao290, co291, eo_⟩ := Kd.R_slice F292.out
                          subst eo_
                          obtain ⟨Ao293, co294, eo_⟩ := Kd.S_slice F295.out
                          subst eo_
                          clear hvr0_ hvr1_
                          replace HBs := Aside0.mk (below_step HBs.out hb_)
                          replace HBw := Aside0.mk (below_step HBw.out hb_)
                          clear hb_
                          refine hK.out _ _ ⟨((HBs.out.block _ (blk_lt HXB0.out)).trans HXB0.out), ((HBs.out.block _ (blk_lt HXB1.out)).trans HXB1.out)⟩ (fun hHeld => ?_)
                          clear hK K
                          refine norm_ (a' := ?_) ?_ ?_
                          rotate_left
                          · show Act.put _ (some 76) _ = _
                            simp only [Act.put, List.setIfInBounds_toArray, List.set_cons_zero, List.set_cons_succ, i64_w, i32_w]
                            rfl
                          refine two_ (i := 3) (j := 5) (Ni := some 78) (Nj := some 13) #[true, true, true, true, false, false, false] #[true, true, true, false, false, true, false] rfl rfl rfl rfl (by kernel_rfl) (by decide) (by decide) (fun K hK => ?_) (fun K hK => ?_)
                          · skip
                            refine goes_ Try.func41 (by kernel_rfl) rfl #[.agg #[.slice A1_0 l1_0.length c1_0, .int .i64 a1_1, .int .i64 a1_2]] (by rfl) rfl rfl (by (try simp only [List.map_toArray, List.map_cons, List.map_nil]); first | done | rfl | (simp only [List.length_drop, List.length_take]; rfl)) ?_
                            with_reducible refine (laws_toCrash.calls k _ _ l1_0 a1_1 a1_2 t185 t188 t189 _ (Kd.C_below HR1_0.out HBw.out) (HC1_0.out) A74.out).mono ?_
                            rintro e wn_ ⟨vr2_, rfl, hvr2_, hb_⟩
                            refine ⟨_, rfl, ?_⟩
                            have F298 := Aside0.mk (Kd.R_lower hvr2_ HBs.out.size)
                            obtain ⟨Ao296, co297, eo_⟩ := Kd.R_slice F298.out
                            subst eo_
                            clear hvr2_
                            replace F292 := Aside0.mk (Kd.R_below F292.out hb_)
                            replace F295 := Aside0.mk (Kd.S_below F295.out hb_)
                            replace HBs := Aside0.mk (below_step HBs.out hb_)
                            replace HBw := Aside0.mk (below_step HBw.out hb_)
                            clear hb_
                            refine hK.out _ _ ⟨((HBs.out.block _ (blk_lt HXB0.out)).trans HXB0.out), ((HBs.out.block _ (blk_lt HXB1.out)).trans HXB1.out)⟩ (fun hHeld => ?_)
                            clear hK K
                            refine norm_ (a' := ?_) ?_ ?_
                            rotate_left
                            · show Act.put _ (some 78) _ = _
                              simp only [Act.put, List.setIfInBounds_toArray, List.set_cons_zero, List.set_cons_succ, i64_w, i32_w]
                              rfl
                            refine two_ (i := 4) (j := 5) (Ni := some 79) (Nj := some 13) #[true, true, true, true, true, false, false] #[true, true, true, true, false, true, false] rfl rfl rfl rfl (by kernel_rfl) (by decide) (by decide) (fun K hK => ?_) (fun K hK => ?_)
                            · skip
                              refine goes_ Try.func42 (by kernel_rfl) rfl #[.agg #[.slice Ao290 t177.length co291, .slice Ao293 t180.length co294, .int .i64 t183, .bool t184], .agg #[.slice Ao296 t185.length co297, .int .i64 t188, .int .i64 t189]] (by rfl) rfl rfl (by (try simp only [List.map_toArray, List.map_cons, List.map_nil]); first | done | rfl | (simp only [List.length_drop, List.length_take]; rfl)) ?_
                              with_reducible refine (impl_DevCrash.calls _ _ t177 _ _ t180 t183 t184 _ _ t185 t188 t189 t190 t193 t196 t197 _ ((Kd.R_reads' F292.out).2.2) (R_capn F292.out) ((Kd.S_reads' F295.out).2.2) (S_capn F295.out) ((Kd.R_reads' F298.out).2.2) (R_capn F298.out) A75.out).mono ?_
                              rintro e wn_ ⟨vr3_, vr4_, rfl, hvr3_, hvr4_, hb_⟩
                              refine ⟨_, rfl, ?_⟩
                              have F301 := Aside0.mk (Kd.R_lower hvr3_ HBs.out.size)
                              have F304 := Aside0.mk (Kd.S_lower hvr4_ HBs.out.size)
                              obtain ⟨Ao299, co300, eo_⟩ := Kd.R_slice F301.out
                              subst eo_
                              obtain ⟨Ao302, co303, eo_⟩ := Kd.S_slice F304.out
                              subst eo_
                              clear hvr3_ hvr4_
                              replace F292 := Aside0.mk (Kd.R_below F292.out hb_)
                              replace F295 := Aside0.mk (Kd.S_below F295.out hb_)
                              replace F298 := Aside0.mk (Kd.R_below F298.out hb_)
                              replace HBs := Aside0.mk (below_step HBs.out hb_)
                              replace HBw := Aside0.mk (below_step HBw.out hb_)
                              clear hb_
                              refine hK.out _ _ ⟨((HBs.out.block _ (blk_lt HXB0.out)).trans HXB0.out), ((HBs.out.block _ (blk_lt HXB1.out)).trans HXB1.out)⟩ (fun hHeld => ?_)
                              clear hK K
                              refine norm_ (a' := ?_) ?_ ?_
                              rotate_left
                              · show Act.put _ (some 79) _ = _
                                simp only [Act.put, List.setIfInBounds_toArray, List.set_cons_zero, List.set_cons_succ, i64_w, i32_w]
                                rfl
                              refine one_ (i := 5) (N := some 13) #[true, true, true, true, true, true, false] rfl rfl (by kernel_rfl) (by decide) (fun K hK => ?_)
                              refine box_step ?hg (N := 13) ?hd (cs := #[.slice none 0 0, .slice none 0 0, .int .i64 0, .bool false]) (t := 35) ?hr ?_; (case hd => rfl); (case hg => rfl); (case hr => first | (go_simp; done) | (go_simp; rfl))
                              intro gn_ hg_ wn_ hbox_ hb_
                              have HGn := Aside0.mk (show w287.heap.size ≤ gn_ from by rw [hg_]; exact HBs.out.size)
                              have HBox := Aside0.mk hbox_
                              replace F292 := Aside0.mk (Kd.R_below F292.out hb_)
                              replace F295 := Aside0.mk (Kd.S_below F295.out hb_)
                              replace F298 := Aside0.mk (Kd.R_below F298.out hb_)
                              replace F301 := Aside0.mk (Kd.R_below F301.out hb_)
                              replace F304 := Aside0.mk (Kd.S_below F304.out hb_)
                              replace HBs := Aside0.mk (below_step HBs.out hb_)
                              replace HBw := Aside0.mk (below_step HBw.out hb_)
                              clear hg_ hbox_ hb_
                              refine hK.out _ _ ⟨((HBs.out.block _ (blk_lt HXB0.out)).trans HXB0.out), ((HBs.out.block _ (blk_lt HXB1.out)).trans HXB1.out)⟩ (fun hHeld => ?_)
                              clear hK K
                              refine norm_ (a' := ?_) ?_ ?_
                              rotate_left
                              · show Act.put _ (some 13) _ = _
                                simp only [Act.put, List.setIfInBounds_toArray, List.set_cons_zero, List.set_cons_succ, i64_w, i32_w]
                                rfl
                              exact norm_ (by simp only [putAll, Act.put, List.setIfInBounds_toArray, List.set_cons_zero, List.set_cons_succ]) (hCont (gn_, .slice Ao290 t177.length co291, .slice Ao293 t180.length co294, .slice Ao296 t185.length co297, .slice Ao299 t190.length co300, .slice Ao302 t193.length co303) _ ⟨hHeld, HBs.out, HGn.out, HBox.out, F301.out, F304.out⟩)
                            · skip
                              refine box_step ?hg (N := 13) ?hd (cs := #[.slice none 0 0, .slice none 0 0, .int .i64 0, .bool false]) (t := 35) ?hr ?_; (case hd => rfl); (case hg => rfl); (case hr => first | (go_simp; done) | (go_simp; rfl))
                              intro gn_ hg_ wn_ hbox_ hb_
                              have HGn := Aside0.mk (show w287.heap.size ≤ gn_ from by rw [hg_]; exact HBs.out.size)
                              have HBox := Aside0.mk hbox_
                              replace F292 := Aside0.mk (Kd.R_below F292.out hb_)
                              replace F295 := Aside0.mk (Kd.S_below F295.out hb_)
                              replace F298 := Aside0.mk (Kd.R_below F298.out hb_)
                              replace HBs := Aside0.mk (below_step HBs.out hb_)
                              replace HBw := Aside0.mk (below_step HBw.out hb_)
                              clear hg_ hbox_ hb_
                              refine hK.out _ _ ⟨((HBs.out.block _ (blk_lt HXB0.out)).trans HXB0.out), ((HBs.out.block _ (blk_lt HXB1.out)).trans HXB1.out)⟩ (fun hHeld => ?_)
                              clear hK K
                              refine norm_ (a' := ?_) ?_ ?_
                              rotate_left
                              · show Act.put _ (some 13) _ = _
                                simp only [Act.put, List.setIfInBounds_toArray, List.set_cons_zero, List.set_cons_succ, i64_w, i32_w]
                                rfl
                              refine one_ (i := 4) (N := some 79) #[true, true, true, true, true, true, false] rfl rfl (by kernel_rfl) (by decide) (fun K hK => ?_)
                              refine goes_ Try.func42 (by kernel_rfl) rfl #[.agg #[.slice Ao290 t177.length co291, .slice Ao293 t180.length co294, .int .i64 t183, .bool t184], .agg #[.slice Ao296 t185.length co297, .int .i64 t188, .int .i64 t189]] (by rfl) rfl rfl (by (try simp only [List.map_toArray, List.map_cons, List.map_nil]); first | done | rfl | (simp only [List.length_drop, List.length_take]; rfl)) ?_
                              with_reducible refine (impl_DevCrash.calls _ _ t177 _ _ t180 t183 t184 _ _ t185 t188 t189 t190 t193 t196 t197 _ ((Kd.R_reads' F292.out).2.2) (R_capn F292.out) ((Kd.S_reads' F295.out).2.2) (S_capn F295.out) ((Kd.R_reads' F298.out).2.2) (R_capn F298.out) A75.out).mono ?_
                              rintro e wn_ ⟨vr3_, vr4_, rfl, hvr3_, hvr4_, hb_⟩
                              refine ⟨_, rfl, ?_⟩
                              have F301 := Aside0.mk (Kd.R_lower hvr3_ HBs.out.size)
                              have F304 := Aside0.mk (Kd.S_lower hvr4_ HBs.out.size)
                              obtain ⟨Ao299, co300, eo_⟩ := Kd.R_slice F301.out
                              subst eo_
                              obtain ⟨Ao302, co303, eo_⟩ := Kd.S_slice F304.out
                              subst eo_
                              clear hvr3_ hvr4_
                              replace HBox := Aside0.mk ((hb_.block _ (blk_lt HBox.out)).trans HBox.out)
                              replace F292 := Aside0.mk (Kd.R_below F292.out hb_)
                              replace F295 := Aside0.mk (Kd.S_below F295.out hb_)
                              replace F298 := Aside0.mk (Kd.R_below F298.out hb_)
                              replace HBs := Aside0.mk (below_step HBs.out hb_)
                              replace HBw := Aside0.mk (below_step HBw.out hb_)
                              clear hb_
                              refine hK.out _ _ ⟨((HBs.out.block _ (blk_lt HXB0.out)).trans HXB0.out), ((HBs.out.block _ (blk_lt HXB1.out)).trans HXB1.out)⟩ (fun hHeld => ?_)
                              clear hK K
                              refine norm_ (a' := ?_) ?_ ?_
                              rotate_left
                              · show Act.put _ (some 79) _ = _
                                simp only [Act.put, List.setIfInBounds_toArray, List.set_cons_zero, List.set_cons_succ, i64_w, i32_w]
                                rfl
                              exact norm_ (by simp only [putAll, Act.put, List.setIfInBounds_toArray, List.set_cons_zero, List.set_cons_succ]) (hCont (gn_, .slice Ao290 t177.length co291, .slice Ao293 t180.length co294, .slice Ao296 t185.length co297, .slice Ao299 t190.length co300, .slice Ao302 t193.length co303) _ ⟨hHeld, HBs.out, HGn.out, HBox.out, F301.out, F304.out⟩)
                          · skip
                            refine box_step ?hg (N := 13) ?hd (cs := #[.slice none 0 0, .slice none 0 0, .int .i64 0, .bool false]) (t := 35) ?hr ?_; (case hd => rfl); (case hg => rfl); (case hr => first | (go_simp; done) | (go_simp; rfl))
                            intro gn_ hg_ wn_ hbox_ hb_
                            have HGn := Aside0.mk (show w287.heap.size ≤ gn_ from by rw [hg_]; exact HBs.out.size)
                            have HBox := Aside0.mk hbox_
                            replace F292 := Aside0.mk (Kd.R_below F292.out hb_)
                            replace F295 := Aside0.mk (Kd.S_below F295.out hb_)
                            replace HBs := Aside0.mk (below_step HBs.out hb_)
                            replace HBw := Aside0.mk (below_step HBw.out hb_)
                            clear hg_ hbox_ hb_
                            refine hK.out _ _ ⟨((HBs.out.block _ (blk_lt HXB0.out)).trans HXB0.out), ((HBs.out.block _ (blk_lt HXB1.out)).trans HXB1.out)⟩ (fun hHeld => ?_)
                            clear hK K
                            refine norm_ (a' := ?_) ?_ ?_
                            rotate_left
                            · show Act.put _ (some 13) _ = _
                              simp only [Act.put, List.setIfInBounds_toArray, List.set_cons_zero, List.set_cons_succ, i64_w, i32_w]
                              rfl
                            refine one_ (i := 3) (N := some 78) #[true, true, true, true, false, true, false] rfl rfl (by kernel_rfl) (by decide) (fun K hK => ?_)
                            refine goes_ Try.func41 (by kernel_rfl) rfl #[.agg #[.slice A1_0 l1_0.length c1_0, .int .i64 a1_1, .int .i64 a1_2]] (by rfl) rfl rfl (by (try simp only [List.map_toArray, List.map_cons, List.map_nil]); first | done | rfl | (simp only [List.length_drop, List.length_take]; rfl)) ?_
                            with_reducible refine (laws_toCrash.calls k _ _ l1_0 a1_1 a1_2 t185 t188 t189 _ (Kd.C_below HR1_0.out HBw.out) (HC1_0.out) A74.out).mono ?_
                            rintro e wn_ ⟨vr2_, rfl, hvr2_, hb_⟩
                            refine ⟨_, rfl, ?_⟩
                            have F298 := Aside0.mk (Kd.R_lower hvr2_ HBs.out.size)
                            obtain ⟨Ao296, co297, eo_⟩ := Kd.R_slice F298.out
                            subst eo_
                            clear hvr2_
                            replace HBox := Aside0.mk ((hb_.block _ (blk_lt HBox.out)).trans HBox.out)
                            replace F292 := Aside0.mk (Kd.R_below F292.out hb_)
                            replace F295 := Aside0.mk (Kd.S_below F295.out hb_)
                            replace HBs := Aside0.mk (below_step HBs.out hb_)
                            replace HBw := Aside0.mk (below_step HBw.out hb_)
                            clear hb_
                            refine hK.out _ _ ⟨((HBs.out.block _ (blk_lt HXB0.out)).trans HXB0.out), ((HBs.out.block _ (blk_lt HXB1.out)).trans HXB1.out)⟩ (fun hHeld => ?_)
                            clear hK K
                            refine norm_ (a' := ?_) ?_ ?_
                            rotate_left
                            · show Act.put _ (some 78) _ = _
                              simp only [Act.put, List.setIfInBounds_toArray, List.set_cons_zero, List.set_cons_succ, i64_w, i32_w]
                              rfl
                            refine one_ (i := 4) (N := some 79) #[true, true, true, true, true, true, false] rfl rfl (by kernel_rfl) (by decide) (fun K hK => ?_)
                            refine goes_ Try.func42 (by kernel_rfl) rfl #[.agg #[.slice Ao290 t177.length co291, .slice Ao293 t180.length co294, .int .i64 t183, .bool t184], .agg #[.slice Ao296 t185.length co297, .int .i64 t188, .int .i64 t189]] (by rfl) rfl rfl (by (try simp only [List.map_toArray, List.map_cons, List.map_nil]); first | done | rfl | (simp only [List.length_drop, List.length_take]; rfl)) ?_
                            with_reducible refine (impl_DevCrash.calls _ _ t177 _ _ t180 t183 t184 _ _ t185 t188 t189 t190 t193 t196 t197 _ ((Kd.R_reads' F292.out).2.2) (R_capn F292.out) ((Kd.S_reads' F295.out).2.2) (S_capn F295.out) ((Kd.R_reads' F298.out).2.2) (R_capn F298.out) A75.out).mono ?_
                            rintro e wn_ ⟨vr3_, vr4_, rfl, hvr3_, hvr4_, hb_⟩
                            refine ⟨_, rfl, ?_⟩
                            have F301 := Aside0.mk (Kd.R_lower hvr3_ HBs.out.size)
                            have F304 := Aside0.mk (Kd.S_lower hvr4_ HBs.out.size)
                            obtain ⟨Ao299, co300, eo_⟩ := Kd.R_slice F301.out
                            subst eo_
                            obtain ⟨Ao302, co303, eo_⟩ := Kd.S_slice F304.out
                            subst eo_
                            clear hvr3_ hvr4_
                            replace HBox := Aside0.mk ((hb_.block _ (blk_lt HBox.out)).trans HBox.out)
                            replace F292 := Aside0.mk (Kd.R_below F292.out hb_)
                            replace F295 := Aside0.mk (Kd.S_below F295.out hb_)
                            replace F298 := Aside0.mk (Kd.R_below F298.out hb_)
                            replace HBs := Aside0.mk (below_step HBs.out hb_)
                            replace HBw := Aside0.mk (below_step HBw.out hb_)
                            clear hb_
                            refine hK.out _ _ ⟨((HBs.out.block _ (blk_lt HXB0.out)).trans HXB0.out), ((HBs.out.block _ (blk_lt HXB1.out)).trans HXB1.out)⟩ (fun hHeld => ?_)
                            clear hK K
                            refine norm_ (a' := ?_) ?_ ?_
                            rotate_left
                            · show Act.put _ (some 79) _ = _
                              simp only [Act.put, List.setIfInBounds_toArray, List.set_cons_zero, List.set_cons_succ, i64_w, i32_w]
                              rfl
                            exact norm_ (by simp only [putAll, Act.put, List.setIfInBounds_toArray, List.set_cons_zero, List.set_cons_succ]) (hCont (gn_, .slice Ao290 t177.length co291, .slice Ao293 t180.length co294, .slice Ao296 t185.length co297, .slice Ao299 t190.length co300, .slice Ao302 t193.length co303) _ ⟨hHeld, HBs.out, HGn.out, HBox.out, F301.out, F304.out⟩)
                        · skip
                          refine box_step ?hg (N := 13) ?hd (cs := #[.slice none 0 0, .slice none 0 0, .int .i64 0, .bool false]) (t := 35) ?hr ?_; (case hd => rfl); (case hg => rfl); (case hr => first | (go_simp; done) | (go_simp; rfl))
                          intro gn_ hg_ wn_ hbox_ hb_
                          have HGn := Aside0.mk (show w287.heap.size ≤ gn_ from by rw [hg_]; exact HBs.out.size)
                          have HBox := Aside0.mk hbox_
                          replace HBs := Aside0.mk (below_step HBs.out hb_)
                          replace HBw := Aside0.mk (below_step HBw.out hb_)
                          clear hg_ hbox_ hb_
                          refine hK.out _ _ ⟨((HBs.out.block _ (blk_lt HXB0.out)).trans HXB0.out), ((HBs.out.block _ (blk_lt HXB1.out)).trans HXB1.out)⟩ (fun hHeld => ?_)
                          clear hK K
                          refine norm_ (a' := ?_) ?_ ?_
                          rotate_left
                          · show Act.put _ (some 13) _ = _
                            simp only [Act.put, List.setIfInBounds_toArray, List.set_cons_zero, List.set_cons_succ, i64_w, i32_w]
                            rfl
                          refine one_ (i := 1) (N := some 76) #[true, true, true, false, false, true, false] rfl rfl (by kernel_rfl) (by decide) (fun K hK => ?_)
                          refine goes_ Try.func29 (by kernel_rfl) rfl #[.agg #[.slice A0_0 l0_0.length c0_0, .slice A0_1 l0_1.length c0_1, .int .i64 a0_2, .bool a0_3]] (by rfl) rfl rfl (by (try simp only [List.map_toArray, List.map_cons, List.map_nil]); first | done | rfl | (simp only [List.length_drop, List.length_take]; rfl)) ?_
                          with_reducible refine (laws_toDev.calls k _ _ l0_0 _ _ l0_1 a0_2 a0_3 t177 t180 t183 t184 _ (Kd.C_below HR0_0.out HBw.out) (HC0_0.out) (Kd.C_below HR0_1.out HBw.out) (HC0_1.out) A73.out).mono ?_
                          rintro e wn_ ⟨vr0_, vr1_, rfl, hvr0_, hvr1_, hb_⟩
                          refine ⟨_, rfl, ?_⟩
                          have F292 := Aside0.mk (Kd.R_lower hvr0_ HBs.out.size)
                          have F295 := Aside0.mk (Kd.S_lower hvr1_ HBs.out.size)
                          obtain ⟨Ao290, co291, eo_⟩ := Kd.R_slice F292.out
                          subst eo_
                          obtain ⟨Ao293, co294, eo_⟩ := Kd.S_slice F295.out
                          subst eo_
                          clear hvr0_ hvr1_
                          replace HBox := Aside0.mk ((hb_.block _ (blk_lt HBox.out)).trans HBox.out)
                          replace HBs := Aside0.mk (below_step HBs.out hb_)
                          replace HBw := Aside0.mk (below_step HBw.out hb_)
                          clear hb_
                          refine hK.out _ _ ⟨((HBs.out.block _ (blk_lt HXB0.out)).trans HXB0.out), ((HBs.out.block _ (blk_lt HXB1.out)).trans HXB1.out)⟩ (fun hHeld => ?_)
                          clear hK K
                          refine norm_ (a' := ?_) ?_ ?_
                          rotate_left
                          · show Act.put _ (some 76) _ = _
                            simp only [Act.put, List.setIfInBounds_toArray, List.set_cons_zero, List.set_cons_succ, i64_w, i32_w]
                            rfl
                          refine one_ (i := 3) (N := some 78) #[true, true, true, true, false, true, false] rfl rfl (by kernel_rfl) (by decide) (fun K hK => ?_)
                          refine goes_ Try.func41 (by kernel_rfl) rfl #[.agg #[.slice A1_0 l1_0.length c1_0, .int .i64 a1_1, .int .i64 a1_2]] (by rfl) rfl rfl (by (try simp only [List.map_toArray, List.map_cons, List.map_nil]); first | done | rfl | (simp only [List.length_drop, List.length_take]; rfl)) ?_
                          with_reducible refine (laws_toCrash.calls k _ _ l1_0 a1_1 a1_2 t185 t188 t189 _ (Kd.C_below HR1_0.out HBw.out) (HC1_0.out) A74.out).mono ?_
                          rintro e wn_ ⟨vr2_, rfl, hvr2_, hb_⟩
                          refine ⟨_, rfl, ?_⟩
                          have F298 := Aside0.mk (Kd.R_lower hvr2_ HBs.out.size)
                          obtain ⟨Ao296, co297, eo_⟩ := Kd.R_slice F298.out
                          subst eo_
                          clear hvr2_
                          replace HBox := Aside0.mk ((hb_.block _ (blk_lt HBox.out)).trans HBox.out)
                          replace F292 := Aside0.mk (Kd.R_below F292.out hb_)
                          replace F295 := Aside0.mk (Kd.S_below F295.out hb_)
                          replace HBs := Aside0.mk (below_step HBs.out hb_)
                          replace HBw := Aside0.mk (below_step HBw.out hb_)
                          clear hb_
                          refine hK.out _ _ ⟨((HBs.out.block _ (blk_lt HXB0.out)).trans HXB0.out), ((HBs.out.block _ (blk_lt HXB1.out)).trans HXB1.out)⟩ (fun hHeld => ?_)
                          clear hK K
                          refine norm_ (a' := ?_) ?_ ?_
                          rotate_left
                          · show Act.put _ (some 78) _ = _
                            simp only [Act.put, List.setIfInBounds_toArray, List.set_cons_zero, List.set_cons_succ, i64_w, i32_w]
                            rfl
                          refine one_ (i := 4) (N := some 79) #[true, true, true, true, true, true, false] rfl rfl (by kernel_rfl) (by decide) (fun K hK => ?_)
                          refine goes_ Try.func42 (by kernel_rfl) rfl #[.agg #[.slice Ao290 t177.length co291, .slice Ao293 t180.length co294, .int .i64 t183, .bool t184], .agg #[.slice Ao296 t185.length co297, .int .i64 t188, .int .i64 t189]] (by rfl) rfl rfl (by (try simp only [List.map_toArray, List.map_cons, List.map_nil]); first | done | rfl | (simp only [List.length_drop, List.length_take]; rfl)) ?_
                          with_reducible refine (impl_DevCrash.calls _ _ t177 _ _ t180 t183 t184 _ _ t185 t188 t189 t190 t193 t196 t197 _ ((Kd.R_reads' F292.out).2.2) (R_capn F292.out) ((Kd.S_reads' F295.out).2.2) (S_capn F295.out) ((Kd.R_reads' F298.out).2.2) (R_capn F298.out) A75.out).mono ?_
                          rintro e wn_ ⟨vr3_, vr4_, rfl, hvr3_, hvr4_, hb_⟩
                          refine ⟨_, rfl, ?_⟩
                          have F301 := Aside0.mk (Kd.R_lower hvr3_ HBs.out.size)
                          have F304 := Aside0.mk (Kd.S_lower hvr4_ HBs.out.size)
                          obtain ⟨Ao299, co300, eo_⟩ := Kd.R_slice F301.out
                          subst eo_
                          obtain ⟨Ao302, co303, eo_⟩ := Kd.S_slice F304.out
                          subst eo_
                          clear hvr3_ hvr4_
                          replace HBox := Aside0.mk ((hb_.block _ (blk_lt HBox.out)).trans HBox.out)
                          replace F292 := Aside0.mk (Kd.R_below F292.out hb_)
                          replace F295 := Aside0.mk (Kd.S_below F295.out hb_)
                          replace F298 := Aside0.mk (Kd.R_below F298.out hb_)
                          replace HBs := Aside0.mk (below_step HBs.out hb_)
                          replace HBw := Aside0.mk (below_step HBw.out hb_)
                          clear hb_
                          refine hK.out _ _ ⟨((HBs.out.block _ (blk_lt HXB0.out)).trans HXB0.out), ((HBs.out.block _ (blk_lt HXB1.out)).trans HXB1.out)⟩ (fun hHeld => ?_)
                          clear hK K
                          refine norm_ (a' := ?_) ?_ ?_
                          rotate_left
                          · show Act.put _ (some 79) _ = _
                            simp only [Act.put, List.setIfInBounds_toArray, List.set_cons_zero, List.set_cons_succ, i64_w, i32_w]
                            rfl
                          exact norm_ (by simp only [putAll, Act.put, List.setIfInBounds_toArray, List.set_cons_zero, List.set_cons_succ]) (hCont (gn_, .slice Ao290 t177.length co291, .slice Ao293 t180.length co294, .slice Ao296 t185.length co297, .slice Ao299 t190.length co300, .slice Ao302 t193.length co303) _ ⟨hHeld, HBs.out, HGn.out, HBox.out, F301.out, F304.out⟩)
                      rintro ⟨g305, vr0_, vr1_, vr2_, vr3_, vr4_⟩ w306 ⟨hHeld, hB_, hG_, hbox_, hvr3_, hvr4_⟩
                      obtain ⟨Ao299, co300, eo_⟩ := Kd.R_slice hvr3_
                      subst eo_
                      obtain ⟨Ao302, co303, eo_⟩ := Kd.S_slice hvr4_
                      subst eo_
                      have H307 := Aside0.mk (Hist.step H286.out hB_)
                      clear H286 hB_ HBs HBw HXB0 HXB1
                      refine norm_ (a' := ?_) ?_ ?_
                      rotate_left
                      · simp only [putAll, Act.put, List.setIfInBounds_toArray, List.set_cons_zero, List.set_cons_succ]
                        rfl
                      have G309 := Aside0.mk hG_
                      have L310 := Aside0.mk (blk_lt hbox_)
                      have HBox := Aside0.mk hbox_
                      have F301 := Aside0.mk (Kd.R_mono (Kd.R_bound hvr3_) (fun k_ hk_ => (⟨hk_.1, hk_.2.1, hk_.2.2.1⟩ : _ ∧ w287.heap.size ≤ k_ ∧ k_ < w306.heap.size)))
                      clear hvr3_
                      have F304 := Aside0.mk (Kd.S_mono (Kd.S_bound hvr4_) (fun k_ hk_ => (⟨hk_.1, hk_.2.1, hk_.2.2.1⟩ : _ ∧ w287.heap.size ≤ k_ ∧ k_ < w306.heap.size)))
                      clear hvr4_
                      clear hG_ hbox_
                      refine one_ (i := 6) (N := none) #[true, true, true, true, true, true, true] rfl rfl (by kernel_rfl) (by decide) (fun K hK => ?_)
                      refine st_step (by rfl) rfl rfl ?hp (cs := #[.slice Ao299 t190.length co300, .slice Ao302 t193.length co303, .int .i64 t196, .bool t197]) ?hx HBox.out (by kernel_rfl) rfl (by simp [Value.oneCell']) ?_
                      case hp => rfl
                      case hx => rfl
                      intro w311 hbx_ hs_
                      have n_ := Aside0.mk (R_other F301.out HBox.out (by decide) hs_)
                      clear F301
                      have F301 := n_
                      clear n_
                      have n_ := Aside0.mk (S_other F304.out HBox.out (by decide) hs_)
                      clear F304
                      have F304 := n_
                      clear n_
                      have H312 : Aside0 (Hist w [(w311, w287.heap.size, w306.heap.size), (w243, w240.heap.size, w243.heap.size), (w219, w216.heap.size, w219.heap.size), (w208, w182.heap.size, w200.heap.size), (w274, w178.heap.size, w182.heap.size), (w178, w159.heap.size, w170.heap.size), (w265, w155.heap.size, w159.heap.size), (w155, w129.heap.size, w147.heap.size), (w256, w127.heap.size, w129.heap.size), (w127, w103.heap.size, w122.heap.size), (w88, w79.heap.size, w88.heap.size), (w79, w.heap.size, w79.heap.size)] w311) := ⟨Hist.mark' (w := w306) (b := w287.heap.size) (t := w306.heap.size) (l1 := []) (l2 := [(w243, w240.heap.size, w243.heap.size), (w219, w216.heap.size, w219.heap.size), (w208, w182.heap.size, w200.heap.size), (w274, w178.heap.size, w182.heap.size), (w178, w159.heap.size, w170.heap.size), (w265, w155.heap.size, w159.heap.size), (w155, w129.heap.size, w147.heap.size), (w256, w127.heap.size, w129.heap.size), (w127, w103.heap.size, w122.heap.size), (w88, w79.heap.size, w88.heap.size), (w79, w.heap.size, w79.heap.size)]) (by simp only [List.cons_append, List.nil_append]) (by simp only [List.cons_append, List.nil_append]) H307.out hs_ (fun k_ hk_ => by rw [hk_]; exact ⟨G309.out, L310.out⟩)⟩
                      have B308 := Aside0.mk hbx_
                      clear H307 hs_ hbx_ HBox
                      refine hK.out _ _ ⟨(blk_fix2 B84.out ⟨G85.out, L86.out⟩ H312.out.fixes.tl.tl.tl.tl.tl.tl.tl.tl.tl.tl.tl.hd), (blk_fix2 B93.out ⟨G94.out, L95.out⟩ H312.out.fixes.tl.tl.tl.tl.tl.tl.tl.tl.tl.tl.hd)⟩ (fun hHeld => ?_)
                      clear hK K
                      refine done_ (by kernel_rfl) ?_
                      try dsimp only
                      go_wp2_with (first | ((with_reducible refine gate_dst (N := 80) rfl ?_); refine ld ?hw rfl ?hx (blk_fix2 B308.out ⟨G309.out, L310.out⟩ H312.out.fixes.hd) Try.underlying35 rfl (by kernel_rfl) ?_; (case hw => rfl); (case hx => rfl); refine normL (a' := ?_) ?hn ?_; (case hn => first | (simp only [Act.put, List.setIfInBounds_toArray, List.set_cons_zero, List.set_cons_succ]; rfl) | rfl)) | ((with_reducible refine gate_dst (N := 81) rfl ?_); refine ld ?hw rfl ?hx (blk_fix2 B124.out ⟨G125.out, L126.out⟩ H312.out.fixes.tl.tl.tl.tl.tl.tl.tl.tl.tl.hd) Try.underlying35 rfl (by kernel_rfl) ?_; (case hw => rfl); (case hx => rfl); refine normL (a' := ?_) ?hn ?_; (case hn => first | (simp only [Act.put, List.setIfInBounds_toArray, List.set_cons_zero, List.set_cons_succ]; rfl) | rfl)) | (((with_reducible refine gate_callee (f := 24) rfl ?_)); refine goesW (some 82) rfl ?hw Try.func24 (by kernel_rfl) rfl #[.agg #[.slice Ao299 t190.length co300, .slice Ao302 t193.length co303, .int .i64 t196, .bool t197], .agg #[.slice Ao115 t118.length co116, .slice Ao118 t121.length co119, .int .i64 t124, .bool t125]] rfl (by (try simp only [List.map_toArray, List.map_cons, List.map_nil]); first | done | rfl | (simp only [List.length_drop, List.length_take]; rfl)) ?_; (case hw => rfl); with_reducible refine (laws_eqDev.calls k _ _ t190 _ _ t193 t196 t197 _ _ t118 _ _ t121 t124 t125 true _ ?side1 ?side2 ?side3 ?side4 ?side5 ?side6 ?side7 ?side8 A76.out).mono ?_; (case side1 => exact (Kd.R_reads' (R_fix2 F301.out H312.out.fixes.hd)).2.2); (case side2 => exact R_capn (R_fix2 F301.out H312.out.fixes.hd)); (case side3 => exact (Kd.S_reads' (S_fix2 F304.out H312.out.fixes.hd)).2.2); (case side4 => exact S_capn (S_fix2 F304.out H312.out.fixes.hd)); (case side5 => exact (Kd.R_reads' (R_fix2 F117.out H312.out.fixes.tl.tl.tl.tl.tl.tl.tl.tl.tl.hd)).2.2); (case side6 => exact R_capn (R_fix2 F117.out H312.out.fixes.tl.tl.tl.tl.tl.tl.tl.tl.tl.hd)); (case side7 => exact (Kd.S_reads' (S_fix2 F120.out H312.out.fixes.tl.tl.tl.tl.tl.tl.tl.tl.tl.hd)).2.2); (case side8 => exact S_capn (S_fix2 F120.out H312.out.fixes.tl.tl.tl.tl.tl.tl.tl.tl.tl.hd)); rintro e w313 ⟨rfl, hb314⟩; refine ⟨_, rfl, ?_⟩; have H315 := Aside0.mk (Hist.pass H312.out hb314); clear H312; clear hb314; refine normL (a' := ?_) ?hn ?_; (case hn => first | (simp only [Act.put, List.setIfInBounds_toArray, List.set_cons_zero, List.set_cons_succ]; rfl) | rfl)))
                      go_ret
                      exact ⟨rfl, by first | exact H315.out.below | exact Drawn0.refl _⟩
                    · rw [if_neg c77] at H
                      exact absurd H (by simp)
                  · rw [if_neg c72] at H
                    exact absurd H (by simp)
              · rw [if_neg c68] at H
                exact absurd H (by simp)
          · rw [if_neg c63] at H
            exact absurd H (by simp)
        · rw [if_neg c60] at H
          exact absurd H (by simp)
      · rw [if_neg c57] at H
        exact absurd H (by simp)

end Go.Proofs.Ytbdbeccaopphaaa.Q
namespace Go.Proofs.Ytbdbeccaopphaaa.O
open Go.RowKit Go.Proofs.YtbdbeccaopphaaaW.PrintWords

/-- Cells that read as data of type t are cells of the kind d, of a value that meets ok. -/
def Opens {α : Type} (P : Program) (t : TypeId) (d : Kd α) (ok : α → Prop) : Prop :=
  ∀ (H : Type) (enc : TypeId × Value → H) (w : World) (fuel : Nat) (cs : List Value) (y : DataW H × List MemPlace),
    DataW.trod enc P w 0 (fun _ => true) true fuel t cs = some y → ∃ x, d.K w x cs ∧ ok x

section
variable {α β : Type} {P : Program} {t e : TypeId} {d : Kd α} {ok : α → Prop}

theorem opens_int {k : IntKind} (ht : P.underlying t = some (.int k)) : Opens P t (Kd.int k) (fun n => (Lit.int k n).wf = true) := by
  intro H enc w fuel cs y h
  obtain ⟨n, rfl, _, hw⟩ := DataW.trod_int ht h
  exact ⟨n, rfl, hw⟩
theorem opens_bool (ht : P.underlying t = some .bool) : Opens P t Kd.bool (fun _ => True) := by
  intro H enc w fuel cs y h
  obtain ⟨n, rfl, _⟩ := DataW.trod_bool ht h
  exact ⟨n, rfl, trivial⟩
theorem list_of {p : Nat → α → Prop} : ∀ n, (∀ i, i < n → ∃ x, p i x) → ∃ xs : List α, xs.length = n ∧ ∀ i x, xs[i]? = some x → p i x
  | 0, _ => ⟨[], rfl, by simp⟩
  | n + 1, h => by
    obtain ⟨xs, hl, hp⟩ := list_of n (fun i hi => h i (by omega))
    obtain ⟨x, hx⟩ := h n (by omega)
    refine ⟨xs ++ [x], by simp [hl], fun i z hz => ?_⟩
    by_cases hi : i < n
    · rw [List.getElem?_append_left (by omega)] at hz
      exact hp i z hz
    · have : i < n + 1 := by
        have := (List.getElem?_eq_some_iff.1 hz).1
        simp [hl] at this
        exact this
      obtain rfl : i = n := by omega
      rw [List.getElem?_append_right (by omega)] at hz
      simp [hl] at hz
      exact hz ▸ hx
theorem opens_slice (ht : P.underlying t = some (.slice e)) (hc : P.cellsOf e = d.sz) (he : Opens P e d ok) :
    Opens P t (Kd.slice e d) (fun xs => xs.length ≤ 9223372036854775807 ∧ ∀ x ∈ xs, ok x) := by
  intro H enc w fuel cs y h
  rcases DataW.trod_slice ht h with ⟨rfl, _⟩ | ⟨a, len, cap, elems, rest, n, _, rfl, _, _, hl, hm, hlen, hel, _, _⟩
  · exact ⟨[], ⟨none, 0, rfl, Nat.le_refl _, Kd.C_nil d w⟩, by simp, by simp⟩
  · have each : ∀ i, i < len → ∃ x, ∃ c, w.cells? 0 (a.add (i * d.sz)) d.sz = some c ∧ d.K w x c ∧ ok x := by
      intro i hi
      have h1 := hel i hi
      rw [hc, List.getElem?_eq_getElem (by omega)] at h1
      obtain ⟨c, h2, h3⟩ := Option.bind_eq_some_iff.1 h1
      obtain ⟨x, hx, hok⟩ := he H enc w n c _ h3
      exact ⟨x, c, h2, hx, hok⟩
    obtain ⟨xs, hxl, hxs⟩ := list_of len each
    refine ⟨xs, ⟨some a, cap, by rw [hxl], by omega, ?_⟩, by unfold maxLen at hm; omega, fun x hx => ?_⟩
    · refine ⟨rfl, by unfold maxLen at hm; omega, fun _ => ⟨a, rfl, fun j p hp => ?_⟩⟩
      obtain ⟨c, h2, h3, _⟩ := hxs j p hp
      refine ⟨c, d.K_len h3, h3, fun i u hu => ?_⟩
      have hi : i < c.length := (List.getElem?_eq_some_iff.1 hu).1
      have h4 := World.cells?_some h2
      rw [d.K_len h3] at hi
      rw [← Addr.add_add, (h4.2.2 i hi), hu]
    · obtain ⟨i, hi⟩ := List.getElem?_of_mem hx
      obtain ⟨_, _, _, hok⟩ := hxs i x hi
      exact hok
/-- A struct's fields from some field on. -/
def OpensFs {α : Type} (P : Program) (fs : List Field) (off : Nat) (d : Kd α) (ok : α → Prop) : Prop :=
  ∀ (H : Type) (enc : TypeId × Value → H) (w : World) (n : Nat) (cs : List Value) (xs : List (DataW H × List MemPlace)),
    cs.length = off + d.sz → (∀ (i : Nat) (f : Field), fs[i]? = some f → DataW.trod enc P w 0 (fun _ => true) true n f.type ((cs.drop f.offset).take (P.cellsOf f.type)) = xs[i]?) →
    fs.length ≤ xs.length → ∃ x, d.K w x (cs.drop off) ∧ ok x
theorem opensFs_one {f : Field} {off : Nat} (ho : f.offset = off) (hc : P.cellsOf f.type = d.sz) (h : Opens P f.type d ok) : OpensFs P [f] off d ok := by
  intro H enc w n cs xs hl hf hx
  have h1 := hf 0 f rfl
  simp only [List.length_cons, List.length_nil] at hx
  rw [List.getElem?_eq_getElem (by omega)] at h1
  rw [ho, hc, List.take_of_length_le (by simp; omega)] at h1
  exact h H enc w n _ _ h1
theorem opensFs_cons {f : Field} {fs : List Field} {off : Nat} {d2 : Kd β} {ok2 : β → Prop} (ho : f.offset = off) (hc : P.cellsOf f.type = d.sz) (h : Opens P f.type d ok)
    (h2 : OpensFs P fs (off + d.sz) d2 ok2) : OpensFs P (f :: fs) off (Kd.pair d d2) (fun x => ok x.1 ∧ ok2 x.2) := by
  intro H enc w n cs xs hl hf hx
  have hl' : cs.length = off + (d.sz + d2.sz) := hl
  simp only [List.length_cons] at hx
  have h1 := hf 0 f rfl
  rw [List.getElem?_eq_getElem (by omega)] at h1
  rw [ho, hc] at h1
  obtain ⟨x, hxk, hxo⟩ := h H enc w n _ _ h1
  obtain ⟨y, hyk, hyo⟩ := h2 H enc w n cs (xs.drop 1) (by omega) (fun i g hg => by
    have := hf (i + 1) g (by simpa using hg)
    rw [this, List.getElem?_drop]
    congr 1
    omega) (by simp; omega)
  refine ⟨(x, y), ⟨_, _, ?_, hxk, hyk⟩, hxo, hyo⟩
  rw [← List.drop_drop]
  exact (List.take_append_drop _ _).symm
theorem opens_struct {fs : List Field} (ht : P.underlying t = some (.struct fs.toArray)) (hc : P.cellsOf t = d.sz) (h : OpensFs P fs 0 d ok) (f : β → α) (g : α → β) (hfg : ∀ a, f (g a) = a) :
    Opens P t (Kd.iso d f) (fun x => ok (f x)) := by
  intro H enc w fuel cs y h0
  obtain ⟨xs, n, _, _, hlen, hxl, hf⟩ := DataW.trod_struct ht h0
  obtain ⟨a, hk, ho⟩ := h H enc w n cs xs (by omega) (fun i f hi => hf i f (by simpa using hi)) (by simp at hxl; omega)
  refine ⟨g a, ?_, ?_⟩
  · show d.K w (f (g a)) cs
    rw [hfg]
    simpa using hk
  · show ok (f (g a))
    rw [hfg]
    exact ho
end
end Go.Proofs.Ytbdbeccaopphaaa.O
