/- Part 5 of 6 of the proof that the law FnExactDecodeSnap returns true at every input. No further condition. -/
import Derived.Laws.Cover3
import Derived.ChangeArms
import Derived.DataReads
import Derived.Test.YtgfadfahbhcllaaMFnExactDecodeSnap4
section
namespace Go.Proofs.Ytgfadfahbhcllaa.Q
open Go.RowKit Go.Proofs.YtgfadfahbhcllaaW.PrintWords Go.Proofs.YtgfadfahbhcllaaW.PrintLast Go.Proofs.Ytgfadfahbhcllaa.LK Go.Proofs.YtgfadfahbhcllaaW.PrintMore
attribute [local go_sem] max2_int min2_int max_two min_two max_three min_three max_four min_four
set_option linter.unusedVariables false
set_option linter.unusedSimpArgs false
def laws_markInt64S.l0 : Nat → List Int → Int → Int → Option (Int × List Int)
  | 0, _, _, _ => none
  | k + 1, x0, x1, x5 => if x5 < (x0.length : Int) then (if 0 ≤ x5 then (laws_markInt64S.l0 k (x0.set (x5 : Int).toNat x1) (wrap64 (x1 + 1)) (wrap64 (x5 + 1))) else (none)) else (some (x1, x0))
def laws_markInt64S.f (k : Nat) (l0 : List Int) (a1 : Int) : Option (Int × List Int) := laws_markInt64S.l0 k l0 a1 0
set_option maxHeartbeats 8000000 in
set_option maxRecDepth 100000 in
theorem laws_markInt64S.calls (k : Nat) (P0_ : Nat → Prop) (u9000_ : Value) (l0 : List Int) (a1 : Int) (r1 : Int) (r2 : List Int) (w0 w : World) (hB : Below w0.heap.size w0 w) (ho0 : Kd.R (Kd.int .i64) 2 w w0.heap.size P0_ u9000_ l0) (h : laws_markInt64S.f k l0 a1 = some (r1, r2)) :
    Calls Try.prog 70 #[u9000_, .int .i64 a1] w fun e w' => e = .returned (.int .i64 r1) ∧ Kd.R (Kd.int .i64) 2 w' w0.heap.size (fun k_ => (P0_ k_ ∨ w.heap.size ≤ k_)) u9000_ r2 ∧ Below w0.heap.size w0 w' ∧ Kept w w' (fun k_ => P0_ k_) := by
  have HO0 := Aside0.mk (show Kd.R (Kd.int .i64) 2 w w0.heap.size (fun k_ => (P0_ k_ ∨ w.heap.size ≤ k_)) u9000_ l0 from Kd.R_mono ho0 (fun k_ hk => (.inl hk)))
  have HK := Aside0.mk (Kept.refl w (fun k_ => P0_ k_))
  have HW0 := Aside0.mk hB.size
  have HB := Aside0.mk hB
  clear hB
  have H : (laws_markInt64S.l0 k l0 a1 0) = some (r1, r2) := h
  clear h
  have H' := Aside0.mk H
  clear H
  go_enter Try.func70, Try.ntmps70
  go_wp2
  go_loopg [1, 5] k (fun kq v1 v5 w' => ∃ (x0_1 : List Int) (x1_1 : Int) (x5_1 : Int), v1 = .int .i64 x1_1 ∧ v5 = .int .i64 x5_1 ∧ Aside0 (laws_markInt64S.l0 kq x0_1 x1_1 x5_1 = some (r1, r2)) ∧ Aside0 (kq ≤ k) ∧ Aside0 (Kd.R (Kd.int .i64) 2 w' w0.heap.size (fun k_ => (P0_ k_ ∨ w.heap.size ≤ k_)) u9000_ x0_1) ∧ Aside0 (Kept w w' (fun k_ => P0_ k_)) ∧ Aside0 (Below w0.heap.size w0 w'))
  case atStart => exact ⟨(l0), (a1), (0), (by first | rfl | (simp; done) | (simp [*]; done)), (by first | rfl | (simp; done) | (simp [*]; done)), H', ⟨Nat.le_refl _⟩, ⟨by (with_reducible repeat (first | apply Kd.R_alloc | apply Kd.R_drewN | apply Kd.R_drew)); exact HO0.out⟩, ⟨by repeat (first | (with_reducible first | exact HK.out | apply Kept.alloc | apply Kept.drewN | apply Kept.drew) | exact HK.out)⟩, ⟨by repeat (first | (with_reducible first | exact HB.out | apply below_alloc | apply pw_below_drewN | apply below_drew1) | exact HB.out)⟩⟩
  case round =>
    clear H'
    try clear p2
    obtain ⟨x0_1, x1_1, x5_1, rfl, rfl, HA, HK1, HO_0, HK, HB⟩ := hrel
    cases gk with
    | zero => exact absurd HA.out (by simp [laws_markInt64S.l0])
    | succ k1 =>
      have H := HA.out
      clear HA
      simp only [laws_markInt64S.l0] at H
      by_cases c3 : x5_1 < (x0_1.length : Int)
      · rw [if_pos c3] at H
        have c3b0 : decide (x5_1 < (x0_1.length : Int)) = true := decide_eq_true c3
        clear c3
        by_cases c4 : 0 ≤ x5_1
        · rw [if_pos c4] at H
          have c4b0 : decide (0 ≤ x5_1) = true := decide_eq_true c4
          clear c4
          obtain ⟨y101, hy101⟩ : ∃ y_ : List Int, y_ = (x0_1.set (x5_1 : Int).toNat x1_1) := ⟨_, rfl⟩
          replace H : (laws_markInt64S.l0 k1 y101 (wrap64 (x1_1 + 1)) (wrap64 (x5_1 + 1))) = some (r1, r2) := by first | (rw [hy101]; with_reducible exact H) | (have H2_ := (Option.bind_some _ _).symm.trans H; rw [hy101]; with_reducible exact H2_) | (have H2_ := (Option.bind_some _ _).symm.trans H; with_reducible exact H2_) | with_reducible exact H | (rw [hy101]; exact H) | exact H
          have Ny101 := Aside0.mk hy101
          clear hy101
          have H' := Aside0.mk H
          clear H
          obtain ⟨Ao6, co6, eo6⟩ := Kd.R_slice HO_0.out
          subst eo6
          have p5 : 0 ≤ (x5_1 : Int) := of_decide_eq_true (by first | (with_reducible assumption) | assumption)
          have q5 : (x5_1 : Int) < ((x0_1.length : Int) : Int) := of_decide_eq_true (by first | (with_reducible assumption) | assumption)
          obtain ⟨go5, co5, eo5, gb5, gl5, cl5, HG5⟩ := Kd.R_form HO_0.out (by omega)
          (first | cases eo5 | (injection eo5 with ea_ en_ ec_; (first | subst ea_ | (injection ea_ with ea_; subst ea_)); subst ec_; clear en_))
          have GB5 := Aside0.mk gb5
          have GG5 := Aside0.mk HG5
          clear gb5 gl5 HG5
          have HMgo5 := Aside0.mk (show (P0_ go5 ∨ w.heap.size ≤ go5) from (HO_0.out.1 _ rfl))
          obtain ⟨hx5_0, hf5_0⟩ := Kd.R_celln 0 HO_0.out (x5_1 : Int) p5 q5
          replace p5 := eq_true p5
          replace q5 := eq_true q5
          have HP7 := Kd.R_putg HO_0.out (x5_1 : Int) x1_1
          go_wp2_with (first | ((with_reducible refine gate_store (t := 2) (p := 15) rfl ?_); refine store_event (t := 2) (p := 15) (v := ?vo_w8) (w1 := (wr.setCell ⟨go5, (x5_1 : Int).toNat, none⟩ (.int .i64 x1_1))) ?hg ?ho ?hn ?hr ?_; (case ho => rfl); (case hg => rfl); (case hn => rfl); (case hr => first | (go_simp; done) | (go_simp; rfl)); intro w8 hw; have hg : wr.grownBy w8 (some go5) := (by rw [hw]; exact HP7.2); have hp_ : Kd.R (Kd.int .i64) 2 w8 w0.heap.size (fun k_ => (P0_ k_ ∨ w.heap.size ≤ k_)) (.slice (some ⟨go5, 0, none⟩) x0_1.length co6) y101 := (by rw [hw, Ny101.out]; exact HP7.1); clear HP7; have n0_ := Aside0.mk (hp_); have n1_ := Aside0.mk ((by rw [hw]; exact below_set (HB.out) GB5.out : Below w0.heap.size w0 w8)); have n2_ := Aside0.mk (Kept.of_grown (S := (fun k_ => P0_ k_)) hg (by repeat (first | (with_reducible first | exact HK.out | apply Kept.alloc | apply Kept.drewN | apply Kept.drew) | exact HK.out)) (fun k_ e_ => (HO_0.out.1 k_ e_))); clear HO_0; clear HB; clear HK; have HO_0 := n0_; have HB := n1_; have HK := n2_; clear n0_ n1_ n2_; clear hg hw hp_))
          go_roundg k1
          case measure => have := HK1.out; omega
          case rel => exact ⟨(y101), (wrap64 (x1_1 + 1)), (wrap64 (x5_1 + 1)), (by first | rfl | (simp; done) | (simp [*]; done)), (by first | rfl | (simp; done) | (simp [*]; done)), H', ⟨by have := HK1.out; omega⟩, ⟨by (with_reducible repeat (first | apply Kd.R_alloc | apply Kd.R_drewN | apply Kd.R_drew)); exact HO_0.out⟩, ⟨by repeat (first | (with_reducible first | exact HK.out | apply Kept.alloc | apply Kept.drewN | apply Kept.drew) | exact HK.out)⟩, ⟨by repeat (first | (with_reducible first | exact HB.out | apply below_alloc | apply pw_below_drewN | apply below_drew1) | exact HB.out)⟩⟩
        · rw [if_neg c4] at H
          exact absurd H (by simp)
      · rw [if_neg c3] at H
        have c3b0 : decide (x5_1 < (x0_1.length : Int)) = false := decide_eq_false c3
        clear c3
        simp only [Option.some.injEq, Prod.mk.injEq] at H
        obtain ⟨rfl, rfl⟩ := H
        obtain ⟨Ao9, co9, eo9⟩ := Kd.R_slice HO_0.out
        subst eo9
        go_wp2
        go_ret
        exact ⟨by first | rfl | (simp [errW_none, errW_some] <;> rfl) | (simp [*, errW_none, errW_some] <;> rfl), by (with_reducible repeat (first | apply Kd.R_alloc | apply Kd.R_drewN | apply Kd.R_drew)); exact HO_0.out, by repeat (first | (with_reducible first | exact HB.out | apply below_alloc | apply pw_below_drewN | apply below_drew1) | exact HB.out), by repeat (first | (with_reducible first | exact HK.out | apply Kept.alloc | apply Kept.drewN | apply Kept.drew) | exact HK.out)⟩
end Go.Proofs.Ytgfadfahbhcllaa.Q
end
section
namespace Go.Proofs.Ytgfadfahbhcllaa.Q
open Go.RowKit Go.Proofs.YtgfadfahbhcllaaW.PrintWords Go.Proofs.YtgfadfahbhcllaaW.PrintLast Go.Proofs.Ytgfadfahbhcllaa.LK Go.Proofs.YtgfadfahbhcllaaW.PrintMore
attribute [local go_sem] max2_int min2_int max_two min_two max_three min_three max_four min_four
set_option linter.unusedVariables false
set_option linter.unusedSimpArgs false
def laws_markSnap.f (k : Nat) (a0_0 : Int) (a0_1 : Int) (l0_2 : List Int) (l0_3 : List Int) (a1 : Int) : Option (Int × List Int × List Int) := (laws_markInt64S.f k l0_2 a1).bind fun bt102 => ((laws_markInt64S.f k l0_3 bt102.1).bind fun bt104 => (some (bt104.1, bt102.2, bt104.2)))
set_option maxHeartbeats 8000000 in
set_option maxRecDepth 100000 in
theorem laws_markSnap.calls (k : Nat) (a0_0 : Int) (a0_1 : Int) (P0_2_ : Nat → Prop) (u9000_ : Value) (l0_2 : List Int) (P0_3_ : Nat → Prop) (u9001_ : Value) (l0_3 : List Int) (a1 : Int) (r1 : Int) (r2 : List Int) (r3 : List Int) (w0 w : World) (hB : Below w0.heap.size w0 w) (ho0_2 : Kd.R (Kd.int .i64) 2 w w0.heap.size P0_2_ u9000_ l0_2) (hp0_2_0_3 : ∀ k_, P0_2_ k_ → ¬ P0_3_ k_) (ho0_3 : Kd.R (Kd.int .i64) 2 w w0.heap.size P0_3_ u9001_ l0_3) (hp0_3_0_2 : ∀ k_, P0_3_ k_ → ¬ P0_2_ k_) (h : laws_markSnap.f k a0_0 a0_1 l0_2 l0_3 a1 = some (r1, r2, r3)) :
    Calls Try.prog 29 #[.agg #[.int .u32 a0_0, .int .u32 a0_1, u9000_, u9001_], .int .i64 a1] w fun e w' => e = .returned (.int .i64 r1) ∧ Kd.R (Kd.int .i64) 2 w' w0.heap.size (fun k_ => ((P0_2_ k_ ∨ P0_3_ k_) ∨ w.heap.size ≤ k_)) u9000_ r2 ∧ Kd.R (Kd.int .i64) 2 w' w0.heap.size (fun k_ => ((P0_2_ k_ ∨ P0_3_ k_) ∨ w.heap.size ≤ k_)) u9001_ r3 ∧ Below w0.heap.size w0 w' ∧ Kept w w' (fun k_ => P0_2_ k_ ∨ P0_3_ k_) := by
  have hu44 := Try.underlying44
  have HO0_2 := Aside0.mk (show Kd.R (Kd.int .i64) 2 w w0.heap.size (fun k_ => ((P0_2_ k_ ∨ P0_3_ k_) ∨ w.heap.size ≤ k_) ∧ some k_ ≠ (u9001_ : Value).ownBlock) u9000_ l0_2 from Kd.R_mono ho0_2 (fun k_ hk => ⟨(.inl (.inl hk)), fun e_ => hp0_2_0_3 k_ hk (ho0_3.1 k_ e_.symm)⟩))
  have HO0_3 := Aside0.mk (show Kd.R (Kd.int .i64) 2 w w0.heap.size (fun k_ => ((P0_2_ k_ ∨ P0_3_ k_) ∨ w.heap.size ≤ k_) ∧ some k_ ≠ (u9000_ : Value).ownBlock) u9001_ l0_3 from Kd.R_mono ho0_3 (fun k_ hk => ⟨(.inl (.inr hk)), fun e_ => hp0_3_0_2 k_ hk (ho0_2.1 k_ e_.symm)⟩))
  have HK := Aside0.mk (Kept.refl w (fun k_ => P0_2_ k_ ∨ P0_3_ k_))
  have HW0 := Aside0.mk hB.size
  have HB := Aside0.mk hB
  clear hB
  have H : ((laws_markInt64S.f k l0_2 a1).bind fun bt102 => ((laws_markInt64S.f k l0_3 bt102.1).bind fun bt104 => (some (bt104.1, bt102.2, bt104.2)))) = some (r1, r2, r3) := h
  clear h
  replace H := Option.bind_eq_some_iff.mp H
  obtain ⟨⟨t102, t103⟩, A30, H⟩ := H
  replace H : ((laws_markInt64S.f k l0_3 t102).bind fun bt104 => (some (bt104.1, t103, bt104.2))) = some (r1, r2, r3) := H
  have A3 := Aside0.mk A30
  clear A30
  replace H := Option.bind_eq_some_iff.mp H
  obtain ⟨⟨t104, t105⟩, A40, H⟩ := H
  replace H : (some (t104, t103, t105)) = some (r1, r2, r3) := H
  have A4 := Aside0.mk A40
  clear A40
  simp only [Option.some.injEq, Prod.mk.injEq] at H
  obtain ⟨rfl, rfl, rfl⟩ := H
  obtain ⟨Ao5, co5, eo5⟩ := Kd.R_slice HO0_2.out
  subst eo5
  obtain ⟨Ao6, co6, eo6⟩ := Kd.R_slice HO0_3.out
  subst eo6
  go_enter Try.func29, Try.ntmps29
  go_wp2_with (first | ((with_reducible refine gate_dst (N := 2) rfl ?_); refine box_event ?hg (N := 2) ?hd (cs := #[.int .u32 a0_0, .int .u32 a0_1, .slice Ao5 l0_2.length co5, .slice Ao6 l0_3.length co6]) (t := 44) ?hr ?_; (case hd => rfl); (case hg => rfl); (case hr => first | (go_simp; done) | (go_simp; rfl)); intro gb101 hg w7 hbox hb; have n0_ := Aside0.mk (Kd.R_below (by (with_reducible repeat (first | apply Kd.R_alloc | apply Kd.R_drewN | apply Kd.R_drew)); exact HO0_2.out) hb); have n1_ := Aside0.mk (Kd.R_below (by (with_reducible repeat (first | apply Kd.R_alloc | apply Kd.R_drewN | apply Kd.R_drew)); exact HO0_3.out) hb); have n2_ := Aside0.mk (Kept.below (S := (fun k_ => P0_2_ k_ ∨ P0_3_ k_)) (by repeat (first | (with_reducible first | exact HK.out | apply Kept.alloc | apply Kept.drewN | apply Kept.drew) | exact HK.out)) hb); have n3_ := Aside0.mk (below_step (by repeat (first | (with_reducible first | exact HB.out | apply below_alloc | apply pw_below_drewN | apply below_drew1) | exact HB.out)) hb); have n4_ := Aside0.mk (hbox); have n5_ := Aside0.mk ((by rw [hg]; exact (by first | exact HK.out.1 | exact (show Kept w _ (fun k_ => P0_2_ k_ ∨ P0_3_ k_) from by repeat (first | (with_reducible first | exact HK.out | apply Kept.alloc | apply Kept.drewN | apply Kept.drew) | exact HK.out)).1) : w.heap.size ≤ gb101)); have n6_ := Aside0.mk ((by rw [hg]; exact (below_size (by repeat (first | (with_reducible first | exact HB.out | apply below_alloc | apply pw_below_drewN | apply below_drew1) | exact HB.out))) : w0.heap.size ≤ gb101)); clear HO0_2; clear HO0_3; clear HK; clear HB; have HO0_2 := n0_; have HO0_3 := n1_; have HK := n2_; have HB := n3_; have BK101 := n4_; have GW101 := n5_; have GE101 := n6_; clear n0_ n1_ n2_ n3_ n4_ n5_ n6_; clear hb hbox hg; have hcz8_0 : w7.cell? ⟨gb101, 0, none⟩ = some (.int .u32 a0_0) := (blk_cell BK101.out 0).trans rfl; have hcz8_1 : w7.cell? ⟨gb101, 1, none⟩ = some (.int .u32 a0_1) := (blk_cell BK101.out 1).trans rfl; have hcz8_2 : w7.cell? ⟨gb101, 2, none⟩ = some (.slice Ao5 l0_2.length co5) := (blk_cell BK101.out 2).trans rfl; have hcz8_3 : w7.cell? ⟨gb101, 3, none⟩ = some (.slice Ao6 l0_3.length co6) := (blk_cell BK101.out 3).trans rfl; have hfz8_0 := blk_frozen BK101.out 0; have hfz8_1 := blk_frozen BK101.out 1; have hfz8_2 := blk_frozen BK101.out 2; have hfz8_3 := blk_frozen BK101.out 3) | ((with_reducible refine gate_callee (f := 70) rfl ?_); refine goesL_ (some 8) rfl rfl Try.func70 (by kernel_rfl) rfl #[.slice Ao5 l0_2.length co5, .int .i64 a1] rfl (by (try simp only [List.map_toArray, List.map_cons, List.map_nil]); first | done | rfl | (simp only [List.length_drop, List.length_take]; rfl)) ?_; (with_reducible refine (laws_markInt64S.calls k (fun k_ => some k_ = (.slice Ao5 l0_2.length co5 : Value).ownBlock) (.slice Ao5 l0_2.length co5) l0_2 a1 t102 t103 w0 _ ?side1 ?side2 A3.out).mono ?_); (case side1 => repeat (first | (with_reducible first | exact HB.out | apply below_alloc | apply pw_below_drewN | apply below_drew1 | refine below_set ?_ GE101.out) | exact HB.out)); (case side2 => exact Kd.R_tight rfl HO0_2.out); rintro e w9 ⟨rfl, hy0, hb, hkp⟩; refine ⟨_, rfl, ?_⟩; have n0_ := Aside0.mk (Kd.R_reok rfl hy0 (fun k_ e_ => HO0_2.out.1 k_ e_)); have n1_ := Aside0.mk (Kd.R_mono (ok' := fun k_ => ((P0_2_ k_ ∨ P0_3_ k_) ∨ w.heap.size ≤ k_) ∧ some k_ ≠ (.slice Ao5 l0_2.length co5 : Value).ownBlock) (Kd.R_keptB (HO0_3.out) hkp (fun k_ hk_ hs_ => (hk_.2) hs_)) (fun k_ hk_ => ⟨hk_.1.1, hk_.1.2⟩)); have n2_ := Aside0.mk (blk_kept (by (with_reducible repeat (first | refine blk_drewN ?_ _ | refine blk_drew ?_ | refine blk_alloc ?_ _)); exact BK101.out) hkp (fun hs_ => (fun e_ => (Kd.R_ne HO0_2.out BK101.out (by decide)) e_) hs_)); have n3_ := Aside0.mk (Kept.then_ (S := (fun k_ => P0_2_ k_ ∨ P0_3_ k_)) (by repeat (first | (with_reducible first | exact HK.out | apply Kept.alloc | apply Kept.drewN | apply Kept.drew | refine Kept.setCell ?_ (.inr GW101.out) _) | exact HK.out)) hkp (fun k_ hs_ => (fun e_ => (HO0_2.out.1 k_ e_.symm).1) hs_)); have n4_ := Aside0.mk (hb); clear HO0_2; clear HO0_3; clear BK101; clear HK; clear HB; have HO0_2 := n0_; have HO0_3 := n1_; have BK101 := n2_; have HK := n3_; have HB := n4_; clear n0_ n1_ n2_ n3_ n4_; (try clear hb); (try clear hkp); (try clear hy0); have hcz10_0 : w9.cell? ⟨gb101, 0, none⟩ = some (.int .u32 a0_0) := (blk_cell BK101.out 0).trans rfl; have hcz10_1 : w9.cell? ⟨gb101, 1, none⟩ = some (.int .u32 a0_1) := (blk_cell BK101.out 1).trans rfl; have hcz10_2 : w9.cell? ⟨gb101, 2, none⟩ = some (.slice Ao5 l0_2.length co5) := (blk_cell BK101.out 2).trans rfl; have hcz10_3 : w9.cell? ⟨gb101, 3, none⟩ = some (.slice Ao6 l0_3.length co6) := (blk_cell BK101.out 3).trans rfl; have hfz10_0 := blk_frozen BK101.out 0; have hfz10_1 := blk_frozen BK101.out 1; have hfz10_2 := blk_frozen BK101.out 2; have hfz10_3 := blk_frozen BK101.out 3) | ((with_reducible refine gate_callee (f := 70) rfl ?_); refine goesL_ (some 12) rfl rfl Try.func70 (by kernel_rfl) rfl #[.slice Ao6 l0_3.length co6, .int .i64 t102] rfl (by (try simp only [List.map_toArray, List.map_cons, List.map_nil]); first | done | rfl | (simp only [List.length_drop, List.length_take]; rfl)) ?_; (with_reducible refine (laws_markInt64S.calls k (fun k_ => some k_ = (.slice Ao6 l0_3.length co6 : Value).ownBlock) (.slice Ao6 l0_3.length co6) l0_3 t102 t104 t105 w0 _ ?side1 ?side2 A4.out).mono ?_); (case side1 => repeat (first | (with_reducible first | exact HB.out | apply below_alloc | apply pw_below_drewN | apply below_drew1 | refine below_set ?_ GE101.out) | exact HB.out)); (case side2 => exact Kd.R_tight rfl HO0_3.out); rintro e w11 ⟨rfl, hy0, hb, hkp⟩; refine ⟨_, rfl, ?_⟩; have n0_ := Aside0.mk (Kd.R_mono (ok' := fun k_ => ((P0_2_ k_ ∨ P0_3_ k_) ∨ w.heap.size ≤ k_) ∧ some k_ ≠ (.slice Ao6 l0_3.length co6 : Value).ownBlock) (Kd.R_keptB (HO0_2.out) hkp (fun k_ hk_ hs_ => (hk_.2) hs_)) (fun k_ hk_ => ⟨hk_.1.1, hk_.1.2⟩)); have n1_ := Aside0.mk (Kd.R_reok rfl hy0 (fun k_ e_ => HO0_3.out.1 k_ e_)); have n2_ := Aside0.mk (blk_kept (by (with_reducible repeat (first | refine blk_drewN ?_ _ | refine blk_drew ?_ | refine blk_alloc ?_ _)); exact BK101.out) hkp (fun hs_ => (fun e_ => (Kd.R_ne HO0_3.out BK101.out (by decide)) e_) hs_)); have n3_ := Aside0.mk (Kept.then_ (S := (fun k_ => P0_2_ k_ ∨ P0_3_ k_)) (by repeat (first | (with_reducible first | exact HK.out | apply Kept.alloc | apply Kept.drewN | apply Kept.drew | refine Kept.setCell ?_ (.inr GW101.out) _) | exact HK.out)) hkp (fun k_ hs_ => (fun e_ => (HO0_3.out.1 k_ e_.symm).1) hs_)); have n4_ := Aside0.mk (hb); clear HO0_2; clear HO0_3; clear BK101; clear HK; clear HB; have HO0_2 := n0_; have HO0_3 := n1_; have BK101 := n2_; have HK := n3_; have HB := n4_; clear n0_ n1_ n2_ n3_ n4_; (try clear hb); (try clear hkp); (try clear hy0)))
  go_ret
  exact ⟨by first | rfl | (simp [errW_none, errW_some] <;> rfl) | (simp [*, errW_none, errW_some] <;> rfl), by (with_reducible repeat (first | apply Kd.R_alloc | apply Kd.R_drewN | apply Kd.R_drew)); exact Kd.R_mono HO0_2.out (fun _ hk => hk.1), by (with_reducible repeat (first | apply Kd.R_alloc | apply Kd.R_drewN | apply Kd.R_drew)); exact Kd.R_mono HO0_3.out (fun _ hk => hk.1), by repeat (first | (with_reducible first | exact HB.out | apply below_alloc | apply pw_below_drewN | apply below_drew1 | refine below_set ?_ GE101.out) | exact HB.out), by repeat (first | (with_reducible first | exact HK.out | apply Kept.alloc | apply Kept.drewN | apply Kept.drew | refine Kept.setCell ?_ (.inr GW101.out) _) | exact HK.out)⟩
end Go.Proofs.Ytgfadfahbhcllaa.Q
end
section
namespace Go.Proofs.Ytgfadfahbhcllaa.Q
open Go.RowKit Go.Proofs.YtgfadfahbhcllaaW.PrintWords Go.Proofs.YtgfadfahbhcllaaW.PrintLast Go.Proofs.Ytgfadfahbhcllaa.LK Go.Proofs.YtgfadfahbhcllaaW.PrintMore
attribute [local go_sem] max2_int min2_int max_two min_two max_three min_three max_four min_four
set_option linter.unusedVariables false
set_option linter.unusedSimpArgs false
def laws_markSnapRes.f (k : Nat) (a0_0 : Bool) (a0_1 : Int) (a0_2 : Int) (l0_3 : List Int) (l0_4 : List Int) (a1 : Int) : Option (Int × List Int × List Int) := (laws_markSnap.f k a0_1 a0_2 l0_3 l0_4 a1).bind fun bt102 => (some (bt102.1, bt102.2.1, bt102.2.2))
set_option maxHeartbeats 8000000 in
set_option maxRecDepth 100000 in
theorem laws_markSnapRes.calls (k : Nat) (a0_0 : Bool) (a0_1 : Int) (a0_2 : Int) (P0_3_ : Nat → Prop) (u9000_ : Value) (l0_3 : List Int) (P0_4_ : Nat → Prop) (u9001_ : Value) (l0_4 : List Int) (a1 : Int) (r1 : Int) (r2 : List Int) (r3 : List Int) (w0 w : World) (hB : Below w0.heap.size w0 w) (ho0_3 : Kd.R (Kd.int .i64) 2 w w0.heap.size P0_3_ u9000_ l0_3) (hp0_3_0_4 : ∀ k_, P0_3_ k_ → ¬ P0_4_ k_) (ho0_4 : Kd.R (Kd.int .i64) 2 w w0.heap.size P0_4_ u9001_ l0_4) (hp0_4_0_3 : ∀ k_, P0_4_ k_ → ¬ P0_3_ k_) (h : laws_markSnapRes.f k a0_0 a0_1 a0_2 l0_3 l0_4 a1 = some (r1, r2, r3)) :
    Calls Try.prog 33 #[.agg #[.bool a0_0, .int .u32 a0_1, .int .u32 a0_2, u9000_, u9001_], .int .i64 a1] w fun e w' => e = .returned (.int .i64 r1) ∧ Kd.R (Kd.int .i64) 2 w' w0.heap.size (fun k_ => ((P0_3_ k_ ∨ P0_4_ k_) ∨ w.heap.size ≤ k_)) u9000_ r2 ∧ Kd.R (Kd.int .i64) 2 w' w0.heap.size (fun k_ => ((P0_3_ k_ ∨ P0_4_ k_) ∨ w.heap.size ≤ k_)) u9001_ r3 ∧ Below w0.heap.size w0 w' ∧ Kept w w' (fun k_ => P0_3_ k_ ∨ P0_4_ k_) := by
  have hu50 := Try.underlying50
  have hu44 := Try.underlying44
  have HO0_3 := Aside0.mk (show Kd.R (Kd.int .i64) 2 w w0.heap.size (fun k_ => ((P0_3_ k_ ∨ P0_4_ k_) ∨ w.heap.size ≤ k_) ∧ some k_ ≠ (u9001_ : Value).ownBlock) u9000_ l0_3 from Kd.R_mono ho0_3 (fun k_ hk => ⟨(.inl (.inl hk)), fun e_ => hp0_3_0_4 k_ hk (ho0_4.1 k_ e_.symm)⟩))
  have HO0_4 := Aside0.mk (show Kd.R (Kd.int .i64) 2 w w0.heap.size (fun k_ => ((P0_3_ k_ ∨ P0_4_ k_) ∨ w.heap.size ≤ k_) ∧ some k_ ≠ (u9000_ : Value).ownBlock) u9001_ l0_4 from Kd.R_mono ho0_4 (fun k_ hk => ⟨(.inl (.inr hk)), fun e_ => hp0_4_0_3 k_ hk (ho0_3.1 k_ e_.symm)⟩))
  have HK := Aside0.mk (Kept.refl w (fun k_ => P0_3_ k_ ∨ P0_4_ k_))
  have HW0 := Aside0.mk hB.size
  have HB := Aside0.mk hB
  clear hB
  have H : ((laws_markSnap.f k a0_1 a0_2 l0_3 l0_4 a1).bind fun bt102 => (some (bt102.1, bt102.2.1, bt102.2.2))) = some (r1, r2, r3) := h
  clear h
  replace H := Option.bind_eq_some_iff.mp H
  obtain ⟨⟨t102, t103, t104⟩, A30, H⟩ := H
  replace H : (some (t102, t103, t104)) = some (r1, r2, r3) := H
  have A3 := Aside0.mk A30
  clear A30
  simp only [Option.some.injEq, Prod.mk.injEq] at H
  obtain ⟨rfl, rfl, rfl⟩ := H
  obtain ⟨Ao4, co4, eo4⟩ := Kd.R_slice HO0_3.out
  subst eo4
  obtain ⟨Ao5, co5, eo5⟩ := Kd.R_slice HO0_4.out
  subst eo5
  go_enter Try.func33, Try.ntmps33
  go_wp2_with (first | ((with_reducible refine gate_dst (N := 2) rfl ?_); refine box_event ?hg (N := 2) ?hd (cs := #[.bool a0_0, .int .u32 a0_1, .int .u32 a0_2, .slice Ao4 l0_3.length co4, .slice Ao5 l0_4.length co5]) (t := 50) ?hr ?_; (case hd => rfl); (case hg => rfl); (case hr => first | (go_simp; done) | (go_simp; rfl)); intro gb101 hg w6 hbox hb; have n0_ := Aside0.mk (Kd.R_below (by (with_reducible repeat (first | apply Kd.R_alloc | apply Kd.R_drewN | apply Kd.R_drew)); exact HO0_3.out) hb); have n1_ := Aside0.mk (Kd.R_below (by (with_reducible repeat (first | apply Kd.R_alloc | apply Kd.R_drewN | apply Kd.R_drew)); exact HO0_4.out) hb); have n2_ := Aside0.mk (Kept.below (S := (fun k_ => P0_3_ k_ ∨ P0_4_ k_)) (by repeat (first | (with_reducible first | exact HK.out | apply Kept.alloc | apply Kept.drewN | apply Kept.drew) | exact HK.out)) hb); have n3_ := Aside0.mk (below_step (by repeat (first | (with_reducible first | exact HB.out | apply below_alloc | apply pw_below_drewN | apply below_drew1) | exact HB.out)) hb); have n4_ := Aside0.mk (hbox); have n5_ := Aside0.mk ((by rw [hg]; exact (by first | exact HK.out.1 | exact (show Kept w _ (fun k_ => P0_3_ k_ ∨ P0_4_ k_) from by repeat (first | (with_reducible first | exact HK.out | apply Kept.alloc | apply Kept.drewN | apply Kept.drew) | exact HK.out)).1) : w.heap.size ≤ gb101)); have n6_ := Aside0.mk ((by rw [hg]; exact (below_size (by repeat (first | (with_reducible first | exact HB.out | apply below_alloc | apply pw_below_drewN | apply below_drew1) | exact HB.out))) : w0.heap.size ≤ gb101)); clear HO0_3; clear HO0_4; clear HK; clear HB; have HO0_3 := n0_; have HO0_4 := n1_; have HK := n2_; have HB := n3_; have BK101 := n4_; have GW101 := n5_; have GE101 := n6_; clear n0_ n1_ n2_ n3_ n4_ n5_ n6_; clear hb hbox hg; have hcz7_0 : w6.cell? ⟨gb101, 0, none⟩ = some (.bool a0_0) := (blk_cell BK101.out 0).trans rfl; have hcz7_1 : w6.cell? ⟨gb101, 1, none⟩ = some (.int .u32 a0_1) := (blk_cell BK101.out 1).trans rfl; have hcz7_2 : w6.cell? ⟨gb101, 2, none⟩ = some (.int .u32 a0_2) := (blk_cell BK101.out 2).trans rfl; have hcz7_3 : w6.cell? ⟨gb101, 3, none⟩ = some (.slice Ao4 l0_3.length co4) := (blk_cell BK101.out 3).trans rfl; have hcz7_4 : w6.cell? ⟨gb101, 4, none⟩ = some (.slice Ao5 l0_4.length co5) := (blk_cell BK101.out 4).trans rfl; have hfz7_0 := blk_frozen BK101.out 0; have hfz7_1 := blk_frozen BK101.out 1; have hfz7_2 := blk_frozen BK101.out 2; have hfz7_3 := blk_frozen BK101.out 3; have hfz7_4 := blk_frozen BK101.out 4) | ((with_reducible refine gate_callee (f := 29) rfl ?_); refine goesL_ (some 8) rfl rfl Try.func29 (by kernel_rfl) rfl #[.agg #[.int .u32 a0_1, .int .u32 a0_2, .slice Ao4 l0_3.length co4, .slice Ao5 l0_4.length co5], .int .i64 a1] rfl (by (try simp only [List.map_toArray, List.map_cons, List.map_nil]); first | done | rfl | (simp only [List.length_drop, List.length_take]; rfl)) ?_; (with_reducible refine (laws_markSnap.calls k a0_1 a0_2 (fun k_ => some k_ = (.slice Ao4 l0_3.length co4 : Value).ownBlock) (.slice Ao4 l0_3.length co4) l0_3 (fun k_ => some k_ = (.slice Ao5 l0_4.length co5 : Value).ownBlock) (.slice Ao5 l0_4.length co5) l0_4 a1 t102 t103 t104 w0 _ ?side1 ?side2 ?side3 ?side4 ?side5 A3.out).mono ?_); (case side1 => repeat (first | (with_reducible first | exact HB.out | apply below_alloc | apply pw_below_drewN | apply below_drew1 | refine below_set ?_ GE101.out) | exact HB.out)); (case side2 => exact Kd.R_tight rfl HO0_3.out); (case side3 => exact fun k_ e_ => (HO0_3.out.1 k_ e_.symm).2); (case side4 => exact Kd.R_tight rfl HO0_4.out); (case side5 => exact fun k_ e_ => (HO0_4.out.1 k_ e_.symm).2); rintro e w8 ⟨rfl, hy0, hy1, hb, hkp⟩; refine ⟨_, rfl, ?_⟩; have n0_ := Aside0.mk (Kd.R_reok rfl hy0 (fun k_ e_ => HO0_3.out.1 k_ e_)); have n1_ := Aside0.mk (Kd.R_reok rfl hy1 (fun k_ e_ => HO0_4.out.1 k_ e_)); have n2_ := Aside0.mk (blk_kept (by (with_reducible repeat (first | refine blk_drewN ?_ _ | refine blk_drew ?_ | refine blk_alloc ?_ _)); exact BK101.out) hkp (fun hs_ => Or.elim hs_ (fun e_ => (fun e_ => (Kd.R_ne HO0_3.out BK101.out (by decide)) e_) e_) (fun e_ => (fun e_ => (Kd.R_ne HO0_4.out BK101.out (by decide)) e_) e_))); have n3_ := Aside0.mk (Kept.then_ (S := (fun k_ => P0_3_ k_ ∨ P0_4_ k_)) (by repeat (first | (with_reducible first | exact HK.out | apply Kept.alloc | apply Kept.drewN | apply Kept.drew | refine Kept.setCell ?_ (.inr GW101.out) _) | exact HK.out)) hkp (fun k_ hs_ => Or.elim hs_ (fun e_ => (fun e_ => (HO0_3.out.1 k_ e_.symm).1) e_) (fun e_ => (fun e_ => (HO0_4.out.1 k_ e_.symm).1) e_))); have n4_ := Aside0.mk (hb); clear HO0_3; clear HO0_4; clear BK101; clear HK; clear HB; have HO0_3 := n0_; have HO0_4 := n1_; have BK101 := n2_; have HK := n3_; have HB := n4_; clear n0_ n1_ n2_ n3_ n4_; (try clear hb); (try clear hkp); (try clear hy0); (try clear hy1)))
  go_ret
  exact ⟨by first | rfl | (simp [errW_none, errW_some] <;> rfl) | (simp [*, errW_none, errW_some] <;> rfl), by (with_reducible repeat (first | apply Kd.R_alloc | apply Kd.R_drewN | apply Kd.R_drew)); exact Kd.R_mono HO0_3.out (fun _ hk => hk.1), by (with_reducible repeat (first | apply Kd.R_alloc | apply Kd.R_drewN | apply Kd.R_drew)); exact Kd.R_mono HO0_4.out (fun _ hk => hk.1), by repeat (first | (with_reducible first | exact HB.out | apply below_alloc | apply pw_below_drewN | apply below_drew1 | refine below_set ?_ GE101.out) | exact HB.out), by repeat (first | (with_reducible first | exact HK.out | apply Kept.alloc | apply Kept.drewN | apply Kept.drew | refine Kept.setCell ?_ (.inr GW101.out) _) | exact HK.out)⟩
end Go.Proofs.Ytgfadfahbhcllaa.Q
end
section
namespace Go.Proofs.Ytgfadfahbhcllaa.Q
open Go.RowKit Go.Proofs.YtgfadfahbhcllaaW.PrintWords Go.Proofs.YtgfadfahbhcllaaW.PrintLast Go.Proofs.Ytgfadfahbhcllaa.LK Go.Proofs.YtgfadfahbhcllaaW.PrintMore
attribute [local go_sem] max2_int min2_int max_two min_two max_three min_three max_four min_four
set_option linter.unusedVariables false
set_option linter.unusedSimpArgs false
def laws_heldInt64S.l0 : Nat → List Int → Int → Int → Option (Int)
  | 0, _, _, _ => none
  | k + 1, x0, x1, x5 => if x5 < (x0.length : Int) then (if 0 ≤ x5 then (if (rd x0 x5) = x1 then (laws_heldInt64S.l0 k x0 (wrap64 (x1 + 1)) (wrap64 (x5 + 1))) else (some (-1))) else (none)) else (some x1)
def laws_heldInt64S.f (k : Nat) (l0 : List Int) (a1 : Int) : Option (Int) := laws_heldInt64S.l0 k l0 a1 0
set_option maxHeartbeats 8000000 in
set_option maxRecDepth 100000 in
theorem laws_heldInt64S.calls (k : Nat) (A0 : Option Addr) (c0 : Nat) (l0 : List Int) (a1 : Int) (r : Int) (w : World) (hr0 : Kd.C (Kd.int .i64) w A0 l0.length l0) (hc0 : l0.length ≤ c0) (h : laws_heldInt64S.f k l0 a1 = some r) :
    Calls Try.prog 96 #[.slice A0 l0.length c0, .int .i64 a1] w fun e w' => e = .returned (.int .i64 r) ∧ Drawn0 w w' := by
  have HR0 := Aside0.mk hr0
  have HC0 := Aside0.mk hc0
  clear hr0 hc0
  have H : (laws_heldInt64S.l0 k l0 a1 0) = some r := h
  clear h
  have H' := Aside0.mk H
  clear H
  go_enter Try.func96, Try.ntmps96
  go_wp2
  go_loopg [1, 5] k (fun kq v1 v5 w' => ∃ (x1_1 : Int) (x5_1 : Int), v1 = .int .i64 x1_1 ∧ v5 = .int .i64 x5_1 ∧ Aside0 (laws_heldInt64S.l0 kq l0 x1_1 x5_1 = some r) ∧ Aside0 (kq ≤ k) ∧ Drawn0 w w')
  case atStart => exact ⟨(a1), (0), (by first | rfl | (simp; done) | (simp [*]; done)), (by first | rfl | (simp; done) | (simp [*]; done)), H', ⟨Nat.le_refl _⟩, by repeat (first | exact Drawn0.refl _ | apply Drawn0.step)⟩
  case round =>
    clear H'
    try clear p2
    obtain ⟨x1_1, x5_1, rfl, rfl, HA, HK1, ⟨m1, rfl⟩⟩ := hrel
    cases gk with
    | zero => exact absurd HA.out (by simp [laws_heldInt64S.l0])
    | succ k1 =>
      have H := HA.out
      clear HA
      simp only [laws_heldInt64S.l0] at H
      by_cases c3 : x5_1 < (l0.length : Int)
      · rw [if_pos c3] at H
        have c3b0 : decide (x5_1 < (l0.length : Int)) = true := decide_eq_true c3
        clear c3
        by_cases c4 : 0 ≤ x5_1
        · rw [if_pos c4] at H
          have c4b0 : decide (0 ≤ x5_1) = true := decide_eq_true c4
          clear c4
          by_cases c5 : (rd l0 x5_1) = x1_1
          · rw [if_pos c5] at H
            have c5b0 : ((rd l0 x5_1) == x1_1) = true := beq_iff_eq.mpr c5
            have c5b1 : ((rd l0 x5_1) != x1_1) = false := bne_eq_false_iff_eq.mpr c5
            clear c5
            have H' := Aside0.mk H
            clear H
            have p101 : 0 ≤ (x5_1 : Int) := of_decide_eq_true (by first | (with_reducible assumption) | assumption)
            have q101 : x5_1 < (l0.length : Int) := of_decide_eq_true (by first | (with_reducible assumption) | assumption)
            obtain ⟨ad101, e101, hx101_0⟩ := Kd.at_int HR0.out x5_1 p101 q101
            cases e101
            replace p101 := eq_true p101
            replace q101 := eq_true q101
            go_wp2
            go_roundg k1
            case measure => have := HK1.out; omega
            case rel => exact ⟨(wrap64 (x1_1 + 1)), (wrap64 (x5_1 + 1)), (by first | rfl | (simp; done) | (simp [*]; done)), (by first | rfl | (simp; done) | (simp [*]; done)), H', ⟨by have := HK1.out; omega⟩, by repeat (first | exact Drawn0.refl _ | apply Drawn0.step)⟩
          · rw [if_neg c5] at H
            have c5b0 : ((rd l0 x5_1) == x1_1) = false := beq_eq_false_iff_ne.mpr c5
            have c5b1 : ((rd l0 x5_1) != x1_1) = true := bne_iff_ne.mpr c5
            obtain rfl := Option.some.inj H
            have p101 : 0 ≤ (x5_1 : Int) := of_decide_eq_true (by first | (with_reducible assumption) | assumption)
            have q101 : x5_1 < (l0.length : Int) := of_decide_eq_true (by first | (with_reducible assumption) | assumption)
            obtain ⟨ad101, e101, hx101_0⟩ := Kd.at_int HR0.out x5_1 p101 q101
            cases e101
            replace p101 := eq_true p101
            replace q101 := eq_true q101
            go_wp2
            go_ret
            exact ⟨by first | rfl | (simp; done) | (simp [*]; done), by repeat (first | exact Drawn0.refl _ | apply Drawn0.step)⟩
        · rw [if_neg c4] at H
          exact absurd H (by simp)
      · rw [if_neg c3] at H
        have c3b0 : decide (x5_1 < (l0.length : Int)) = false := decide_eq_false c3
        clear c3
        obtain rfl := Option.some.inj H
        go_wp2
        go_ret
        exact ⟨by first | rfl | (simp; done) | (simp [*]; done), by repeat (first | exact Drawn0.refl _ | apply Drawn0.step)⟩
end Go.Proofs.Ytgfadfahbhcllaa.Q
end
section
namespace Go.Proofs.Ytgfadfahbhcllaa.Q
open Go.RowKit Go.Proofs.YtgfadfahbhcllaaW.PrintWords Go.Proofs.YtgfadfahbhcllaaW.PrintLast Go.Proofs.Ytgfadfahbhcllaa.LK Go.Proofs.YtgfadfahbhcllaaW.PrintMore
attribute [local go_sem] max2_int min2_int max_two min_two max_three min_three max_four min_four
set_option linter.unusedVariables false
set_option linter.unusedSimpArgs false
def laws_heldSnap.f (k : Nat) (a0_0 : Int) (a0_1 : Int) (l0_2 : List Int) (l0_3 : List Int) (a1 : Int) : Option (Int) := (laws_heldInt64S.f k l0_2 a1).bind fun t102 => (if t102 < 0 then (some (-1)) else ((laws_heldInt64S.f k l0_3 t102).bind fun t103 => (if t103 < 0 then (some (-1)) else (some t103))))
set_option maxHeartbeats 8000000 in
set_option maxRecDepth 100000 in
theorem laws_heldSnap.calls (k : Nat) (a0_0 : Int) (a0_1 : Int) (A0_2 : Option Addr) (c0_2 : Nat) (l0_2 : List Int) (A0_3 : Option Addr) (c0_3 : Nat) (l0_3 : List Int) (a1 : Int) (r : Int) (w : World) (hr0_2 : Kd.C (Kd.int .i64) w A0_2 l0_2.length l0_2) (hc0_2 : l0_2.length ≤ c0_2) (hr0_3 : Kd.C (Kd.int .i64) w A0_3 l0_3.length l0_3) (hc0_3 : l0_3.length ≤ c0_3) (h : laws_heldSnap.f k a0_0 a0_1 l0_2 l0_3 a1 = some r) :
    Calls Try.prog 72 #[.agg #[.int .u32 a0_0, .int .u32 a0_1, .slice A0_2 l0_2.length c0_2, .slice A0_3 l0_3.length c0_3], .int .i64 a1] w fun e w' => e = .returned (.int .i64 r) ∧ Below w.heap.size w w' := by
  have hu44 := Try.underlying44
  have HR0_2 := Aside0.mk hr0_2
  have HC0_2 := Aside0.mk hc0_2
  clear hr0_2 hc0_2
  have HR0_3 := Aside0.mk hr0_3
  have HC0_3 := Aside0.mk hc0_3
  clear hr0_3 hc0_3
  have HB := Aside0.mk (Below.refl w.heap.size w)
  have H : ((laws_heldInt64S.f k l0_2 a1).bind fun t102 => (if t102 < 0 then (some (-1)) else ((laws_heldInt64S.f k l0_3 t102).bind fun t103 => (if t103 < 0 then (some (-1)) else (some t103))))) = some r := h
  clear h
  replace H := Option.bind_eq_some_iff.mp H
  obtain ⟨t102, A30, H⟩ := H
  replace H : (if t102 < 0 then (some (-1)) else ((laws_heldInt64S.f k l0_3 t102).bind fun t103 => (if t103 < 0 then (some (-1)) else (some t103)))) = some r := H
  have A3 := Aside0.mk A30
  clear A30
  by_cases c4 : t102 < 0
  · rw [if_pos c4] at H
    have c4b0 : decide (t102 < 0) = true := decide_eq_true c4
    clear c4
    obtain rfl := Option.some.inj H
    go_enter Try.func72, Try.ntmps72
    go_wp2_with (first | ((with_reducible refine gate_dst (N := 2) rfl ?_); refine box_event ?hg (N := 2) ?hd (cs := #[.int .u32 a0_0, .int .u32 a0_1, .slice A0_2 l0_2.length c0_2, .slice A0_3 l0_3.length c0_3]) (t := 44) ?hr ?_; (case hd => rfl); (case hg => rfl); (case hr => first | (go_simp; done) | (go_simp; rfl)); intro gb101 hg w5 hbox hb; have n0_ := Aside0.mk (below_step (by repeat (first | (with_reducible first | exact HB.out | apply below_alloc | apply pw_below_drewN | apply below_drew1) | exact HB.out)) hb); have n1_ := Aside0.mk (hbox); have n2_ := Aside0.mk ((by rw [hg]; exact (below_size (by repeat (first | (with_reducible first | exact HB.out | apply below_alloc | apply pw_below_drewN | apply below_drew1) | exact HB.out))) : w.heap.size ≤ gb101)); have n3_ := Aside0.mk ((by rw [hg]; exact (below_size (by repeat (first | (with_reducible first | exact HB.out | apply below_alloc | apply pw_below_drewN | apply below_drew1) | exact HB.out))) : w.heap.size ≤ gb101)); clear HB; have HB := n0_; have BK101 := n1_; have GW101 := n2_; have GE101 := n3_; clear n0_ n1_ n2_ n3_; clear hb hbox hg; have hcz6_0 : w5.cell? ⟨gb101, 0, none⟩ = some (.int .u32 a0_0) := (blk_cell BK101.out 0).trans rfl; have hcz6_1 : w5.cell? ⟨gb101, 1, none⟩ = some (.int .u32 a0_1) := (blk_cell BK101.out 1).trans rfl; have hcz6_2 : w5.cell? ⟨gb101, 2, none⟩ = some (.slice A0_2 l0_2.length c0_2) := (blk_cell BK101.out 2).trans rfl; have hcz6_3 : w5.cell? ⟨gb101, 3, none⟩ = some (.slice A0_3 l0_3.length c0_3) := (blk_cell BK101.out 3).trans rfl; have hfz6_0 := blk_frozen BK101.out 0; have hfz6_1 := blk_frozen BK101.out 1; have hfz6_2 := blk_frozen BK101.out 2; have hfz6_3 := blk_frozen BK101.out 3) | ((with_reducible refine gate_callee (f := 96) rfl ?_); refine goesL_ (some 8) rfl rfl Try.func96 (by kernel_rfl) rfl #[.slice A0_2 l0_2.length c0_2, .int .i64 a1] rfl (by (try simp only [List.map_toArray, List.map_cons, List.map_nil]); first | done | rfl | (simp only [List.length_drop, List.length_take]; rfl)) ?_; (with_reducible refine (laws_heldInt64S.calls k _ _ l0_2 a1 t102 _ ?side1 ?side2 A3.out).mono ?_); (case side1 => repeat (first | exact (Kd.C_below HR0_2.out HB.out) | (with_reducible refine Kd.C_alloc ?_ _) | (with_reducible refine Kd.C_drewN ?_ _) | (with_reducible refine Kd.C_drew ?_))); (case side2 => exact HC0_2.out); rintro e w' ⟨rfl, ⟨nd, rfl⟩⟩; refine ⟨_, rfl, ?_⟩))
    go_ret
    exact ⟨by first | rfl | (simp [errW_none, errW_some] <;> rfl) | (simp [*, errW_none, errW_some] <;> rfl), by repeat (first | (with_reducible first | exact HB.out | apply below_alloc | apply pw_below_drewN | apply below_drew1 | refine below_set ?_ GE101.out) | exact HB.out)⟩
  · rw [if_neg c4] at H
    have c4b0 : decide (t102 < 0) = false := decide_eq_false c4
    clear c4
    replace H := Option.bind_eq_some_iff.mp H
    obtain ⟨t103, A70, H⟩ := H
    replace H : (if t103 < 0 then (some (-1)) else (some t103)) = some r := H
    have A7 := Aside0.mk A70
    clear A70
    by_cases c8 : t103 < 0
    · rw [if_pos c8] at H
      have c8b0 : decide (t103 < 0) = true := decide_eq_true c8
      clear c8
      obtain rfl := Option.some.inj H
      go_enter Try.func72, Try.ntmps72
      go_wp2_with (first | ((with_reducible refine gate_dst (N := 2) rfl ?_); refine box_event ?hg (N := 2) ?hd (cs := #[.int .u32 a0_0, .int .u32 a0_1, .slice A0_2 l0_2.length c0_2, .slice A0_3 l0_3.length c0_3]) (t := 44) ?hr ?_; (case hd => rfl); (case hg => rfl); (case hr => first | (go_simp; done) | (go_simp; rfl)); intro gb101 hg w9 hbox hb; have n0_ := Aside0.mk (below_step (by repeat (first | (with_reducible first | exact HB.out | apply below_alloc | apply pw_below_drewN | apply below_drew1) | exact HB.out)) hb); have n1_ := Aside0.mk (hbox); have n2_ := Aside0.mk ((by rw [hg]; exact (below_size (by repeat (first | (with_reducible first | exact HB.out | apply below_alloc | apply pw_below_drewN | apply below_drew1) | exact HB.out))) : w.heap.size ≤ gb101)); have n3_ := Aside0.mk ((by rw [hg]; exact (below_size (by repeat (first | (with_reducible first | exact HB.out | apply below_alloc | apply pw_below_drewN | apply below_drew1) | exact HB.out))) : w.heap.size ≤ gb101)); clear HB; have HB := n0_; have BK101 := n1_; have GW101 := n2_; have GE101 := n3_; clear n0_ n1_ n2_ n3_; clear hb hbox hg; have hcz10_0 : w9.cell? ⟨gb101, 0, none⟩ = some (.int .u32 a0_0) := (blk_cell BK101.out 0).trans rfl; have hcz10_1 : w9.cell? ⟨gb101, 1, none⟩ = some (.int .u32 a0_1) := (blk_cell BK101.out 1).trans rfl; have hcz10_2 : w9.cell? ⟨gb101, 2, none⟩ = some (.slice A0_2 l0_2.length c0_2) := (blk_cell BK101.out 2).trans rfl; have hcz10_3 : w9.cell? ⟨gb101, 3, none⟩ = some (.slice A0_3 l0_3.length c0_3) := (blk_cell BK101.out 3).trans rfl; have hfz10_0 := blk_frozen BK101.out 0; have hfz10_1 := blk_frozen BK101.out 1; have hfz10_2 := blk_frozen BK101.out 2; have hfz10_3 := blk_frozen BK101.out 3) | ((with_reducible refine gate_callee (f := 96) rfl ?_); refine goesL_ (some 8) rfl rfl Try.func96 (by kernel_rfl) rfl #[.slice A0_2 l0_2.length c0_2, .int .i64 a1] rfl (by (try simp only [List.map_toArray, List.map_cons, List.map_nil]); first | done | rfl | (simp only [List.length_drop, List.length_take]; rfl)) ?_; (with_reducible refine (laws_heldInt64S.calls k _ _ l0_2 a1 t102 _ ?side1 ?side2 A3.out).mono ?_); (case side1 => repeat (first | exact (Kd.C_below HR0_2.out HB.out) | (with_reducible refine Kd.C_alloc ?_ _) | (with_reducible refine Kd.C_drewN ?_ _) | (with_reducible refine Kd.C_drew ?_))); (case side2 => exact HC0_2.out); rintro e w' ⟨rfl, ⟨nd, rfl⟩⟩; refine ⟨_, rfl, ?_⟩) | ((with_reducible refine gate_callee (f := 96) rfl ?_); refine goesL_ (some 14) rfl rfl Try.func96 (by kernel_rfl) rfl #[.slice A0_3 l0_3.length c0_3, .int .i64 t102] rfl (by (try simp only [List.map_toArray, List.map_cons, List.map_nil]); first | done | rfl | (simp only [List.length_drop, List.length_take]; rfl)) ?_; (with_reducible refine (laws_heldInt64S.calls k _ _ l0_3 t102 t103 _ ?side1 ?side2 A7.out).mono ?_); (case side1 => repeat (first | exact (Kd.C_below HR0_3.out (by repeat (first | (with_reducible first | exact HB.out | apply below_alloc | apply pw_below_drewN | apply below_drew1 | refine below_set ?_ GE101.out) | exact HB.out))) | (with_reducible refine Kd.C_alloc ?_ _) | (with_reducible refine Kd.C_drewN ?_ _) | (with_reducible refine Kd.C_drew ?_))); (case side2 => exact HC0_3.out); rintro e w' ⟨rfl, ⟨nd, rfl⟩⟩; refine ⟨_, rfl, ?_⟩))
      go_ret
      exact ⟨by first | rfl | (simp [errW_none, errW_some] <;> rfl) | (simp [*, errW_none, errW_some] <;> rfl), by repeat (first | (with_reducible first | exact HB.out | apply below_alloc | apply pw_below_drewN | apply below_drew1 | refine below_set ?_ GE101.out) | exact HB.out)⟩
    · rw [if_neg c8] at H
      have c8b0 : decide (t103 < 0) = false := decide_eq_false c8
      clear c8
      obtain rfl := Option.some.inj H
      go_enter Try.func72, Try.ntmps72
      go_wp2_with (first | ((with_reducible refine gate_dst (N := 2) rfl ?_); refine box_event ?hg (N := 2) ?hd (cs := #[.int .u32 a0_0, .int .u32 a0_1, .slice A0_2 l0_2.length c0_2, .slice A0_3 l0_3.length c0_3]) (t := 44) ?hr ?_; (case hd => rfl); (case hg => rfl); (case hr => first | (go_simp; done) | (go_simp; rfl)); intro gb101 hg w11 hbox hb; have n0_ := Aside0.mk (below_step (by repeat (first | (with_reducible first | exact HB.out | apply below_alloc | apply pw_below_drewN | apply below_drew1) | exact HB.out)) hb); have n1_ := Aside0.mk (hbox); have n2_ := Aside0.mk ((by rw [hg]; exact (below_size (by repeat (first | (with_reducible first | exact HB.out | apply below_alloc | apply pw_below_drewN | apply below_drew1) | exact HB.out))) : w.heap.size ≤ gb101)); have n3_ := Aside0.mk ((by rw [hg]; exact (below_size (by repeat (first | (with_reducible first | exact HB.out | apply below_alloc | apply pw_below_drewN | apply below_drew1) | exact HB.out))) : w.heap.size ≤ gb101)); clear HB; have HB := n0_; have BK101 := n1_; have GW101 := n2_; have GE101 := n3_; clear n0_ n1_ n2_ n3_; clear hb hbox hg; have hcz12_0 : w11.cell? ⟨gb101, 0, none⟩ = some (.int .u32 a0_0) := (blk_cell BK101.out 0).trans rfl; have hcz12_1 : w11.cell? ⟨gb101, 1, none⟩ = some (.int .u32 a0_1) := (blk_cell BK101.out 1).trans rfl; have hcz12_2 : w11.cell? ⟨gb101, 2, none⟩ = some (.slice A0_2 l0_2.length c0_2) := (blk_cell BK101.out 2).trans rfl; have hcz12_3 : w11.cell? ⟨gb101, 3, none⟩ = some (.slice A0_3 l0_3.length c0_3) := (blk_cell BK101.out 3).trans rfl; have hfz12_0 := blk_frozen BK101.out 0; have hfz12_1 := blk_frozen BK101.out 1; have hfz12_2 := blk_frozen BK101.out 2; have hfz12_3 := blk_frozen BK101.out 3) | ((with_reducible refine gate_callee (f := 96) rfl ?_); refine goesL_ (some 8) rfl rfl Try.func96 (by kernel_rfl) rfl #[.slice A0_2 l0_2.length c0_2, .int .i64 a1] rfl (by (try simp only [List.map_toArray, List.map_cons, List.map_nil]); first | done | rfl | (simp only [List.length_drop, List.length_take]; rfl)) ?_; (with_reducible refine (laws_heldInt64S.calls k _ _ l0_2 a1 t102 _ ?side1 ?side2 A3.out).mono ?_); (case side1 => repeat (first | exact (Kd.C_below HR0_2.out HB.out) | (with_reducible refine Kd.C_alloc ?_ _) | (with_reducible refine Kd.C_drewN ?_ _) | (with_reducible refine Kd.C_drew ?_))); (case side2 => exact HC0_2.out); rintro e w' ⟨rfl, ⟨nd, rfl⟩⟩; refine ⟨_, rfl, ?_⟩) | ((with_reducible refine gate_callee (f := 96) rfl ?_); refine goesL_ (some 14) rfl rfl Try.func96 (by kernel_rfl) rfl #[.slice A0_3 l0_3.length c0_3, .int .i64 t102] rfl (by (try simp only [List.map_toArray, List.map_cons, List.map_nil]); first | done | rfl | (simp only [List.length_drop, List.length_take]; rfl)) ?_; (with_reducible refine (laws_heldInt64S.calls k _ _ l0_3 t102 t103 _ ?side1 ?side2 A7.out).mono ?_); (case side1 => repeat (first | exact (Kd.C_below HR0_3.out (by repeat (first | (with_reducible first | exact HB.out | apply below_alloc | apply pw_below_drewN | apply below_drew1 | refine below_set ?_ GE101.out) | exact HB.out))) | (with_reducible refine Kd.C_alloc ?_ _) | (with_reducible refine Kd.C_drewN ?_ _) | (with_reducible refine Kd.C_drew ?_))); (case side2 => exact HC0_3.out); rintro e w' ⟨rfl, ⟨nd, rfl⟩⟩; refine ⟨_, rfl, ?_⟩))
      go_ret
      exact ⟨by first | rfl | (simp [errW_none, errW_some] <;> rfl) | (simp [*, errW_none, errW_some] <;> rfl), by repeat (first | (with_reducible first | exact HB.out | apply below_alloc | apply pw_below_drewN | apply below_drew1 | refine below_set ?_ GE101.out) | exact HB.out)⟩
end Go.Proofs.Ytgfadfahbhcllaa.Q
end
section
namespace Go.Proofs.Ytgfadfahbhcllaa.Q
open Go.RowKit Go.Proofs.YtgfadfahbhcllaaW.PrintWords Go.Proofs.YtgfadfahbhcllaaW.PrintLast Go.Proofs.Ytgfadfahbhcllaa.LK Go.Proofs.YtgfadfahbhcllaaW.PrintMore
attribute [local go_sem] max2_int min2_int max_two min_two max_three min_three max_four min_four
set_option linter.unusedVariables false
set_option linter.unusedSimpArgs false
def laws_heldSnapRes.f (k : Nat) (a0_0 : Bool) (a0_1 : Int) (a0_2 : Int) (l0_3 : List Int) (l0_4 : List Int) (a1 : Int) : Option (Int) := (laws_heldSnap.f k a0_1 a0_2 l0_3 l0_4 a1).bind fun t102 => (if t102 < 0 then (some (-1)) else (some t102))
set_option maxHeartbeats 8000000 in
set_option maxRecDepth 100000 in
theorem laws_heldSnapRes.calls (k : Nat) (a0_0 : Bool) (a0_1 : Int) (a0_2 : Int) (A0_3 : Option Addr) (c0_3 : Nat) (l0_3 : List Int) (A0_4 : Option Addr) (c0_4 : Nat) (l0_4 : List Int) (a1 : Int) (r : Int) (w : World) (hr0_3 : Kd.C (Kd.int .i64) w A0_3 l0_3.length l0_3) (hc0_3 : l0_3.length ≤ c0_3) (hr0_4 : Kd.C (Kd.int .i64) w A0_4 l0_4.length l0_4) (hc0_4 : l0_4.length ≤ c0_4) (h : laws_heldSnapRes.f k a0_0 a0_1 a0_2 l0_3 l0_4 a1 = some r) :
    Calls Try.prog 34 #[.agg #[.bool a0_0, .int .u32 a0_1, .int .u32 a0_2, .slice A0_3 l0_3.length c0_3, .slice A0_4 l0_4.length c0_4], .int .i64 a1] w fun e w' => e = .returned (.int .i64 r) ∧ Below w.heap.size w w' := by
  have hu50 := Try.underlying50
  have hu44 := Try.underlying44
  have HR0_3 := Aside0.mk hr0_3
  have HC0_3 := Aside0.mk hc0_3
  clear hr0_3 hc0_3
  have HR0_4 := Aside0.mk hr0_4
  have HC0_4 := Aside0.mk hc0_4
  clear hr0_4 hc0_4
  have HB := Aside0.mk (Below.refl w.heap.size w)
  have H : ((laws_heldSnap.f k a0_1 a0_2 l0_3 l0_4 a1).bind fun t102 => (if t102 < 0 then (some (-1)) else (some t102))) = some r := h
  clear h
  replace H := Option.bind_eq_some_iff.mp H
  obtain ⟨t102, A30, H⟩ := H
  replace H : (if t102 < 0 then (some (-1)) else (some t102)) = some r := H
  have A3 := Aside0.mk A30
  clear A30
  by_cases c4 : t102 < 0
  · rw [if_pos c4] at H
    have c4b0 : decide (t102 < 0) = true := decide_eq_true c4
    clear c4
    obtain rfl := Option.some.inj H
    go_enter Try.func34, Try.ntmps34
    go_wp2_with (first | ((with_reducible refine gate_dst (N := 2) rfl ?_); refine box_event ?hg (N := 2) ?hd (cs := #[.bool a0_0, .int .u32 a0_1, .int .u32 a0_2, .slice A0_3 l0_3.length c0_3, .slice A0_4 l0_4.length c0_4]) (t := 50) ?hr ?_; (case hd => rfl); (case hg => rfl); (case hr => first | (go_simp; done) | (go_simp; rfl)); intro gb101 hg w5 hbox hb; have n0_ := Aside0.mk (below_step (by repeat (first | (with_reducible first | exact HB.out | apply below_alloc | apply pw_below_drewN | apply below_drew1) | exact HB.out)) hb); have n1_ := Aside0.mk (hbox); have n2_ := Aside0.mk ((by rw [hg]; exact (below_size (by repeat (first | (with_reducible first | exact HB.out | apply below_alloc | apply pw_below_drewN | apply below_drew1) | exact HB.out))) : w.heap.size ≤ gb101)); have n3_ := Aside0.mk ((by rw [hg]; exact (below_size (by repeat (first | (with_reducible first | exact HB.out | apply below_alloc | apply pw_below_drewN | apply below_drew1) | exact HB.out))) : w.heap.size ≤ gb101)); clear HB; have HB := n0_; have BK101 := n1_; have GW101 := n2_; have GE101 := n3_; clear n0_ n1_ n2_ n3_; clear hb hbox hg; have hcz6_0 : w5.cell? ⟨gb101, 0, none⟩ = some (.bool a0_0) := (blk_cell BK101.out 0).trans rfl; have hcz6_1 : w5.cell? ⟨gb101, 1, none⟩ = some (.int .u32 a0_1) := (blk_cell BK101.out 1).trans rfl; have hcz6_2 : w5.cell? ⟨gb101, 2, none⟩ = some (.int .u32 a0_2) := (blk_cell BK101.out 2).trans rfl; have hcz6_3 : w5.cell? ⟨gb101, 3, none⟩ = some (.slice A0_3 l0_3.length c0_3) := (blk_cell BK101.out 3).trans rfl; have hcz6_4 : w5.cell? ⟨gb101, 4, none⟩ = some (.slice A0_4 l0_4.length c0_4) := (blk_cell BK101.out 4).trans rfl; have hfz6_0 := blk_frozen BK101.out 0; have hfz6_1 := blk_frozen BK101.out 1; have hfz6_2 := blk_frozen BK101.out 2; have hfz6_3 := blk_frozen BK101.out 3; have hfz6_4 := blk_frozen BK101.out 4) | ((with_reducible refine gate_callee (f := 72) rfl ?_); refine goesL_ (some 8) rfl rfl Try.func72 (by kernel_rfl) rfl #[.agg #[.int .u32 a0_1, .int .u32 a0_2, .slice A0_3 l0_3.length c0_3, .slice A0_4 l0_4.length c0_4], .int .i64 a1] rfl (by (try simp only [List.map_toArray, List.map_cons, List.map_nil]); first | done | rfl | (simp only [List.length_drop, List.length_take]; rfl)) ?_; (with_reducible refine (laws_heldSnap.calls k a0_1 a0_2 _ _ l0_3 _ _ l0_4 a1 t102 _ ?side1 ?side2 ?side3 ?side4 A3.out).mono ?_); (case side1 => repeat (first | exact (Kd.C_below HR0_3.out HB.out) | (with_reducible refine Kd.C_alloc ?_ _) | (with_reducible refine Kd.C_drewN ?_ _) | (with_reducible refine Kd.C_drew ?_))); (case side2 => exact HC0_3.out); (case side3 => repeat (first | exact (Kd.C_below HR0_4.out HB.out) | (with_reducible refine Kd.C_alloc ?_ _) | (with_reducible refine Kd.C_drewN ?_ _) | (with_reducible refine Kd.C_drew ?_))); (case side4 => exact HC0_4.out); rintro e w7 ⟨rfl, hb⟩; refine ⟨_, rfl, ?_⟩; have n0_ := Aside0.mk (blk_below (g := gb101) (o := .cells #[.bool a0_0, .int .u32 a0_1, .int .u32 a0_2, .slice A0_3 l0_3.length c0_3, .slice A0_4 l0_4.length c0_4] 50 (0, 0)) (by (with_reducible repeat (first | refine blk_drewN ?_ _ | refine blk_drew ?_ | refine blk_alloc ?_ _)); exact BK101.out) hb); have n1_ := Aside0.mk (below_step (by repeat (first | (with_reducible first | exact HB.out | apply below_alloc | apply pw_below_drewN | apply below_drew1 | refine below_set ?_ GE101.out) | exact HB.out)) hb); clear BK101; clear HB; have BK101 := n0_; have HB := n1_; clear n0_ n1_; (try clear hb); (try clear hb2); (try clear hk); (try clear hi)))
    go_ret
    exact ⟨by first | rfl | (simp [errW_none, errW_some] <;> rfl) | (simp [*, errW_none, errW_some] <;> rfl), by repeat (first | (with_reducible first | exact HB.out | apply below_alloc | apply pw_below_drewN | apply below_drew1 | refine below_set ?_ GE101.out) | exact HB.out)⟩
  · rw [if_neg c4] at H
    have c4b0 : decide (t102 < 0) = false := decide_eq_false c4
    clear c4
    obtain rfl := Option.some.inj H
    go_enter Try.func34, Try.ntmps34
    go_wp2_with (first | ((with_reducible refine gate_dst (N := 2) rfl ?_); refine box_event ?hg (N := 2) ?hd (cs := #[.bool a0_0, .int .u32 a0_1, .int .u32 a0_2, .slice A0_3 l0_3.length c0_3, .slice A0_4 l0_4.length c0_4]) (t := 50) ?hr ?_; (case hd => rfl); (case hg => rfl); (case hr => first | (go_simp; done) | (go_simp; rfl)); intro gb101 hg w8 hbox hb; have n0_ := Aside0.mk (below_step (by repeat (first | (with_reducible first | exact HB.out | apply below_alloc | apply pw_below_drewN | apply below_drew1) | exact HB.out)) hb); have n1_ := Aside0.mk (hbox); have n2_ := Aside0.mk ((by rw [hg]; exact (below_size (by repeat (first | (with_reducible first | exact HB.out | apply below_alloc | apply pw_below_drewN | apply below_drew1) | exact HB.out))) : w.heap.size ≤ gb101)); have n3_ := Aside0.mk ((by rw [hg]; exact (below_size (by repeat (first | (with_reducible first | exact HB.out | apply below_alloc | apply pw_below_drewN | apply below_drew1) | exact HB.out))) : w.heap.size ≤ gb101)); clear HB; have HB := n0_; have BK101 := n1_; have GW101 := n2_; have GE101 := n3_; clear n0_ n1_ n2_ n3_; clear hb hbox hg; have hcz9_0 : w8.cell? ⟨gb101, 0, none⟩ = some (.bool a0_0) := (blk_cell BK101.out 0).trans rfl; have hcz9_1 : w8.cell? ⟨gb101, 1, none⟩ = some (.int .u32 a0_1) := (blk_cell BK101.out 1).trans rfl; have hcz9_2 : w8.cell? ⟨gb101, 2, none⟩ = some (.int .u32 a0_2) := (blk_cell BK101.out 2).trans rfl; have hcz9_3 : w8.cell? ⟨gb101, 3, none⟩ = some (.slice A0_3 l0_3.length c0_3) := (blk_cell BK101.out 3).trans rfl; have hcz9_4 : w8.cell? ⟨gb101, 4, none⟩ = some (.slice A0_4 l0_4.length c0_4) := (blk_cell BK101.out 4).trans rfl; have hfz9_0 := blk_frozen BK101.out 0; have hfz9_1 := blk_frozen BK101.out 1; have hfz9_2 := blk_frozen BK101.out 2; have hfz9_3 := blk_frozen BK101.out 3; have hfz9_4 := blk_frozen BK101.out 4) | ((with_reducible refine gate_callee (f := 72) rfl ?_); refine goesL_ (some 8) rfl rfl Try.func72 (by kernel_rfl) rfl #[.agg #[.int .u32 a0_1, .int .u32 a0_2, .slice A0_3 l0_3.length c0_3, .slice A0_4 l0_4.length c0_4], .int .i64 a1] rfl (by (try simp only [List.map_toArray, List.map_cons, List.map_nil]); first | done | rfl | (simp only [List.length_drop, List.length_take]; rfl)) ?_; (with_reducible refine (laws_heldSnap.calls k a0_1 a0_2 _ _ l0_3 _ _ l0_4 a1 t102 _ ?side1 ?side2 ?side3 ?side4 A3.out).mono ?_); (case side1 => repeat (first | exact (Kd.C_below HR0_3.out HB.out) | (with_reducible refine Kd.C_alloc ?_ _) | (with_reducible refine Kd.C_drewN ?_ _) | (with_reducible refine Kd.C_drew ?_))); (case side2 => exact HC0_3.out); (case side3 => repeat (first | exact (Kd.C_below HR0_4.out HB.out) | (with_reducible refine Kd.C_alloc ?_ _) | (with_reducible refine Kd.C_drewN ?_ _) | (with_reducible refine Kd.C_drew ?_))); (case side4 => exact HC0_4.out); rintro e w10 ⟨rfl, hb⟩; refine ⟨_, rfl, ?_⟩; have n0_ := Aside0.mk (blk_below (g := gb101) (o := .cells #[.bool a0_0, .int .u32 a0_1, .int .u32 a0_2, .slice A0_3 l0_3.length c0_3, .slice A0_4 l0_4.length c0_4] 50 (0, 0)) (by (with_reducible repeat (first | refine blk_drewN ?_ _ | refine blk_drew ?_ | refine blk_alloc ?_ _)); exact BK101.out) hb); have n1_ := Aside0.mk (below_step (by repeat (first | (with_reducible first | exact HB.out | apply below_alloc | apply pw_below_drewN | apply below_drew1 | refine below_set ?_ GE101.out) | exact HB.out)) hb); clear BK101; clear HB; have BK101 := n0_; have HB := n1_; clear n0_ n1_; (try clear hb); (try clear hb2); (try clear hk); (try clear hi)))
    go_ret
    exact ⟨by first | rfl | (simp [errW_none, errW_some] <;> rfl) | (simp [*, errW_none, errW_some] <;> rfl), by repeat (first | (with_reducible first | exact HB.out | apply below_alloc | apply pw_below_drewN | apply below_drew1 | refine below_set ?_ GE101.out) | exact HB.out)⟩
end Go.Proofs.Ytgfadfahbhcllaa.Q
end
section
namespace Go.Proofs.Ytgfadfahbhcllaa.P
open Go.RowKit Go.Proofs.YtgfadfahbhcllaaW.PrintWords Go.Proofs.YtgfadfahbhcllaaW.PrintMore Go.Proofs.Ytgfadfahbhcllaa.Q
set_option linter.unusedVariables false
set_option linter.unusedSimpArgs false
def sGen (l : List Int) : Int := le ((l.drop 0).take 4)
def sTail (l : List Int) : Int := le ((l.drop 8).take 4)
def sCnt (l : List Int) : Int := l.getD 6 0
def sDen1 (l : List Int) (j : Nat) : Int := le ((l.drop (denAt j)).take 2)
def sDeny (l : List Int) (i : Nat) : List Int := (List.range i).map (sDen1 l)
def bitOf (l : List Int) (v : Nat) : Bool := decide ((rd l ((12 + v / 8 : Nat) : Int) / 2 ^ (v % 8)) % 2 = 1)
def sUsed (l : List Int) (i : Nat) : List Int := ((List.range i).filter (bitOf l)).map fun (v : Nat) => (v : Int)
theorem sDeny_succ (l : List Int) (i : Nat) : sDeny l (i + 1) = sDeny l i ++ [sDen1 l i] := by unfold sDeny; rw [List.range_succ, List.map_append]; rfl
theorem sDeny_length (l : List Int) (i : Nat) : (sDeny l i).length = i := by unfold sDeny; rw [List.length_map, List.length_range]
theorem sUsed_on {l : List Int} {i : Nat} (h : bitOf l i = true) : sUsed l (i + 1) = sUsed l i ++ [(i : Int)] := by
  unfold sUsed
  rw [List.range_succ, List.filter_append, List.map_append]
  simp [List.filter, h]
theorem sUsed_off {l : List Int} {i : Nat} (h : bitOf l i = false) : sUsed l (i + 1) = sUsed l i := by
  unfold sUsed
  rw [List.range_succ, List.filter_append, List.map_append]
  simp [List.filter, h]
theorem sUsed_length (l : List Int) (i : Nat) : (sUsed l i).length ≤ i := by
  unfold sUsed
  rw [List.length_map]
  exact Nat.le_trans (List.length_filter_le _ _) (by simp)
def isSnap (l : List Int) : Bool := decide (sCnt l ≤ 16) && (goodSnap (sGen l) (sTail l) (sDeny l (sCnt l).toNat) (sUsed l 256) && decide (snapCode (sGen l) (sTail l) (sDeny l (sCnt l).toNat) (sUsed l 256) = l))
def decS (l : List Int) : Bool × Int × Int × List Int × List Int := if l.length = 128 ∧ isSnap l = true then (true, sGen l, sTail l, sDeny l (sCnt l).toNat, sUsed l 256) else (false, 0, 0, [], [])
theorem sGen_range {l : List Int} (h : U8s l) (hl : l.length = 128) : 0 ≤ sGen l ∧ sGen l ≤ 4294967295 := by
  have h1 := le_range ((h.drop 0).take 4)
  rw [show ((l.drop 0).take 4).length = 4 from by rw [List.length_take, List.length_drop]; omega] at h1
  unfold sGen
  omega
theorem sTail_range {l : List Int} (h : U8s l) (hl : l.length = 128) : 0 ≤ sTail l ∧ sTail l ≤ 4294967295 := by
  have h1 := le_range ((h.drop 8).take 4)
  rw [show ((l.drop 8).take 4).length = 4 from by rw [List.length_take, List.length_drop]; omega] at h1
  unfold sTail
  omega
theorem sDen1_range {l : List Int} (h : U8s l) (hl : l.length = 128) {j : Nat} (hj : j < 16) : 0 ≤ sDen1 l j ∧ sDen1 l j < 65536 := by
  have h1 := le_range ((h.drop (denAt j)).take 2)
  have := denAt_fit hj
  rw [show ((l.drop (denAt j)).take 2).length = 2 from by rw [List.length_take, List.length_drop]; omega] at h1
  unfold sDen1
  omega
theorem sCnt_at {l : List Int} (hl : l.length = 128) : l[6]? = some (sCnt l) := by
  unfold sCnt
  rw [List.getD_eq_getElem?_getD, List.getElem?_eq_getElem (by omega)]
  rfl
theorem rd_get {l : List Int} {i : Nat} (hi : i < l.length) : l[i]? = some (rd l (i : Int)) := by
  obtain ⟨b, hb⟩ := some_at hi
  rw [hb, rd_at hb]
end Go.Proofs.Ytgfadfahbhcllaa.P
end
section
namespace Go.Proofs.Ytgfadfahbhcllaa.Q
open Go.RowKit Go.Proofs.YtgfadfahbhcllaaW.PrintWords Go.Proofs.YtgfadfahbhcllaaW.PrintLast Go.Proofs.YtgfadfahbhcllaaW.PrintMore Go.Proofs.Ytgfadfahbhcllaa.LK
set_option linter.unusedVariables false
set_option linter.unusedSimpArgs false
theorem and8_one {x : Int} (h0 : 0 ≤ x) (h1 : x ≤ 255) : Go.bits .and .u8 x 1 = x % 2 := by
  obtain ⟨n, rfl⟩ := Int.eq_ofNat_of_zero_le h0
  unfold Go.bits
  rw [IntKind.wrap_u8]
  have e : ((BitVec.ofInt IntKind.u8.bits (n : Int)) &&& (BitVec.ofInt IntKind.u8.bits 1)).toNat = n % 2 := by
    rw [BitVec.toNat_and, BitVec.ofInt_natCast, BitVec.toNat_ofNat]
    show n % 256 &&& 1 = n % 2
    rw [Nat.mod_eq_of_lt (by omega), Nat.and_one_is_mod]
  simp only [e]
  omega
section
variable {P : Program} {o : Oper} {a : Act} {W : World}
theorem run_ld_cells {T : Nat} {x : Operand} {ad : Addr} {cs : List Value} {d : TypeDesc} (ho : o.op = .load T x) (hx : a.eval x = .pointer (some ad)) (h : ∀ j v, cs[j]? = some v → W.cell? (ad.add j) = some v)
    (hu : P.underlying T = some d) (hd : (match d with | .struct _ | .array _ _ => true | _ => false) = true) (hi : (P.info? T).map (·.size) = some cs.length) :
    (execOp a.eval o).run P W = .ok (.value (.agg cs.toArray)) W := by
  have hl := run_loadCells_list (P := P) W ad cs h
  have hv : (loadVar T ad).run P W = .ok (.agg cs.toArray) W := by
    cases hq : P.info? T with
    | none => simp [hq] at hi
    | some i =>
      have hs : i.size = cs.length := by simpa [hq] using hi
      have hagg : (isAgg T).run P W = .ok true W := by
        unfold isAgg
        rw [Sem.run_bind, run_underlying hu W]
        cases d <;> simp_all
      simp [loadVar, Sem.run_bind, hagg, sizeOf, typeInfo, hq, hs, hl]
  unfold execOp
  simp only [ho, hx, Instr.loadAt, Instr.sureAddr, Sem.run_bind, Sem.run_pure, Result.andThen_ok, hv]
theorem run_arr {T e n len cap : Nat} {x : Operand} {A : Option Addr} (ho : o.op = .sliceToArrayPointer T x) (hx : a.eval x = .slice A len cap) (hu : P.underlying T = some (.array n e)) (hn : n ≤ len) :
    (execOp a.eval o).run P W = .ok (.value (.pointer A)) W := by
  unfold execOp
  simp only [ho, hx, Sem.run_bind, run_arrayAt W T e n A len cap hu hn]
  rfl
end
theorem valW' {P : Program} {ops : Array Oper} {rest : List Oper} {o : Oper} {a : Act} {Q : Exit → Act → World → Prop} {W W' : World} (hw : Region.wanted o (yielded ops a.tmps) = true) {v : Value} (hrun : (execOp a.eval o).run P W = .ok (.value v) W') (h : wpList P ops Q rest (a.put o.dst v) W') : wpList P ops Q (o :: rest) a W := by
  refine wants hw fun K hK => ?_
  unfold Oper.wp
  rw [hrun]
  exact hK _ _ h
def Two (w : World) (b : Nat) (v2 v3 : Value) (xs u : List Int) : Prop := Kd.R (Kd.int .i64) 2 w b (fun k_ => some k_ ≠ v3.ownBlock) v2 xs ∧ Kd.R (Kd.int .i64) 2 w b (fun k_ => some k_ ≠ v2.ownBlock) v3 u
theorem Two.below {w w' : World} {b : Nat} {v2 v3 : Value} {xs u : List Int} (h : Two w b v2 v3 xs u) (hb : Below w.heap.size w w') : Two w' b v2 v3 xs u := ⟨Kd.R_below h.1 hb, Kd.R_below h.2 hb⟩
theorem Two.other {w w' : World} {b g t : Nat} {cs : Array Value} {v2 v3 : Value} {xs u : List Int} (h : Two w b v2 v3 xs u) (hb : w.heap[g]? = some (.cells cs t (0, 0))) (ht : ∀ q, q ∈ 2 :: (Kd.int .i64).E → q ≠ t) (hs : Stp (fun k => k = g) w w') : Two w' b v2 v3 xs u := ⟨R_other h.1 hb ht hs, R_other h.2 hb ht hs⟩
theorem Two.nil {w : World} {b : Nat} {v2 : Value} {xs : List Int} (h : Kd.R (Kd.int .i64) 2 w b (fun _ => True) v2 xs) : Two w b v2 (.slice none 0 0) xs [] := ⟨Kd.R_mono h (fun k _ => by simp [Value.ownBlock]), Kd.R_nil _ _ _ _ _⟩
theorem Two.none {w : World} {b : Nat} : Two w b (.slice none 0 0) (.slice none 0 0) [] [] := Two.nil (Kd.R_nil _ _ _ _ _)
set_option maxHeartbeats 8000000 in
set_option maxRecDepth 100000 in
theorem snap_calls {l : List Int} {w : World} (hl : l.length = 128) (hu : P.U8s l) :
    Calls Try.prog 71 #[.agg (bytesV l).toArray] w fun e w' => ∃ v2 v3, e = .returned (.tuple #[.agg #[.int .u32 (P.decS l).2.1, .int .u32 (P.decS l).2.2.1, v2, v3], .bool (P.decS l).1]) ∧ Two w' w.heap.size v2 v3 (P.decS l).2.2.2.1 (P.decS l).2.2.2.2 ∧ Below w.heap.size w w' := by
  obtain ⟨kq, hkq⟩ := (P.impl_get_ev l 0 4 hu (by decide) (by decide) (by decide) (by omega) (by omega)).ex
  obtain ⟨kt, hkt⟩ := (P.impl_get_ev l 8 4 hu (by decide) (by decide) (by decide) (by omega) (by omega)).ex
  have rq := P.sGen_range hu hl
  have rt := P.sTail_range hu hl
  obtain ⟨g, hg⟩ : ∃ g, g = P.sGen l := ⟨_, rfl⟩
  obtain ⟨t, ht⟩ : ∃ t, t = P.sTail l := ⟨_, rfl⟩
  rw [← hg] at rq
  rw [← ht] at rt
  have HQ := Aside0.mk (show impl_get.f kq l 0 4 = some g from by rw [hkq, hg]; rfl)
  have HT := Aside0.mk (show impl_get.f kt l 8 4 = some t from by rw [hkt, ht]; rfl)
  have jq : IntKind.u32.wrap g = g := by rw [IntKind.wrap_u32]; omega
  have jt : IntKind.u32.wrap t = t := by rw [IntKind.wrap_u32]; omega
  have h6 := P.sCnt_at hl
  obtain ⟨n, hn⟩ : ∃ n, n = P.sCnt l := ⟨_, rfl⟩
  rw [← hn] at h6
  have rn := hu.at_ h6
  have jn : IntKind.i64.wrap n = n := by rw [IntKind.wrap_i64]; omega
  have HG := Aside0.mk hg
  have HTl := Aside0.mk ht
  have HN := Aside0.mk hn
  have RQ := Aside0.mk rq
  have RT := Aside0.mk rt
  have RN := Aside0.mk rn
  have H6 := Aside0.mk h6
  have HL := Aside0.mk hl
  have HU := Aside0.mk hu
  have H0 := Aside0.mk (Bx.refl w)
  clear hkq hkt rq rt hg ht h6 hn rn hl hu
  go_enter Try.func71, Try.ntmps71
  go_wp2_with (first | ((with_reducible refine gate_dst (N := 1) rfl ?_); refine Aside0.out ?_))
  refine Aside0.mk ?_
  refine mk ?hw1 (N := 1) ?hd1 (cs := (bytesV l).toArray) (t := 98) ?hr1 ?_
  case hd1 => rfl
  case hw1 => rfl
  case hr1 => first | (go_simp; done) | (go_simp; rfl)
  intro g1 hg1_ w101 hb1 hB1
  have H102 := Aside0.mk (H0.out.new hg1_ hb1 hB1)
  clear hg1_ hb1 hB1 H0
  go_wp2_with (first | ((with_reducible refine gate_dst (N := 2) rfl ?_); refine Aside0.out ?_))
  refine Aside0.mk ?_
  refine mk ?hw3 (N := 2) ?hd3 (cs := #[.int .u32 0, .int .u32 0, .slice none 0 0, .slice none 0 0]) (t := 44) ?hr3 ?_
  case hd3 => rfl
  case hw3 => rfl
  case hr3 => first | (go_simp; done) | (go_simp; rfl)
  intro g2 hg2_ w103 hb3 hB3
  have H104 := Aside0.mk (H102.out.new hg2_ hb3 hB3)
  clear hg2_ hb3 hB3 H102
  try go_wp2
  have H106 := Aside0.mk H104.out.drew
  refine start_ (n := 9) (S := fun w' => True) (ds := [8]) #[false, false, false, false, false, false, false, false, false] (by kernel_rfl) rfl rfl trivial (fun hHeld => ?_)
  clear H104
  generalize w103.drew = w105 at H106 hHeld ⊢
  refine pure_ (i := 0) (N := some 7) (v := ?_) (a' := ?_) #[true, false, false, false, false, false, false, false, false] rfl rfl (by kernel_rfl) (fun _ _ _ h => h) (Or.inl ⟨by rfl, ?_⟩) ?_ ?_
  rotate_left
  · intro w'
    go_simp
    with_reducible rfl
  rotate_left
  · simp only [Act.put, List.setIfInBounds_toArray, List.set_cons_zero, List.set_cons_succ, i64_w, i32_w]
    rfl
  refine pure_ (i := 3) (N := some 10) (v := ?_) (a' := ?_) #[true, false, false, true, false, false, false, false, false] rfl rfl (by kernel_rfl) (fun _ _ _ h => h) (Or.inl ⟨by rfl, ?_⟩) ?_ ?_
  rotate_left
  · intro w'
    go_simp
    with_reducible rfl
  rotate_left
  · simp only [Act.put, List.setIfInBounds_toArray, List.set_cons_zero, List.set_cons_succ, i64_w, i32_w]
    rfl
  refine join_ (σ := Nat) 1 #[true, true, true, true, true, true, true, true, false] (fun s_ => [(8, .int .u64 g), (9, .int .u32 g), (11, .int .u64 t), (12, .int .u32 t), (13, .agg #[.int .u32 g, .int .u32 t, .slice none 0 0, .slice none 0 0]), (4, .pointer (some ⟨s_, 0, none⟩))]) (fun s_ w' => (True) ∧ Bx w [(s_, #[.int .u32 0, .int .u32 0, .slice none 0 0, .slice none 0 0], 44), (g2, #[.int .u32 0, .int .u32 0, .slice none 0 0, .slice none 0 0], 44), (g1, (bytesV l).toArray, 98)] w') ?_ ?_
  rotate_left
  · intro hCont
    refine two_ (i := 1) (j := 7) (Ni := some 8) (Nj := some 4) #[true, true, false, true, false, false, false, false, false] #[true, false, false, true, false, false, false, true, false] rfl rfl rfl rfl (by kernel_rfl) (by decide) (by decide) (fun K hK => ?_) (fun K hK => ?_)
    · skip
      refine goes_ Try.func90 (by kernel_rfl) rfl #[.slice (some ⟨g1, 0, none⟩) 128 128, .int .i64 0, .int .i64 4] (by rfl) rfl rfl (by (try simp only [List.map_toArray, List.map_cons, List.map_nil]); first | done | rfl) ?_
      have hC7 : Kd.C (Kd.int .u8) w105 (some ⟨g1, 0, none⟩) l.length l := (Kd.R_reads' (R_arr (base := 0) (l := l) H106.out.gt1 (Nat.zero_le _) (by rw [HL.out]; decide))).2.2
      have hc7 := impl_get.calls kq _ 128 l 0 4 g _ hC7 (by rw [HL.out]; decide) HQ.out
      rw [HL.out] at hc7
      refine hc7.mono ?_
      rintro e w107 ⟨rfl, hd_⟩
      refine ⟨_, rfl, ?_⟩
      have hb_ := hd_.below
      clear hd_ hC7 hc7
      have H108 := Aside0.mk (H106.out.step hb_)
      clear hb_ H106
      refine hK.out _ _ trivial (fun hHeld => ?_)
      clear hK K
      refine norm_ (a' := ?_) ?_ ?_
      rotate_left
      · show Act.put _ (some 8) _ = _
        simp only [Act.put, List.setIfInBounds_toArray, List.set_cons_zero, List.set_cons_succ, i64_w, i32_w]
        rfl
      refine pure_ (i := 2) (N := some 9) (v := ?_) (a' := ?_) #[true, true, true, true, false, false, false, false, false] rfl rfl (by kernel_rfl) (fun _ _ _ h => h) (Or.inl ⟨by rfl, ?_⟩) ?_ ?_
      rotate_left
      · intro w'
        go_simp
        with_reducible rfl
      rotate_left
      · simp only [Act.put, List.setIfInBounds_toArray, List.set_cons_zero, List.set_cons_succ, i64_w, i32_w]
        rfl
      refine two_ (i := 4) (j := 7) (Ni := some 11) (Nj := some 4) #[true, true, true, true, true, false, false, false, false] #[true, true, true, true, false, false, false, true, false] rfl rfl rfl rfl (by kernel_rfl) (by decide) (by decide) (fun K hK => ?_) (fun K hK => ?_)
      · skip
        refine goes_ Try.func90 (by kernel_rfl) rfl #[.slice (some ⟨g1, 0, none⟩) 128 128, .int .i64 8, .int .i64 4] (by rfl) rfl rfl (by (try simp only [List.map_toArray, List.map_cons, List.map_nil]); first | done | rfl) ?_
        have hC9 : Kd.C (Kd.int .u8) w107 (some ⟨g1, 0, none⟩) l.length l := (Kd.R_reads' (R_arr (base := 0) (l := l) H108.out.gt1 (Nat.zero_le _) (by rw [HL.out]; decide))).2.2
        have hc9 := impl_get.calls kt _ 128 l 8 4 t _ hC9 (by rw [HL.out]; decide) HT.out
        rw [HL.out] at hc9
        refine hc9.mono ?_
        rintro e w109 ⟨rfl, hd_⟩
        refine ⟨_, rfl, ?_⟩
        have hb_ := hd_.below
        clear hd_ hC9 hc9
        have H110 := Aside0.mk (H108.out.step hb_)
        clear hb_ H108
        refine hK.out _ _ trivial (fun hHeld => ?_)
        clear hK K
        refine norm_ (a' := ?_) ?_ ?_
        rotate_left
        · show Act.put _ (some 11) _ = _
          simp only [Act.put, List.setIfInBounds_toArray, List.set_cons_zero, List.set_cons_succ, i64_w, i32_w]
          rfl
        refine pure_ (i := 5) (N := some 12) (v := ?_) (a' := ?_) #[true, true, true, true, true, true, false, false, false] rfl rfl (by kernel_rfl) (fun _ _ _ h => h) (Or.inl ⟨by rfl, ?_⟩) ?_ ?_
        rotate_left
        · intro w'
          go_simp
          with_reducible rfl
        rotate_left
        · simp only [Act.put, List.setIfInBounds_toArray, List.set_cons_zero, List.set_cons_succ, i64_w, i32_w]
          rfl
        refine pure_ (i := 6) (N := some 13) (v := ?_) (a' := ?_) #[true, true, true, true, true, true, true, false, false] rfl rfl (by kernel_rfl) (fun _ _ _ h => h) (Or.inl ⟨by rfl, ?_⟩) ?_ ?_
        rotate_left
        · intro w'
          go_simp
          with_reducible rfl
        rotate_left
        · simp only [Act.put, List.setIfInBounds_toArray, List.set_cons_zero, List.set_cons_succ, i64_w, i32_w]
          rfl
        refine one_ (i := 7) (N := some 4) #[true, true, true, true, true, true, true, true, false] rfl rfl (by kernel_rfl) (by decide) (fun K hK => ?_)
        refine box_step ?hg11 (N := 4) ?hd11 (cs := #[.int .u32 0, .int .u32 0, .slice none 0 0, .slice none 0 0]) (t := 44) ?hr11 ?_
        case hd11 => rfl
        case hg11 => rfl
        case hr11 => first | (go_simp; done) | (go_simp; rfl)
        intro g4 hg4_ w111 hb11 hB11
        have H112 := Aside0.mk (H110.out.new hg4_ hb11 hB11)
        clear hg4_ hb11 hB11 H110
        refine hK.out _ _ trivial (fun hHeld => ?_)
        clear hK K
        refine norm_ (a' := ?_) ?_ ?_
        rotate_left
        · show Act.put _ (some 4) _ = _
          simp only [Act.put, List.setIfInBounds_toArray, List.set_cons_zero, List.set_cons_succ, i64_w, i32_w]
          rfl
        exact norm_ (by simp only [putAll, Act.put, List.setIfInBounds_toArray, List.set_cons_zero, List.set_cons_succ]) (hCont g4 _ ⟨hHeld, H112.out⟩)
      · skip
        refine box_step ?hg13 (N := 4) ?hd13 (cs := #[.int .u32 0, .int .u32 0, .slice none 0 0, .slice none 0 0]) (t := 44) ?hr13 ?_
        case hd13 => rfl
        case hg13 => rfl
        case hr13 => first | (go_simp; done) | (go_simp; rfl)
        intro g4 hg4_ w113 hb13 hB13
        have H114 := Aside0.mk (H108.out.new hg4_ hb13 hB13)
        clear hg4_ hb13 hB13 H108
        refine hK.out _ _ trivial (fun hHeld => ?_)
        clear hK K
        refine norm_ (a' := ?_) ?_ ?_
        rotate_left
        · show Act.put _ (some 4) _ = _
          simp only [Act.put, List.setIfInBounds_toArray, List.set_cons_zero, List.set_cons_succ, i64_w, i32_w]
          rfl
        refine one_ (i := 4) (N := some 11) #[true, true, true, true, true, false, false, true, false] rfl rfl (by kernel_rfl) (by decide) (fun K hK => ?_)
        refine goes_ Try.func90 (by kernel_rfl) rfl #[.slice (some ⟨g1, 0, none⟩) 128 128, .int .i64 8, .int .i64 4] (by rfl) rfl rfl (by (try simp only [List.map_toArray, List.map_cons, List.map_nil]); first | done | rfl) ?_
        have hC15 : Kd.C (Kd.int .u8) w113 (some ⟨g1, 0, none⟩) l.length l := (Kd.R_reads' (R_arr (base := 0) (l := l) H114.out.gt2 (Nat.zero_le _) (by rw [HL.out]; decide))).2.2
        have hc15 := impl_get.calls kt _ 128 l 8 4 t _ hC15 (by rw [HL.out]; decide) HT.out
        rw [HL.out] at hc15
        refine hc15.mono ?_
        rintro e w115 ⟨rfl, hd_⟩
        refine ⟨_, rfl, ?_⟩
        have hb_ := hd_.below
        clear hd_ hC15 hc15
        have H116 := Aside0.mk (H114.out.step hb_)
        clear hb_ H114
        refine hK.out _ _ trivial (fun hHeld => ?_)
        clear hK K
        refine norm_ (a' := ?_) ?_ ?_
        rotate_left
        · show Act.put _ (some 11) _ = _
          simp only [Act.put, List.setIfInBounds_toArray, List.set_cons_zero, List.set_cons_succ, i64_w, i32_w]
          rfl
        refine pure_ (i := 5) (N := some 12) (v := ?_) (a' := ?_) #[true, true, true, true, true, true, false, true, false] rfl rfl (by kernel_rfl) (fun _ _ _ h => h) (Or.inl ⟨by rfl, ?_⟩) ?_ ?_
        rotate_left
        · intro w'
          go_simp
          with_reducible rfl
        rotate_left
        · simp only [Act.put, List.setIfInBounds_toArray, List.set_cons_zero, List.set_cons_succ, i64_w, i32_w]
          rfl
        refine pure_ (i := 6) (N := some 13) (v := ?_) (a' := ?_) #[true, true, true, true, true, true, true, true, false] rfl rfl (by kernel_rfl) (fun _ _ _ h => h) (Or.inl ⟨by rfl, ?_⟩) ?_ ?_
        rotate_left
        · intro w'
          go_simp
          with_reducible rfl
        rotate_left
        · simp only [Act.put, List.setIfInBounds_toArray, List.set_cons_zero, List.set_cons_succ, i64_w, i32_w]
          rfl
        exact norm_ (by simp only [putAll, Act.put, List.setIfInBounds_toArray, List.set_cons_zero, List.set_cons_succ]) (hCont g4 _ ⟨hHeld, H116.out⟩)
    · skip
      refine box_step ?hg17 (N := 4) ?hd17 (cs := #[.int .u32 0, .int .u32 0, .slice none 0 0, .slice none 0 0]) (t := 44) ?hr17 ?_
      case hd17 => rfl
      case hg17 => rfl
      case hr17 => first | (go_simp; done) | (go_simp; rfl)
      intro g4 hg4_ w117 hb17 hB17
      have H118 := Aside0.mk (H106.out.new hg4_ hb17 hB17)
      clear hg4_ hb17 hB17 H106
      refine hK.out _ _ trivial (fun hHeld => ?_)
      clear hK K
      refine norm_ (a' := ?_) ?_ ?_
      rotate_left
      · show Act.put _ (some 4) _ = _
        simp only [Act.put, List.setIfInBounds_toArray, List.set_cons_zero, List.set_cons_succ, i64_w, i32_w]
        rfl
      refine one_ (i := 1) (N := some 8) #[true, true, false, true, false, false, false, true, false] rfl rfl (by kernel_rfl) (by decide) (fun K hK => ?_)
      refine goes_ Try.func90 (by kernel_rfl) rfl #[.slice (some ⟨g1, 0, none⟩) 128 128, .int .i64 0, .int .i64 4] (by rfl) rfl rfl (by (try simp only [List.map_toArray, List.map_cons, List.map_nil]); first | done | rfl) ?_
      have hC19 : Kd.C (Kd.int .u8) w117 (some ⟨g1, 0, none⟩) l.length l := (Kd.R_reads' (R_arr (base := 0) (l := l) H118.out.gt2 (Nat.zero_le _) (by rw [HL.out]; decide))).2.2
      have hc19 := impl_get.calls kq _ 128 l 0 4 g _ hC19 (by rw [HL.out]; decide) HQ.out
      rw [HL.out] at hc19
      refine hc19.mono ?_
      rintro e w119 ⟨rfl, hd_⟩
      refine ⟨_, rfl, ?_⟩
      have hb_ := hd_.below
      clear hd_ hC19 hc19
      have H120 := Aside0.mk (H118.out.step hb_)
      clear hb_ H118
      refine hK.out _ _ trivial (fun hHeld => ?_)
      clear hK K
      refine norm_ (a' := ?_) ?_ ?_
      rotate_left
      · show Act.put _ (some 8) _ = _
        simp only [Act.put, List.setIfInBounds_toArray, List.set_cons_zero, List.set_cons_succ, i64_w, i32_w]
        rfl
      refine pure_ (i := 2) (N := some 9) (v := ?_) (a' := ?_) #[true, true, true, true, false, false, false, true, false] rfl rfl (by kernel_rfl) (fun _ _ _ h => h) (Or.inl ⟨by rfl, ?_⟩) ?_ ?_
      rotate_left
      · intro w'
        go_simp
        with_reducible rfl
      rotate_left
      · simp only [Act.put, List.setIfInBounds_toArray, List.set_cons_zero, List.set_cons_succ, i64_w, i32_w]
        rfl
      refine one_ (i := 4) (N := some 11) #[true, true, true, true, true, false, false, true, false] rfl rfl (by kernel_rfl) (by decide) (fun K hK => ?_)
      refine goes_ Try.func90 (by kernel_rfl) rfl #[.slice (some ⟨g1, 0, none⟩) 128 128, .int .i64 8, .int .i64 4] (by rfl) rfl rfl (by (try simp only [List.map_toArray, List.map_cons, List.map_nil]); first | done | rfl) ?_
      have hC21 : Kd.C (Kd.int .u8) w119 (some ⟨g1, 0, none⟩) l.length l := (Kd.R_reads' (R_arr (base := 0) (l := l) H120.out.gt2 (Nat.zero_le _) (by rw [HL.out]; decide))).2.2
      have hc21 := impl_get.calls kt _ 128 l 8 4 t _ hC21 (by rw [HL.out]; decide) HT.out
      rw [HL.out] at hc21
      refine hc21.mono ?_
      rintro e w121 ⟨rfl, hd_⟩
      refine ⟨_, rfl, ?_⟩
      have hb_ := hd_.below
      clear hd_ hC21 hc21
      have H122 := Aside0.mk (H120.out.step hb_)
      clear hb_ H120
      refine hK.out _ _ trivial (fun hHeld => ?_)
      clear hK K
      refine norm_ (a' := ?_) ?_ ?_
      rotate_left
      · show Act.put _ (some 11) _ = _
        simp only [Act.put, List.setIfInBounds_toArray, List.set_cons_zero, List.set_cons_succ, i64_w, i32_w]
        rfl
      refine pure_ (i := 5) (N := some 12) (v := ?_) (a' := ?_) #[true, true, true, true, true, true, false, true, false] rfl rfl (by kernel_rfl) (fun _ _ _ h => h) (Or.inl ⟨by rfl, ?_⟩) ?_ ?_
      rotate_left
      · intro w'
        go_simp
        with_reducible rfl
      rotate_left
      · simp only [Act.put, List.setIfInBounds_toArray, List.set_cons_zero, List.set_cons_succ, i64_w, i32_w]
        rfl
      refine pure_ (i := 6) (N := some 13) (v := ?_) (a' := ?_) #[true, true, true, true, true, true, true, true, false] rfl rfl (by kernel_rfl) (fun _ _ _ h => h) (Or.inl ⟨by rfl, ?_⟩) ?_ ?_
      rotate_left
      · intro w'
        go_simp
        with_reducible rfl
      rotate_left
      · simp only [Act.put, List.setIfInBounds_toArray, List.set_cons_zero, List.set_cons_succ, i64_w, i32_w]
        rfl
      exact norm_ (by simp only [putAll, Act.put, List.setIfInBounds_toArray, List.set_cons_zero, List.set_cons_succ]) (hCont g4 _ ⟨hHeld, H122.out⟩)
  rintro g4 w123 ⟨hHeld, hX_⟩
  have H124 := Aside0.mk hX_
  clear hX_ H106
  refine norm_ (a' := ?_) ?_ ?_
  rotate_left
  · simp only [putAll, Act.put, List.setIfInBounds_toArray, List.set_cons_zero, List.set_cons_succ]
    rfl
  refine last_ (i := 8) (N := none) #[true, true, true, true, true, true, true, true, true] rfl rfl (by kernel_rfl) (by decide) (fun K hK => ?_)
  refine st_step (by rfl) rfl rfl ?hp25 (cs := #[.int .u32 g, .int .u32 t, .slice none 0 0, .slice none 0 0]) ?hx25 H124.out.gt0 (by kernel_rfl) (rfl) (by simp [Value.oneCell']) ?_
  case hp25 => rfl
  case hx25 => rfl
  intro w125 hb25 hS25
  have H126 := Aside0.mk (H124.out.wr0 (cs' := #[.int .u32 g, .int .u32 t, .slice none 0 0, .slice none 0 0]) hb25 hS25)
  clear hb25 hS25 H124
  refine hK.out _ _ ?_
  clear hK K
  refine done_ (by kernel_rfl) ?_
  have hc6 : w125.cell? ⟨g1, 6, none⟩ = some (.int .u8 n) := (blk_cell H126.out.gt2 6).trans (by unfold bytesV; rw [List.getElem?_toArray, List.getElem?_map, H6.out]; rfl)
  by_cases c16 : n ≤ 16
  · have c16b : decide (16 < n) = false := decide_eq_false (by omega)
    have C16 := Aside0.mk c16
    clear c16
    obtain ⟨m, hm⟩ : ∃ m : Nat, m = n.toNat := ⟨_, rfl⟩
    have HM := Aside0.mk (show n = (m : Int) ∧ m ≤ 16 from by have := RN.out; have := C16.out; omega)
    clear hm
    go_wp2
    clear hc6 c16b
    have hnm := HM.out.1
    subst hnm
    go_loopg [21] (m + 1) (fun kq v_ w' => ∃ (i : Nat) (x : Int) (wl : World) (v2 : Value), v_ = .int .i64 x ∧ Aside0 (wl = w') ∧ Aside0 (x = (i : Int)) ∧ Aside0 (kq + i = m + 1) ∧ Aside0 (i ≤ m) ∧ Aside0 (Bx w [(g4, #[.int .u32 g, .int .u32 t, v2, .slice none 0 0], 44), (g2, #[.int .u32 0, .int .u32 0, .slice none 0 0, .slice none 0 0], 44), (g1, (bytesV l).toArray, 98)] w') ∧ Aside0 (Kd.R (Kd.int .i64) 2 w' w.heap.size (fun _ => True) v2 (P.sDeny l i)))
    case atStart => exact ⟨0, 0, _, _, rfl, ⟨rfl⟩, ⟨rfl⟩, ⟨by omega⟩, ⟨Nat.zero_le _⟩, H126, ⟨Kd.R_nil _ _ _ _ _⟩⟩
    case round =>
      clear H126
      obtain ⟨i, x, wl, v2, rfl, hwl, HE, HK, HI, HX, HD⟩ := hrel
      obtain ⟨hwl⟩ := hwl
      subst hwl
      have he := HE.out
      cases gk with
      | zero => exact absurd HK.out (by have := HI.out; omega)
      | succ k1_ =>
        by_cases c3 : i < m
        · have C3 := Aside0.mk c3
          have c3b : decide (x < (m : Int)) = true := decide_eq_true (by omega)
          have jx : IntKind.i64.wrap (x + 1) = x + 1 := by rw [IntKind.wrap_i64]; have := HM.out; omega
          have HI16 := Aside0.mk (show i < 16 from by have := HM.out; omega)
          have hat := P.denAt_fit HI16.out
          have HFit := Aside0.mk hat
          have HDA := Aside0.mk (show impl_denyAt.f x = some ((P.denAt i : Nat) : Int) from by rw [he]; exact P.denyAt_is HI16.out)
          obtain ⟨kg, hkg⟩ := (P.impl_get_ev l ((P.denAt i : Nat) : Int) 2 HU.out (by omega) (by decide) (by decide) (by rw [HL.out]; omega) (by rw [HL.out]; decide)).ex
          obtain ⟨y, hy⟩ : ∃ y, y = P.sDen1 l i := ⟨_, rfl⟩
          have HGt := Aside0.mk (show impl_get.f kg l ((P.denAt i : Nat) : Int) 2 = some y from by rw [hkg, hy]; unfold P.sDen1; rw [Int.toNat_natCast]; rfl)
          have HY := Aside0.mk hy
          have jy : IntKind.i64.wrap y = y := by have := P.sDen1_range HU.out HL.out HI16.out; rw [IntKind.wrap_i64, hy]; omega
          obtain ⟨A2, c2, e2⟩ := Kd.R_slice HD.out
          subst e2
          clear c3 he hat hkg hy
          go_wp2
          have H130 := Aside0.mk HX.out.drew
          have n31_ := Aside0.mk (Kd.R_below HD.out (below_drew1 (Below.refl wl.heap.size wl)))
          clear HD
          have HD := n31_
          clear n31_
          refine start_ (n := 11) (S := fun w' => w'.cell? ⟨g4, 2, none⟩ = some (.slice A2 (P.sDeny l i).length c2)) (ds := [10]) #[false, false, false, false, false, false, false, false, false, false, false] (by kernel_rfl) rfl rfl ((blk_cell (by first | exact H130.out.gt0 | exact H130.out.gt1) 2).trans rfl) (fun hHeld => ?_)
          clear HX
          generalize wl.drew = w129 at H130 HD hHeld ⊢
          refine pure_ (i := 0) (N := some 24) (v := ?_) (a' := ?_) #[true, false, false, false, false, false, false, false, false, false, false] rfl rfl (by kernel_rfl) (fun _ _ _ h => h) (Or.inl ⟨by rfl, ?_⟩) ?_ ?_
          rotate_left
          · intro w'
            go_simp
            with_reducible rfl
          rotate_left
          · simp only [Act.put, List.setIfInBounds_toArray, List.set_cons_zero, List.set_cons_succ, i64_w, i32_w]
            rfl
          refine pure_ (i := 2) (N := some 26) (v := ?_) (a' := ?_) #[true, false, true, false, false, false, false, false, false, false, false] rfl rfl (by kernel_rfl) (fun _ _ _ h => h) (Or.inl ⟨by rfl, ?_⟩) ?_ ?_
          rotate_left
          · intro w'
            go_simp
            with_reducible rfl
          rotate_left
          · simp only [Act.put, List.setIfInBounds_toArray, List.set_cons_zero, List.set_cons_succ, i64_w, i32_w]
            rfl
          refine pure_ (i := 3) (N := some 27) (v := ?_) (a' := ?_) #[true, false, true, true, false, false, false, false, false, false, false] rfl rfl (by kernel_rfl) (fun _ _ _ h => h) (Or.inl ⟨by rfl, ?_⟩) ?_ ?_
          rotate_left
          · intro w'
            go_simp
            with_reducible rfl
          rotate_left
          · simp only [Act.put, List.setIfInBounds_toArray, List.set_cons_zero, List.set_cons_succ, i64_w, i32_w]
            rfl
          refine take_ (i := 1) (N := some 25) (v := ?_) (a' := ?_) #[true, true, true, true, false, false, false, false, false, false, false] rfl rfl (by kernel_rfl) (fun _ _ _ h => h) (Or.inl ⟨by rfl, ?_⟩) hHeld ?_ ?_
          rotate_left
          · rintro w' s0
            go_simp
            with_reducible rfl
          rotate_left
          · simp only [Act.put, List.setIfInBounds_toArray, List.set_cons_zero, List.set_cons_succ, i64_w, i32_w]
            rfl
          refine one_ (i := 4) (N := some 28) #[true, true, true, true, true, false, false, false, false, false, false] rfl rfl (by kernel_rfl) (by decide) (fun K hK => ?_)
          refine goes_ Try.func95 (by kernel_rfl) rfl #[.int .i64 x] (by rfl) rfl rfl (by (try simp only [List.map_toArray, List.map_cons, List.map_nil]); first | done | rfl) ?_
          refine (impl_denyAt.calls x _ _ HDA.out).mono ?_
          rintro e w132 ⟨rfl, hd_⟩
          refine ⟨_, rfl, ?_⟩
          have hb_ := hd_.below
          clear hd_
          have H133 := Aside0.mk (H130.out.step hb_)
          have n34_ := Aside0.mk (Kd.R_below HD.out hb_)
          clear HD
          have HD := n34_
          clear n34_
          clear hb_ H130
          refine hK.out _ _ ((blk_cell (by first | exact H133.out.gt0 | exact H133.out.gt1) 2).trans rfl) (fun hHeld => ?_)
          clear hK K
          refine norm_ (a' := ?_) ?_ ?_
          rotate_left
          · show Act.put _ (some 28) _ = _
            simp only [Act.put, List.setIfInBounds_toArray, List.set_cons_zero, List.set_cons_succ, i64_w, i32_w]
            rfl
          refine one_ (i := 5) (N := some 29) #[true, true, true, true, true, true, false, false, false, false, false] rfl rfl (by kernel_rfl) (by decide) (fun K hK => ?_)
          refine goes_ Try.func90 (by kernel_rfl) rfl #[.slice (some ⟨g1, 0, none⟩) 128 128, .int .i64 (P.denAt i : Nat), .int .i64 2] (by rfl) rfl rfl (by (try simp only [List.map_toArray, List.map_cons, List.map_nil]); first | done | rfl) ?_
          have hC_ : Kd.C (Kd.int .u8) w132 (some ⟨g1, 0, none⟩) l.length l := (Kd.R_reads' (R_arr (base := 0) (l := l) H133.out.gt2 (Nat.zero_le _) (by rw [HL.out]; decide))).2.2
          have hc_ := impl_get.calls kg _ 128 l ((P.denAt i : Nat) : Int) 2 y _ hC_ (by rw [HL.out]; decide) HGt.out
          rw [HL.out] at hc_
          refine hc_.mono ?_
          rintro e w135 ⟨rfl, hd_⟩
          refine ⟨_, rfl, ?_⟩
          have hb_ := hd_.below
          clear hd_ hC_ hc_
          have H136 := Aside0.mk (H133.out.step hb_)
          have n37_ := Aside0.mk (Kd.R_below HD.out hb_)
          clear HD
          have HD := n37_
          clear n37_
          clear hb_ H133
          refine hK.out _ _ ((blk_cell (by first | exact H136.out.gt0 | exact H136.out.gt1) 2).trans rfl) (fun hHeld => ?_)
          clear hK K
          refine norm_ (a' := ?_) ?_ ?_
          rotate_left
          · show Act.put _ (some 29) _ = _
            simp only [Act.put, List.setIfInBounds_toArray, List.set_cons_zero, List.set_cons_succ, i64_w, i32_w]
            rfl
          refine pure_ (i := 6) (N := some 30) (v := ?_) (a' := ?_) #[true, true, true, true, true, true, true, false, false, false, false] rfl rfl (by kernel_rfl) (fun _ _ _ h => h) (Or.inl ⟨by rfl, ?_⟩) ?_ ?_
          rotate_left
          · intro w'
            go_simp
            with_reducible rfl
          rotate_left
          · simp only [Act.put, List.setIfInBounds_toArray, List.set_cons_zero, List.set_cons_succ, i64_w, i32_w]
            rfl
          refine one_ (i := 7) (N := some 31) #[true, true, true, true, true, true, true, true, false, false, false] rfl rfl (by kernel_rfl) (by decide) (fun K hK => ?_)
          refine value_ (w1 := ?_) (v := ?_) (by rfl) rfl ?_ ?_
          rotate_left 2
          · go_simp
            constructor
            · rfl
            · rfl
          refine hK.out _ _ ((blk_cell (blk_alloc H136.out.gt0 _) 2).trans rfl) (fun hHeld => ?_)
          clear hK K
          refine norm_ (a' := ?_) ?_ ?_
          rotate_left
          · show Act.put _ (some 31) _ = _
            simp only [Act.put, List.setIfInBounds_toArray, List.set_cons_zero, List.set_cons_succ, i64_w, i32_w]
            rfl
          refine one_ (i := 8) (N := some 32) #[true, true, true, true, true, true, true, true, true, false, false] rfl rfl (by kernel_rfl) (by decide) (fun K hK => ?_)
          refine Kd.R_append_step (Kd.int .i64) (w0 := w) w.heap.size (by rfl) (.tmp 25) (.tmp 31) 39 2 (.int .i64 0) 8 rfl Try.underlying39 info2 rfl (by decide) (by omega) (.slice A2 (P.sDeny l i).length c2) (P.sDeny l i) (y) [.int .i64 (y)] (fun _ => True) (fun _ => False) rfl rfl ?aP38 (fun _ hk => hk.elim) ?aF38 ?aO38 ?aB38 ?aS38 ?aL38 ?_
          case aP38 => exact rfl
          case aB38 => exact H136.out.below
          case aF38 => exact (fun _ _ => trivial)
          case aO38 => exact HD.out
          case aS38 => exact H136.out.below.size
          case aL38 => rw [P.sDeny_length]; have := HI16.out; omega
          intro v1 w138 ho hb_ hg_ hat_
          have hst_ := Stp.grown (S := fun k => some k = (.slice A2 (P.sDeny l i).length c2 : Value).ownBlock) hg_ (fun k hk => hk.symm)
          have H139 := Aside0.mk (H136.out.stp hst_ (fun k hk => Kd.R_base HD.out k hk.symm) (fun b hb he => by
            obtain ⟨cells, hc⟩ := Kd.R_typed HD.out b.1 he.symm
            have h2 := (H136.out.at_ b hb).2
            rw [hc] at h2
            simp only [List.mem_cons, List.not_mem_nil, or_false] at hb
            rcases hb with rfl | rfl | rfl <;> cases h2))
          clear hst_ H136
          have HD2 := Aside0.mk (show Kd.R (Kd.int .i64) 2 w138 w.heap.size (fun _ => True) v1 (P.sDeny l (i + 1)) from by rw [P.sDeny_succ, ← HY.out]; exact ho)
          clear ho hb_ hg_ hat_ HD
          have HD := HD2
          clear HD2
          refine hK.out _ _ ((blk_cell (by first | exact H139.out.gt0 | exact H139.out.gt1) 2).trans rfl) (fun hHeld => ?_)
          clear hK K
          refine norm_ (a' := ?_) ?_ ?_
          rotate_left
          · show Act.put _ (some 32) _ = _
            simp only [Act.put, List.setIfInBounds_toArray, List.set_cons_zero, List.set_cons_succ, i64_w, i32_w]
            rfl
          refine pure_ (i := 9) (N := some 33) (v := ?_) (a' := ?_) #[true, true, true, true, true, true, true, true, true, true, false] rfl rfl (by kernel_rfl) (fun _ _ _ h => h) (Or.inl ⟨by rfl, ?_⟩) ?_ ?_
          rotate_left
          · intro w'
            go_simp
            with_reducible rfl
          rotate_left
          · simp only [Act.put, List.setIfInBounds_toArray, List.set_cons_zero, List.set_cons_succ, i64_w, i32_w]
            rfl
          refine last_ (i := 10) (N := none) #[true, true, true, true, true, true, true, true, true, true, true] rfl rfl (by kernel_rfl) (by decide) (fun K hK => ?_)
          obtain ⟨A1, c1, e1⟩ := Kd.R_slice HD.out
          subst e1
          refine st_part_step (o' := 2) (u := .slice A1 (P.sDeny l (i + 1)).length c1) (seg := [.slice A1 (P.sDeny l (i + 1)).length c1]) (by rfl) rfl rfl ?hp40 ?hx40 rfl H139.out.gt0 (by kernel_rfl) (by show 3 ≤ 4; decide) (by simp [Value.oneCell']) ?_
          case hp40 => rfl
          case hx40 => rfl
          intro w140 hb40 hS40
          have H141 := Aside0.mk (H139.out.wr0 (cs' := #[.int .u32 g, .int .u32 t, .slice A1 (P.sDeny l (i + 1)).length c1, .slice none 0 0]) hb40 hS40)
          have n42_ := Aside0.mk (R_other HD.out H139.out.gt0 (by decide) hS40)
          clear HD
          have HD := n42_
          clear n42_
          clear hb40 hS40 H139
          refine hK.out _ _ ?_
          clear hK K
          refine done_ (by kernel_rfl) ?_
          try dsimp only
          have HZ := Aside0.mk H141.out
          have HZD := Aside0.mk HD.out
          clear H141 HD jy
          go_wp2
          go_roundg k1_
          case measure => omega
          case rel => exact ⟨i + 1, x + 1, _, _, rfl, ⟨rfl⟩, ⟨by rw [HE.out]; rfl⟩, ⟨by have := HK.out; omega⟩, ⟨by have := C3.out; omega⟩, HZ, HZD⟩
        · have c3b : decide (x < (m : Int)) = false := decide_eq_false (by omega)
          obtain rfl : i = m := by have := HI.out; omega
          clear he c3
          have HT2 := Aside0.mk (Two.nil HD.out)
          clear HD
          have HX1 := HX
          clear HX HE HK HI
          go_wp2
          clear c3b
          go_loopg [35] 257 (fun kq v_ w' => ∃ (j : Nat) (x : Int) (wl : World) (v3 : Value), v_ = .int .i64 x ∧ Aside0 (wl = w') ∧ Aside0 (x = (j : Int)) ∧ Aside0 (kq + j = 257) ∧ Aside0 (j ≤ 256) ∧ Aside0 (Bx w [(g4, #[.int .u32 g, .int .u32 t, v2, v3], 44), (g2, #[.int .u32 0, .int .u32 0, .slice none 0 0, .slice none 0 0], 44), (g1, (bytesV l).toArray, 98)] w') ∧ Aside0 (Two w' w.heap.size v2 v3 (P.sDeny l i) (P.sUsed l j)))
          case atStart => exact ⟨0, 0, _, _, rfl, ⟨rfl⟩, ⟨rfl⟩, ⟨by omega⟩, ⟨Nat.zero_le _⟩, HX1, HT2⟩
          case round =>
            clear HX1 HT2
            obtain ⟨j, x, wl, v3, rfl, hwl, HE, HK, HI, HX, HT2⟩ := hrel
            obtain ⟨hwl⟩ := hwl
            subst hwl
            have he := HE.out
            cases gk with
            | zero => exact absurd HK.out (by have := HI.out; omega)
            | succ k1_ =>
              by_cases c3 : j < 256
              · have C3 := Aside0.mk c3
                have c3b : decide (x < 256) = true := decide_eq_true (by omega)
                have jx : IntKind.i64.wrap (x + 1) = x + 1 := by rw [IntKind.wrap_i64]; omega
                obtain ⟨q, hq⟩ : ∃ q, q = x / 8 := ⟨_, rfl⟩
                obtain ⟨r, hr⟩ : ∃ r, r = x % 8 := ⟨_, rfl⟩
                have HQ := Aside0.mk hq
                have HRm := Aside0.mk hr
                have jq : wrap64 q = q := P.w64 (by omega) (by omega)
                have jr : wrap64 r = r := P.w64 (by omega) (by omega)
                have jq2 : Int.tdiv x 8 = q := by rw [Int.tdiv_eq_ediv_of_nonneg (by omega)]; omega
                have jr2 : Int.tmod x 8 = r := by rw [Int.tmod_eq_emod_of_nonneg (by omega)]; omega
                have ja : wrap64 (12 + q) = 12 + q := P.w64 (by omega) (by omega)
                have pa : (0 ≤ 12 + q) = True := eq_true (by omega)
                have pb : (12 + q < 128) = True := eq_true (by omega)
                have pr : (0 ≤ r) = True := eq_true (by omega)
                obtain ⟨b, hb⟩ : ∃ b, b = rd l (12 + q) := ⟨_, rfl⟩
                have HB := Aside0.mk hb
                have hcb : wl.cell? ⟨g1, (12 + q).toNat, none⟩ = some (.int .u8 b) := (blk_cell HX.out.gt2 _).trans (by
                  have h_ := P.rd_get (l := l) (i := (12 + q).toNat) (by rw [HL.out]; omega)
                  rw [show (((12 + q).toNat : Nat) : Int) = 12 + q from by omega, ← hb] at h_
                  unfold bytesV
                  rw [List.getElem?_toArray, List.getElem?_map, h_]
                  rfl)
                have hb8 : 0 ≤ b ∧ b ≤ 255 := by
                  have h_ := P.rd_get (l := l) (i := (12 + q).toNat) (by rw [HL.out]; omega)
                  rw [show (((12 + q).toNat : Nat) : Int) = 12 + q from by omega, ← hb] at h_
                  exact HU.out.at_ h_
                obtain ⟨z, hz⟩ : ∃ z, z = (b / 2 ^ r.toNat) % 2 := ⟨_, rfl⟩
                have jz : Go.bits .and .u8 (b / 2 ^ min r.toNat 8) 1 = z := by rw [hz, Nat.min_eq_left (by omega)]; exact and8_one (by have := Int.ediv_nonneg hb8.1 (Int.le_of_lt (Int.pow_pos (n := 2) (m := r.toNat) (by decide))); exact this) (Int.le_trans (Int.ediv_le_self _ hb8.1) hb8.2)
                have hbit : P.bitOf l j = decide (z = 1) := by
                  unfold P.bitOf
                  rw [show ((12 + j / 8 : Nat) : Int) = 12 + q from by omega, ← hb, hz, show j % 8 = r.toNat from by omega]
                obtain ⟨A3, c3_, e3⟩ := Kd.R_slice HT2.out.2
                subst e3
                have hc3 : wl.cell? ⟨g4, 3, none⟩ = some (.slice A3 (P.sUsed l j).length c3_) := (blk_cell HX.out.gt0 3).trans rfl
                clear c3 he hq hr hb hb8 hz
                cases hbo : P.bitOf l j with
                | false =>
                  rw [hbo] at hbit
                  have jzb : (z == 1) = false := beq_eq_false_iff_ne.mpr (of_decide_eq_false hbit.symm)
                  have HBo := Aside0.mk hbo
                  have HZD := Aside0.mk (show Two wl w.heap.size v2 (.slice A3 (P.sUsed l j).length c3_) (P.sDeny l i) (P.sUsed l (j + 1)) from by rw [P.sUsed_off hbo]; exact HT2.out)
                  clear hbit hbo HT2
                  go_wp2
                  go_roundg k1_
                  case measure => omega
                  case rel => exact ⟨j + 1, x + 1, _, _, rfl, ⟨rfl⟩, ⟨by rw [HE.out]; rfl⟩, ⟨by have := HK.out; omega⟩, ⟨by have := C3.out; omega⟩, HX, HZD⟩
                | true =>
                  rw [hbo] at hbit
                  have jzb : (z == 1) = true := beq_iff_eq.mpr (of_decide_eq_true hbit.symm)
                  have HBo := Aside0.mk hbo
                  clear hbit hbo
                  go_wp2_with (first | ((with_reducible refine gate_builtin (b := .append) (xs := #[.tmp 49, .tmp 51]) rfl ?_); at_builtin; refine Aside0.out ?_))
                  refine Aside0.mk ?_
                  refine Kd.R_append (Kd.int .i64) (w0 := w) w.heap.size rfl (.tmp 49) (.tmp 51) 39 2 (.int .i64 0) 8 rfl Try.underlying39 info2 rfl (by decide) (by omega) (.slice A3 (P.sUsed l j).length c3_) (P.sUsed l j) (x) [.int .i64 (x)] (fun k_ => some k_ ≠ (v2 : Value).ownBlock) (fun _ => False) rfl rfl ?aP43 (fun _ hk => hk.elim) ?aF43 ?aO43 ?aB43 ?aS43 ?aL43 ?_
                  case aP43 => exact rfl
                  case aB43 => exact HX.out.below
                  case aF43 => exact (fun k_ hk => Kd.fresh' (Kd.R_lt HT2.out.1) k_ hk)
                  case aO43 => exact HT2.out.2
                  case aS43 => exact HX.out.below.size
                  case aL43 => have := P.sUsed_length l j; have := C3.out; omega
                  intro v1 w143 ho hb_ hg_ hat_
                  have hst_ := Stp.grown (S := fun k => some k = (.slice A3 (P.sUsed l j).length c3_ : Value).ownBlock) hg_ (fun k hk => hk.symm)
                  have H144 := Aside0.mk (HX.out.stp hst_ (fun k hk => Kd.R_base HT2.out.2 k hk.symm) (fun b hb he => by
                    obtain ⟨cells, hc⟩ := Kd.R_typed HT2.out.2 b.1 he.symm
                    have h2 := (HX.out.at_ b hb).2
                    rw [hc] at h2
                    simp only [List.mem_cons, List.not_mem_nil, or_false] at hb
                    rcases hb with rfl | rfl | rfl <;> cases h2))
                  clear hst_ HX
                  have HD2 := Aside0.mk (show Two w143 w.heap.size v2 v1 (P.sDeny l i) (P.sUsed l (j + 1)) from ⟨Kd.R_mono (Kd.R_after (ok := fun _ => True) (Kd.R_mono HT2.out.1 (fun _ hk => ⟨trivial, hk⟩)) hg_ hat_) (fun _ hk => hk.2), by rw [P.sUsed_on HBo.out, ← HE.out]; exact ho⟩)
                  clear ho hb_ hg_ hat_ HT2
                  obtain ⟨A4, c4, e4⟩ := Kd.R_slice HD2.out.2
                  subst e4
                  clear hc3 hcb
                  go_wp2_with (first | ((with_reducible refine gate_store (t := 39) (p := 53) rfl ?_); refine Aside0.out ?_))
                  refine Aside0.mk ?_
                  refine st (o' := 3) (u := .slice A4 (P.sUsed l (j + 1)).length c4) (seg := [.slice A4 (P.sUsed l (j + 1)).length c4]) ?hw45 ?hN45 rfl ?hp45 ?hx45 rfl H144.out.gt0 (by kernel_rfl) ?hf45 (by simp [Value.oneCell']) ?_
                  case hw45 => rfl
                  case hN45 => rfl
                  case hp45 => rfl
                  case hx45 => rfl
                  case hf45 => show 4 ≤ 4; decide
                  intro w145 hb45 hS45
                  have H146 := Aside0.mk (H144.out.wr0 (cs' := #[.int .u32 g, .int .u32 t, v2, .slice A4 (P.sUsed l (j + 1)).length c4]) hb45 hS45)
                  have n47_ := Aside0.mk (Two.other HD2.out H144.out.gt0 (by decide) hS45)
                  clear HD2
                  have HD2 := n47_
                  clear n47_
                  clear hb45 hS45 H144
                  have HZ := Aside0.mk H146.out
                  have HZD := Aside0.mk HD2.out
                  clear H146 HD2
                  go_wp2
                  go_roundg k1_
                  case measure => omega
                  case rel => exact ⟨j + 1, x + 1, _, _, rfl, ⟨rfl⟩, ⟨by rw [HE.out]; rfl⟩, ⟨by have := HK.out; omega⟩, ⟨by have := C3.out; omega⟩, HZ, HZD⟩
              · have c3b : decide (x < 256) = false := decide_eq_false (by omega)
                obtain rfl : j = 256 := by have := HI.out; omega
                clear he c3
                obtain ⟨kgd, hkgd⟩ := (P.impl_snap_good g t (P.sDeny l i) (P.sUsed l 256) (by rw [P.sDeny_length]; have := HM.out.2; omega) (Nat.le_trans (P.sUsed_length l 256) (by decide))).ex
                have HSz := Aside0.mk (show P.snapSz g t (P.sDeny l i) (P.sUsed l 256) from ⟨RQ.out, RT.out, by rw [P.sDeny_length]; have := HM.out.2; omega, Nat.le_trans (P.sUsed_length l 256) (by decide)⟩)
                have HDec := Aside0.mk (show P.isSnap l = (P.goodSnap g t (P.sDeny l i) (P.sUsed l 256) && decide (P.snapCode g t (P.sDeny l i) (P.sUsed l 256) = l)) from by unfold P.isSnap; rw [← HN.out, ← HG.out, ← HTl.out, Int.toNat_natCast, decide_eq_true (show (i : Int) ≤ 16 from C16.out), Bool.true_and])
                have HIs := Aside0.mk (show P.sDeny l (P.sCnt l).toNat = P.sDeny l i from by rw [← HN.out, Int.toNat_natCast])
                have HKG := Aside0.mk hkgd
                obtain ⟨xs, hxs⟩ : ∃ xs, xs = P.sDeny l i := ⟨_, rfl⟩
                obtain ⟨u, hus⟩ : ∃ u, u = P.sUsed l 256 := ⟨_, rfl⟩
                rw [← hxs] at HKG HSz HDec HIs HT2
                rw [← hus] at HKG HSz HDec HT2
                have HUs := Aside0.mk hus
                obtain ⟨A2, c2, e2⟩ := Kd.R_slice HT2.out.1
                subst e2
                obtain ⟨A3, c3_, e3⟩ := Kd.R_slice HT2.out.2
                subst e3
                clear hkgd hxs hus
                go_wp2
                clear c3b
                have H149 := Aside0.mk HX.out.drew
                have n50_ := Aside0.mk (Two.below HT2.out (below_drew1 (Below.refl wl.heap.size wl)))
                clear HT2
                have HT2 := n50_
                clear n50_
                refine start_ (n := 9) (S := fun w' => w'.heap[g4]? = some (.cells #[.int .u32 g, .int .u32 t, .slice A2 xs.length c2, .slice A3 u.length c3_] 44 (0, 0)) ∧ w'.heap[g1]? = some (.cells (bytesV l).toArray 98 (0, 0))) (ds := []) #[false, false, false, false, false, false, false, false, false] (by kernel_rfl) rfl rfl ⟨H149.out.gt0, H149.out.gt2⟩ (fun hHeld => ?_)
                clear HX
                generalize wl.drew = w148 at H149 HT2 hHeld ⊢
                refine take_ (i := 0) (N := some 55) (v := .agg #[.int .u32 g, .int .u32 t, .slice A2 xs.length c2, .slice A3 u.length c3_]) (a' := ?_) #[true, false, false, false, false, false, false, false, false] rfl rfl (by kernel_rfl) (fun _ _ _ h => h) (Or.inl ⟨by rfl, ?yl51⟩) hHeld ?ha51 ?hh51
                case yl51 =>
                  rintro w' ⟨s0, s1⟩
                  exact ld_run (x := .tmp 4) (by rfl) (by rfl) s0 Try.underlying44 rfl (by kernel_rfl)
                case ha51 =>
                  simp only [Act.put, List.setIfInBounds_toArray, List.set_cons_zero, List.set_cons_succ, i64_w, i32_w]
                  rfl
                refine one_ (i := 1) (N := some 56) #[true, true, false, false, false, false, false, false, false] rfl rfl (by kernel_rfl) (by decide) (fun K hK => ?_)
                refine goes_ Try.func67 (by kernel_rfl) rfl #[.agg #[.int .u32 g, .int .u32 t, .slice A2 xs.length c2, .slice A3 u.length c3_]] (by rfl) rfl rfl (by (try simp only [List.map_toArray, List.map_cons, List.map_nil]); first | done | rfl) ?_
                refine (impl_Snap_good.calls kgd g t _ _ xs _ _ u _ _ (Kd.R_reads' HT2.out.1).2.2 (Kd.R_reads' HT2.out.1).2.1 (Kd.R_reads' HT2.out.2).2.2 (Kd.R_reads' HT2.out.2).2.1 HKG.out).mono ?_
                rintro e w152 ⟨rfl, hb_⟩
                refine ⟨_, rfl, ?_⟩
                have H153 := Aside0.mk (H149.out.step hb_)
                have n54_ := Aside0.mk (Two.below HT2.out hb_)
                clear HT2
                have HT2 := n54_
                clear n54_
                clear hb_ H149
                refine hK.out _ _ ⟨H153.out.gt0, H153.out.gt2⟩ (fun hHeld => ?_)
                clear hK K
                refine norm_ (a' := ?_) ?_ ?_
                rotate_left
                · show Act.put _ (some 56) _ = _
                  simp only [Act.put, List.setIfInBounds_toArray, List.set_cons_zero, List.set_cons_succ, i64_w, i32_w]
                  rfl
                cases hgd : P.goodSnap g t xs u with
                | false =>
                  have HGd := Aside0.mk hgd
                  clear hgd
                  refine pure_ (i := 2) (N := some 57) (v := ?_) (a' := ?_) #[true, true, true, false, false, false, false, false, false] rfl rfl (by kernel_rfl) (fun _ _ _ h => h) (Or.inl ⟨by rfl, ?_⟩) ?_ ?_
                  rotate_left
                  · intro w'
                    go_simp
                    with_reducible rfl
                  rotate_left
                  · simp only [Act.put, List.setIfInBounds_toArray, List.set_cons_zero, List.set_cons_succ, i64_w, i32_w]
                    rfl
                  refine pure_ (i := 3) (N := some 58) (v := ?_) (a' := ?_) #[true, true, true, true, false, false, false, false, false] rfl rfl (by kernel_rfl) (fun _ _ _ h => h) (Or.inl ⟨by rfl, ?_⟩) ?_ ?_
                  rotate_left
                  · intro w'
                    go_simp
                    with_reducible rfl
                  rotate_left
                  · simp only [Act.put, List.setIfInBounds_toArray, List.set_cons_zero, List.set_cons_succ, i64_w, i32_w]
                    rfl
                  refine pure_ (i := 4) (N := some 59) (v := undef) (a' := ?_) #[true, true, true, true, true, false, false, false, false] rfl rfl (by kernel_rfl) (fun _ _ _ h => h) (Or.inr ⟨by rfl, rfl⟩) ?_ ?_
                  rotate_left
                  · simp only [Act.put, List.setIfInBounds_toArray, List.set_cons_zero, List.set_cons_succ, i64_w, i32_w]
                    rfl
                  refine pure_ (i := 6) (N := some 61) (v := undef) (a' := ?_) #[true, true, true, true, true, false, true, false, false] rfl rfl (by kernel_rfl) (fun _ _ _ h => h) (Or.inr ⟨by rfl, rfl⟩) ?_ ?_
                  rotate_left
                  · simp only [Act.put, List.setIfInBounds_toArray, List.set_cons_zero, List.set_cons_succ, i64_w, i32_w]
                    rfl
                  refine pure_ (i := 5) (N := some 60) (v := undef) (a' := ?_) #[true, true, true, true, true, true, true, false, false] rfl rfl (by kernel_rfl) (fun _ _ _ h => h) (Or.inr ⟨by rfl, rfl⟩) ?_ ?_
                  rotate_left
                  · simp only [Act.put, List.setIfInBounds_toArray, List.set_cons_zero, List.set_cons_succ, i64_w, i32_w]
                    rfl
                  refine pure_ (i := 7) (N := some 62) (v := undef) (a' := ?_) #[true, true, true, true, true, true, true, true, false] rfl rfl (by kernel_rfl) (fun _ _ _ h => h) (Or.inr ⟨by rfl, rfl⟩) ?_ ?_
                  rotate_left
                  · simp only [Act.put, List.setIfInBounds_toArray, List.set_cons_zero, List.set_cons_succ, i64_w, i32_w]
                    rfl
                  refine pure_ (i := 8) (N := some 63) (v := ?_) (a' := ?_) #[true, true, true, true, true, true, true, true, true] rfl rfl (by kernel_rfl) (fun _ _ _ h => h) (Or.inl ⟨by rfl, ?_⟩) ?_ ?_
                  rotate_left
                  · intro w'
                    go_simp
                    with_reducible rfl
                  rotate_left
                  · simp only [Act.put, List.setIfInBounds_toArray, List.set_cons_zero, List.set_cons_succ, i64_w, i32_w]
                    rfl
                  refine done_ (by kernel_rfl) ?_
                  clear hHeld
                  go_wp2_with (first | ((with_reducible refine gate_store (t := 44) (p := 2) rfl ?_); refine Aside0.out ?_))
                  refine Aside0.mk ?_
                  refine st_all ?hw55 ?hN55 rfl ?hp55 (cs := #[.int .u32 0, .int .u32 0, .slice none 0 0, .slice none 0 0]) ?hx55 H153.out.gt1 (by kernel_rfl) rfl (by simp [Value.oneCell']) ?_
                  case hw55 => rfl
                  case hN55 => rfl
                  case hp55 => rfl
                  case hx55 => first | rfl | (go_simp; rfl)
                  intro w155 hb55 hS55
                  have H156 := Aside0.mk (H153.out.wr1 (cs' := #[.int .u32 0, .int .u32 0, .slice none 0 0, .slice none 0 0]) hb55 hS55)
                  have n57_ := Aside0.mk (Two.other HT2.out H153.out.gt1 (by decide) hS55)
                  clear HT2
                  have HT2 := n57_
                  clear n57_
                  clear hb55 hS55 H153
                  go_wp2
                  refine bodyPost_ret (results_ct rfl _ _ g2 44 #[.int .u32 0, .int .u32 0, .slice none 0 0, .slice none 0 0] (0, 0) _ rfl H156.out.gt1 Try.underlying44 rfl (by kernel_rfl)) rfl ?_
                  have hd : P.decS l = (false, 0, 0, [], []) := by
                    unfold P.decS
                    exact if_neg (fun h => by have h2 := h.2; rw [HDec.out, HGd.out] at h2; cases h2)
                  rw [hd]
                  exact ⟨_, _, rfl, Two.none, H156.out.below⟩
                | true =>
                  have HGd := Aside0.mk hgd
                  clear hgd
                  have HOk := Aside0.mk (snapOk_of HSz.out HGd.out)
                  refine pure_ (i := 2) (N := some 57) (v := ?_) (a' := ?_) #[true, true, true, false, false, false, false, false, false] rfl rfl (by kernel_rfl) (fun _ _ _ h => h) (Or.inl ⟨by rfl, ?_⟩) ?_ ?_
                  rotate_left
                  · intro w'
                    go_simp
                    with_reducible rfl
                  rotate_left
                  · simp only [Act.put, List.setIfInBounds_toArray, List.set_cons_zero, List.set_cons_succ, i64_w, i32_w]
                    rfl
                  refine pure_ (i := 3) (N := some 58) (v := ?_) (a' := ?_) #[true, true, true, true, false, false, false, false, false] rfl rfl (by kernel_rfl) (fun _ _ _ h => h) (Or.inl ⟨by rfl, ?_⟩) ?_ ?_
                  rotate_left
                  · intro w'
                    go_simp
                    with_reducible rfl
                  rotate_left
                  · simp only [Act.put, List.setIfInBounds_toArray, List.set_cons_zero, List.set_cons_succ, i64_w, i32_w]
                    rfl
                  refine take_ (i := 4) (N := some 59) (v := .agg #[.int .u32 g, .int .u32 t, .slice A2 xs.length c2, .slice A3 u.length c3_]) (a' := ?_) #[true, true, true, true, true, false, false, false, false] rfl rfl (by kernel_rfl) (fun _ _ _ h => h) (Or.inl ⟨by rfl, ?yl58⟩) hHeld ?ha58 ?hh58
                  case yl58 =>
                    rintro w' ⟨s0, s1⟩
                    exact ld_run (x := .tmp 4) (by rfl) (by rfl) s0 Try.underlying44 rfl (by kernel_rfl)
                  case ha58 =>
                    simp only [Act.put, List.setIfInBounds_toArray, List.set_cons_zero, List.set_cons_succ, i64_w, i32_w]
                    rfl
                  refine take_ (i := 6) (N := some 61) (v := .agg (bytesV l).toArray) (a' := ?_) #[true, true, true, true, true, false, true, false, false] rfl rfl (by kernel_rfl) (fun _ _ _ h => h) (Or.inl ⟨by rfl, ?yl59⟩) hHeld ?ha59 ?hh59
                  case yl59 =>
                    rintro w' ⟨s0, s1⟩
                    exact ld_run (x := .tmp 1) (by rfl) (by rfl) s1 Try.underlying98 rfl (by rw [List.size_toArray, bytesV_length, HL.out]; kernel_rfl)
                  case ha59 =>
                    simp only [Act.put, List.setIfInBounds_toArray, List.set_cons_zero, List.set_cons_succ, i64_w, i32_w]
                    rfl
                  refine one_ (i := 5) (N := some 60) #[true, true, true, true, true, true, true, false, false] rfl rfl (by kernel_rfl) (by decide) (fun K hK => ?_)
                  refine goes_ Try.func68 (by kernel_rfl) rfl #[.agg #[.int .u32 g, .int .u32 t, .slice A2 xs.length c2, .slice A3 u.length c3_]] (by rfl) rfl rfl (by (try simp only [List.map_toArray, List.map_cons, List.map_nil]); first | done | rfl) ?_
                  refine (snap_code_calls (Kd.R_reads' HT2.out.1).2.2 (Kd.R_reads' HT2.out.1).2.1 (Kd.R_reads' HT2.out.2).2.2 (Kd.R_reads' HT2.out.2).2.1 HOk.out).mono ?_
                  rintro e w160 ⟨rfl, hb_⟩
                  refine ⟨_, rfl, ?_⟩
                  have H161 := Aside0.mk (H153.out.step hb_)
                  have n62_ := Aside0.mk (Two.below HT2.out hb_)
                  clear HT2
                  have HT2 := n62_
                  clear n62_
                  clear hb_ H153
                  refine hK.out _ _ ⟨H161.out.gt0, H161.out.gt2⟩ (fun hHeld => ?_)
                  clear hK K
                  refine norm_ (a' := ?_) ?_ ?_
                  rotate_left
                  · show Act.put _ (some 60) _ = _
                    simp only [Act.put, List.setIfInBounds_toArray, List.set_cons_zero, List.set_cons_succ, i64_w, i32_w]
                    rfl
                  obtain ⟨i5, hi5, _, hsz5, _⟩ := info_parts info5
                  have hne := fun W => neq_arr (P := Try.prog) (w := W) Try.underlying98 Try.underlying5 hi5 (by kernel_rfl) (P.snapCode_length g t xs u) HL.out
                  refine pure_ (i := 7) (N := some 62) (v := ?_) (a' := ?_) #[true, true, true, true, true, true, true, true, false] rfl rfl (by kernel_rfl) (fun _ _ _ h => h) (Or.inl ⟨by rfl, ?_⟩) ?_ ?_
                  rotate_left
                  · intro w'
                    go_simp
                    first | with_reducible rfl | rfl
                  rotate_left
                  · simp only [Act.put, List.setIfInBounds_toArray, List.set_cons_zero, List.set_cons_succ, i64_w, i32_w]
                    rfl
                  refine pure_ (i := 8) (N := some 63) (v := ?_) (a' := ?_) #[true, true, true, true, true, true, true, true, true] rfl rfl (by kernel_rfl) (fun _ _ _ h => h) (Or.inl ⟨by rfl, ?_⟩) ?_ ?_
                  rotate_left
                  · intro w'
                    go_simp
                    with_reducible rfl
                  rotate_left
                  · simp only [Act.put, List.setIfInBounds_toArray, List.set_cons_zero, List.set_cons_succ, i64_w, i32_w]
                    rfl
                  refine done_ (by kernel_rfl) ?_
                  clear hne
                  clear hi5 hsz5 hHeld
                  by_cases hc : P.snapCode g t xs u = l
                  · rw [decide_eq_true hc]
                    have HC := Aside0.mk hc
                    clear hc
                    go_wp2_with (first | ((with_reducible refine gate_dst (N := 65) rfl ?_); refine Aside0.out ?_))
                    refine Aside0.mk ?_
                    refine ld ?hw63 rfl ?hx63 H161.out.gt0 Try.underlying44 rfl (by kernel_rfl) ?_
                    case hw63 => rfl
                    case hx63 => rfl
                    go_wp2_with (first | ((with_reducible refine gate_store (t := 44) (p := 2) rfl ?_); refine Aside0.out ?_))
                    refine Aside0.mk ?_
                    refine st_all ?hw64 ?hN64 rfl ?hp64 (cs := #[.int .u32 g, .int .u32 t, .slice A2 xs.length c2, .slice A3 u.length c3_]) ?hx64 H161.out.gt1 (by kernel_rfl) rfl (by simp [Value.oneCell']) ?_
                    case hw64 => rfl
                    case hN64 => rfl
                    case hp64 => rfl
                    case hx64 => first | rfl | (go_simp; rfl)
                    intro w164 hb64 hS64
                    have H165 := Aside0.mk (H161.out.wr1 (cs' := #[.int .u32 g, .int .u32 t, .slice A2 xs.length c2, .slice A3 u.length c3_]) hb64 hS64)
                    have n66_ := Aside0.mk (Two.other HT2.out H161.out.gt1 (by decide) hS64)
                    clear HT2
                    have HT2 := n66_
                    clear n66_
                    clear hb64 hS64 H161
                    go_wp2
                    refine bodyPost_ret (results_ct rfl _ _ g2 44 #[.int .u32 g, .int .u32 t, .slice A2 xs.length c2, .slice A3 u.length c3_] (0, 0) _ rfl H165.out.gt1 Try.underlying44 rfl (by kernel_rfl)) rfl ?_
                    have hd : P.decS l = (true, g, t, xs, u) := by
                      unfold P.decS
                      rw [if_pos ⟨HL.out, by rw [HDec.out, HGd.out, decide_eq_true HC.out]; rfl⟩, HIs.out, ← HUs.out, ← HG.out, ← HTl.out]
                    rw [hd]
                    exact ⟨_, _, rfl, HT2.out, H165.out.below⟩
                  · rw [decide_eq_false hc]
                    have HC := Aside0.mk hc
                    clear hc
                    go_wp2_with (first | ((with_reducible refine gate_store (t := 44) (p := 2) rfl ?_); refine Aside0.out ?_))
                    refine Aside0.mk ?_
                    refine st_all ?hw67 ?hN67 rfl ?hp67 (cs := #[.int .u32 0, .int .u32 0, .slice none 0 0, .slice none 0 0]) ?hx67 H161.out.gt1 (by kernel_rfl) rfl (by simp [Value.oneCell']) ?_
                    case hw67 => rfl
                    case hN67 => rfl
                    case hp67 => rfl
                    case hx67 => first | rfl | (go_simp; rfl)
                    intro w167 hb67 hS67
                    have H168 := Aside0.mk (H161.out.wr1 (cs' := #[.int .u32 0, .int .u32 0, .slice none 0 0, .slice none 0 0]) hb67 hS67)
                    have n69_ := Aside0.mk (Two.other HT2.out H161.out.gt1 (by decide) hS67)
                    clear HT2
                    have HT2 := n69_
                    clear n69_
                    clear hb67 hS67 H161
                    go_wp2
                    refine bodyPost_ret (results_ct rfl _ _ g2 44 #[.int .u32 0, .int .u32 0, .slice none 0 0, .slice none 0 0] (0, 0) _ rfl H168.out.gt1 Try.underlying44 rfl (by kernel_rfl)) rfl ?_
                    have hd : P.decS l = (false, 0, 0, [], []) := by
                      unfold P.decS
                      exact if_neg (fun h => by have h2 := h.2; rw [HDec.out, HGd.out, decide_eq_false HC.out] at h2; cases h2)
                    rw [hd]
                    exact ⟨_, _, rfl, Two.none, H168.out.below⟩
  · have c16b : decide (16 < n) = true := decide_eq_true (by omega)
    have C16 := Aside0.mk c16
    clear c16
    go_wp2_with (first | ((with_reducible refine gate_store (t := 44) (p := 2) rfl ?_); refine Aside0.out ?_))
    refine Aside0.mk ?_
    refine st_all ?hw27 ?hN27 rfl ?hp27 (cs := #[.int .u32 0, .int .u32 0, .slice none 0 0, .slice none 0 0]) ?hx27 H126.out.gt1 (by kernel_rfl) rfl (by simp [Value.oneCell']) ?_
    case hw27 => rfl
    case hN27 => rfl
    case hp27 => rfl
    case hx27 => first | rfl | (go_simp; rfl)
    intro w127 hb27 hS27
    have H128 := Aside0.mk (H126.out.wr1 (cs' := #[.int .u32 0, .int .u32 0, .slice none 0 0, .slice none 0 0]) hb27 hS27)
    clear hb27 hS27 H126
    go_wp2
    refine bodyPost_ret (results_ct rfl _ _ g2 44 #[.int .u32 0, .int .u32 0, .slice none 0 0, .slice none 0 0] (0, 0) _ rfl H128.out.gt1 Try.underlying44 rfl (by kernel_rfl)) rfl ?_
    have hd : P.decS l = (false, 0, 0, [], []) := by
      unfold P.decS
      exact if_neg (fun h => by have h2 := h.2; unfold P.isSnap at h2; rw [← HN.out, show decide (n ≤ 16) = false from decide_eq_false (by have := C16.out; omega)] at h2; cases h2)
    rw [hd]
    exact ⟨_, _, rfl, Two.none, H128.out.below⟩
def impl_DecodeSnap.f (l0 : List Int) : Option (Bool × Int × Int × List Int × List Int) := if P.U8s l0 then some (P.decS l0) else none
set_option maxHeartbeats 8000000 in
set_option maxRecDepth 100000 in
theorem impl_DecodeSnap.calls (A0 : Option Addr) (c0 : Nat) (l0 : List Int) (r1 : Bool) (r2 : Int) (r3 : Int) (r4 : List Int) (r5 : List Int) (w : World) (hr0 : Kd.C (Kd.int .u8) w A0 l0.length l0) (hc0 : l0.length ≤ c0) (h : impl_DecodeSnap.f l0 = some (r1, r2, r3, r4, r5)) :
    Calls Try.prog 31 #[.slice A0 l0.length c0] w fun e w' => ∃ v3_ v4_ : Value, e = .returned (.agg #[.bool r1, .int .u32 r2, .int .u32 r3, v3_, v4_]) ∧ Kd.R (Kd.int .i64) 2 w' w.heap.size (fun k_ => some k_ ≠ (v4_ : Value).ownBlock) v3_ r4 ∧ Kd.R (Kd.int .i64) 2 w' w.heap.size (fun k_ => some k_ ≠ (v3_ : Value).ownBlock) v4_ r5 ∧ Below w.heap.size w w' := by
  unfold impl_DecodeSnap.f at h
  by_cases hu : P.U8s l0
  case neg => rw [if_neg hu] at h; cases h
  rw [if_pos hu] at h
  have h := Option.some.inj h
  have HU := Aside0.mk hu
  have HR0 := Aside0.mk hr0
  have H := Aside0.mk h
  have H0 := Aside0.mk (Bx.refl w)
  clear hu hr0 h hc0
  go_enter Try.func31, Try.ntmps31
  go_wp2_with (first | ((with_reducible refine gate_dst (N := 2) rfl ?_); refine Aside0.out ?_))
  refine Aside0.mk ?_
  refine mk ?hw70 (N := 2) ?hd70 (cs := #[.bool false, .int .u32 0, .int .u32 0, .slice none 0 0, .slice none 0 0]) (t := 50) ?hr70 ?_
  case hd70 => rfl
  case hw70 => rfl
  case hr70 => first | (go_simp; done) | (go_simp; rfl)
  intro g2 hg2_ w170 hb70 hB70
  have H171 := Aside0.mk (H0.out.new hg2_ hb70 hB70)
  clear hg2_ hb70 hB70 H0
  by_cases hl : l0.length = 128
  · have hlb : ((l0.length : Int) != 128) = false := bne_eq_false_iff_eq.mpr (by omega)
    have HL := Aside0.mk hl
    have hrd := Kd.reads_of_C (enc := Value.int .u8) (d := (0 : Int)) (h1 := fun _ => rfl) (Kd.C_below HR0.out H171.out.below)
    obtain ⟨ad, eA, hcell⟩ := hrd.2.2 (by omega)
    subst eA
    have HCl := Aside0.mk (show ∀ j v, (bytesV l0)[j]? = some v → w170.cell? (ad.add j) = some v from fun j v hv => by
      unfold bytesV at hv
      rw [List.getElem?_map] at hv
      obtain ⟨z, hz, rfl⟩ := Option.map_eq_some_iff.1 hv
      have hj : j < l0.length := (List.getElem?_eq_some_iff.1 hz).1
      rw [hcell j hj, List.getD_eq_getElem?_getD, hz]
      rfl)
    clear hl hrd hcell
    go_wp2_with (first | ((with_reducible refine gate_dst (N := 11) rfl ?_); refine Aside0.out ?_))
    refine Aside0.mk ?_
    refine valW' ?hw11 (v := .pointer (some ad)) (run_arr (n := 128) rfl rfl Try.underlying98 (by rw [HL.out]; exact Nat.le_refl _)) ?_
    case hw11 => rfl
    go_wp2_with (first | ((with_reducible refine gate_dst (N := 12) rfl ?_); refine Aside0.out ?_))
    refine Aside0.mk ?_
    refine valW' ?hw12 (run_ld_cells (cs := bytesV l0) rfl rfl HCl.out Try.underlying98 rfl (by rw [bytesV_length, HL.out]; kernel_rfl)) ?_
    case hw12 => rfl
    go_wp2_with (first | ((with_reducible refine gate_callee (f := 71) rfl ?_); refine Aside0.out ?_))
    refine Aside0.mk ?_
    refine goesW (some 13) rfl ?hw72 Try.func71 (by kernel_rfl) rfl #[.agg (bytesV l0).toArray] rfl (by (try simp only [List.map_toArray, List.map_cons, List.map_nil]); first | done | rfl) ?_
    case hw72 => rfl
    refine (snap_calls HL.out HU.out).mono ?_
    rintro e w172 ⟨v2, v3, rfl, ht_, hb_⟩
    refine ⟨_, rfl, ?_⟩
    have HBS := Aside0.mk H171.out.below.size
    have H173 := Aside0.mk (H171.out.step hb_)
    clear hb_ H171
    rw [H.out] at ht_
    have HT2 := Aside0.mk ht_
    clear ht_
    rw [H.out]
    dsimp only
    obtain ⟨A2, c2, e2⟩ := Kd.R_slice HT2.out.1
    subst e2
    obtain ⟨A3, c3, e3⟩ := Kd.R_slice HT2.out.2
    subst e3
    clear H
    go_wp2_with (first | ((with_reducible refine gate_dst (N := 3) rfl ?_); refine Aside0.out ?_))
    refine Aside0.mk ?_
    refine mk ?hw74 (N := 3) ?hd74 (cs := #[.int .u32 0, .int .u32 0, .slice none 0 0, .slice none 0 0]) (t := 44) ?hr74 ?_
    case hd74 => rfl
    case hw74 => rfl
    case hr74 => first | (go_simp; done) | (go_simp; rfl)
    intro g3 hg3_ w174 hb74 hB74
    have H175 := Aside0.mk (H173.out.new hg3_ hb74 hB74)
    have n76_ := Aside0.mk (Two.below HT2.out hB74)
    clear HT2
    have HT2 := n76_
    clear n76_
    clear hg3_ hb74 hB74 H173
    go_wp2_with (first | ((with_reducible refine gate_store (t := 44) (p := 3) rfl ?_); refine Aside0.out ?_))
    refine Aside0.mk ?_
    refine st_all ?hw77 ?hN77 rfl ?hp77 (cs := #[.int .u32 r2, .int .u32 r3, .slice A2 r4.length c2, .slice A3 r5.length c3]) ?hx77 H175.out.gt0 (by kernel_rfl) rfl (by simp [Value.oneCell']) ?_
    case hw77 => rfl
    case hN77 => rfl
    case hp77 => rfl
    case hx77 => first | rfl | (go_simp; rfl)
    intro w177 hb77 hS77
    have H178 := Aside0.mk (H175.out.wr0 (cs' := #[.int .u32 r2, .int .u32 r3, .slice A2 r4.length c2, .slice A3 r5.length c3]) hb77 hS77)
    have n79_ := Aside0.mk (Two.other HT2.out H175.out.gt0 (by decide) hS77)
    clear HT2
    have HT2 := n79_
    clear n79_
    clear hb77 hS77 H175
    go_wp2_with (first | ((with_reducible refine gate_dst (N := 17) rfl ?_); refine Aside0.out ?_))
    refine Aside0.mk ?_
    refine ld ?hw80 rfl ?hx80 H178.out.gt0 Try.underlying44 rfl (by kernel_rfl) ?_
    case hw80 => rfl
    case hx80 => rfl
    go_wp2_with (first | ((with_reducible refine gate_store (t := 50) (p := 2) rfl ?_); refine Aside0.out ?_))
    refine Aside0.mk ?_
    refine st_all ?hw81 ?hN81 rfl ?hp81 (cs := #[.bool r1, .int .u32 r2, .int .u32 r3, .slice A2 r4.length c2, .slice A3 r5.length c3]) ?hx81 H178.out.gt1 (by kernel_rfl) rfl (by simp [Value.oneCell']) ?_
    case hw81 => rfl
    case hN81 => rfl
    case hp81 => rfl
    case hx81 => first | rfl | (go_simp; rfl)
    intro w181 hb81 hS81
    have H182 := Aside0.mk (H178.out.wr1 (cs' := #[.bool r1, .int .u32 r2, .int .u32 r3, .slice A2 r4.length c2, .slice A3 r5.length c3]) hb81 hS81)
    have n83_ := Aside0.mk (Two.other HT2.out H178.out.gt1 (by decide) hS81)
    clear HT2
    have HT2 := n83_
    clear n83_
    clear hb81 hS81 H178
    go_wp2
    refine bodyPost_ret (results_cell_row rfl _ _ g2 50 #[.bool r1, .int .u32 r2, .int .u32 r3, .slice A2 r4.length c2, .slice A3 r5.length c3] (0, 0) _ rfl H182.out.gt1 Try.underlying50 rfl (by kernel_rfl)) rfl ?_
    exact ⟨_, _, rfl, Kd.R_lower HT2.out.1 HBS.out, Kd.R_lower HT2.out.2 HBS.out, H182.out.below⟩
  · have hlb : ((l0.length : Int) != 128) = true := bne_iff_ne.mpr (by omega)
    have HL := Aside0.mk hl
    clear hl
    have hd : P.decS l0 = (false, 0, 0, [], []) := by
      unfold P.decS
      exact if_neg (fun h => HL.out h.1)
    have h := H.out
    rw [hd] at h
    clear H hd
    simp only [Prod.mk.injEq] at h
    obtain ⟨rfl, rfl, rfl, rfl, rfl⟩ := h
    go_wp2_with (first | ((with_reducible refine gate_store (t := 50) (p := 2) rfl ?_); refine Aside0.out ?_))
    refine Aside0.mk ?_
    refine st_all ?hw84 ?hN84 rfl ?hp84 (cs := #[.bool false, .int .u32 0, .int .u32 0, .slice none 0 0, .slice none 0 0]) ?hx84 H171.out.gt0 (by kernel_rfl) rfl (by simp [Value.oneCell']) ?_
    case hw84 => rfl
    case hN84 => rfl
    case hp84 => rfl
    case hx84 => first | rfl | (go_simp; rfl)
    intro w184 hb84 hS84
    have H185 := Aside0.mk (H171.out.wr0 (cs' := #[.bool false, .int .u32 0, .int .u32 0, .slice none 0 0, .slice none 0 0]) hb84 hS84)
    clear hb84 hS84 H171
    go_wp2
    refine bodyPost_ret (results_cell_row rfl _ _ g2 50 #[.bool false, .int .u32 0, .int .u32 0, .slice none 0 0, .slice none 0 0] (0, 0) _ rfl H185.out.gt0 Try.underlying50 rfl (by kernel_rfl)) rfl ?_
    exact ⟨_, _, rfl, (Two.none (w := _) (b := w.heap.size)).1, (Two.none (w := _) (b := w.heap.size)).2, H185.out.below⟩
end Go.Proofs.Ytgfadfahbhcllaa.Q
end
section
namespace Go.Proofs.Ytgfadfahbhcllaa.Q
open Go.RowKit Go.Proofs.YtgfadfahbhcllaaW.PrintWords Go.Proofs.YtgfadfahbhcllaaW.PrintLast Go.Proofs.Ytgfadfahbhcllaa.LK Go.Proofs.YtgfadfahbhcllaaW.PrintMore
attribute [local go_sem] max2_int min2_int max_two min_two max_three min_three max_four min_four
set_option linter.unusedVariables false
set_option linter.unusedSimpArgs false
set_option maxHeartbeats 8000000 in
set_option maxRecDepth 100000 in
theorem laws_markByteS.callsE {e_ : Nat} (k : Nat) (P0_ : Nat → Prop) (u9000_ : Value) (l0 : List Int) (a1 : Int) (r1 : Int) (r2 : List Int) (w0 w : World) (hB : Below w0.heap.size w0 w) (ho0 : Kd.R (Kd.int .u8) e_ w w0.heap.size P0_ u9000_ l0) (h : laws_markByteS.f k l0 a1 = some (r1, r2)) :
    Calls Try.prog 15 #[u9000_, .int .i64 a1] w fun e w' => e = .returned (.int .i64 r1) ∧ Kd.R (Kd.int .u8) e_ w' w0.heap.size (fun k_ => (P0_ k_ ∨ w.heap.size ≤ k_)) u9000_ r2 ∧ Below w0.heap.size w0 w' ∧ Kept w w' (fun k_ => P0_ k_) := by
  have HO0 := Aside0.mk (show Kd.R (Kd.int .u8) e_ w w0.heap.size (fun k_ => (P0_ k_ ∨ w.heap.size ≤ k_)) u9000_ l0 from Kd.R_mono ho0 (fun k_ hk => (.inl hk)))
  have HK := Aside0.mk (Kept.refl w (fun k_ => P0_ k_))
  have HW0 := Aside0.mk hB.size
  have HB := Aside0.mk hB
  clear hB
  have H : (laws_markByteS.l0 k l0 a1 0) = some (r1, r2) := h
  clear h
  have H' := Aside0.mk H
  clear H
  go_enter Try.func15, Try.ntmps15
  go_wp2
  go_loopg [1, 5] k (fun kq v1 v5 w' => ∃ (x0_1 : List Int) (x1_1 : Int) (x5_1 : Int), v1 = .int .i64 x1_1 ∧ v5 = .int .i64 x5_1 ∧ Aside0 (laws_markByteS.l0 kq x0_1 x1_1 x5_1 = some (r1, r2)) ∧ Aside0 (kq ≤ k) ∧ Aside0 (Kd.R (Kd.int .u8) e_ w' w0.heap.size (fun k_ => (P0_ k_ ∨ w.heap.size ≤ k_)) u9000_ x0_1) ∧ Aside0 (Kept w w' (fun k_ => P0_ k_)) ∧ Aside0 (Below w0.heap.size w0 w'))
  case atStart => exact ⟨(l0), (a1), (0), (by first | rfl | (simp; done) | (simp [*]; done)), (by first | rfl | (simp; done) | (simp [*]; done)), H', ⟨Nat.le_refl _⟩, ⟨by (with_reducible repeat (first | apply Kd.R_alloc | apply Kd.R_drewN | apply Kd.R_drew)); exact HO0.out⟩, ⟨by repeat (first | (with_reducible first | exact HK.out | apply Kept.alloc | apply Kept.drewN | apply Kept.drew) | exact HK.out)⟩, ⟨by repeat (first | (with_reducible first | exact HB.out | apply below_alloc | apply pw_below_drewN | apply below_drew1) | exact HB.out)⟩⟩
  case round =>
    clear H'
    try clear c1
    try clear p2
    obtain ⟨x0_1, x1_1, x5_1, rfl, rfl, HA, HK1, HO_0, HK, HB⟩ := hrel
    cases gk with
    | zero => exact absurd HA.out (by simp [laws_markByteS.l0])
    | succ k1 =>
      have H := HA.out
      clear HA
      simp only [laws_markByteS.l0] at H
      by_cases c3 : x5_1 < (x0_1.length : Int)
      · rw [if_pos c3] at H
        have c3b0 : decide (x5_1 < (x0_1.length : Int)) = true := decide_eq_true c3
        clear c3
        by_cases c4 : 0 ≤ x5_1
        · rw [if_pos c4] at H
          have c4b0 : decide (0 ≤ x5_1) = true := decide_eq_true c4
          clear c4
          obtain ⟨y101, hy101⟩ : ∃ y_ : List Int, y_ = (x0_1.set (x5_1 : Int).toNat ((x1_1) % 256)) := ⟨_, rfl⟩
          replace H : (laws_markByteS.l0 k1 y101 (wrap64 (x1_1 + 1)) (wrap64 (x5_1 + 1))) = some (r1, r2) := by first | (rw [hy101]; with_reducible exact H) | (have H2_ := (Option.bind_some _ _).symm.trans H; rw [hy101]; with_reducible exact H2_) | (have H2_ := (Option.bind_some _ _).symm.trans H; with_reducible exact H2_) | with_reducible exact H | (rw [hy101]; exact H) | exact H
          have Ny101 := Aside0.mk hy101
          clear hy101
          have H' := Aside0.mk H
          clear H
          obtain ⟨Ao6, co6, eo6⟩ := Kd.R_slice HO_0.out
          subst eo6
          have p5 : 0 ≤ (x5_1 : Int) := of_decide_eq_true (by first | (with_reducible assumption) | assumption)
          have q5 : (x5_1 : Int) < ((x0_1.length : Int) : Int) := of_decide_eq_true (by first | (with_reducible assumption) | assumption)
          obtain ⟨go5, co5, eo5, gb5, gl5, cl5, HG5⟩ := Kd.R_form HO_0.out (by omega)
          (first | cases eo5 | (injection eo5 with ea_ en_ ec_; (first | subst ea_ | (injection ea_ with ea_; subst ea_)); subst ec_; clear en_))
          have GB5 := Aside0.mk gb5
          have GG5 := Aside0.mk HG5
          clear gb5 gl5 HG5
          have HMgo5 := Aside0.mk (show (P0_ go5 ∨ w.heap.size ≤ go5) from (HO_0.out.1 _ rfl))
          obtain ⟨hx5_0, hf5_0⟩ := Kd.R_celln 0 HO_0.out (x5_1 : Int) p5 q5
          replace p5 := eq_true p5
          replace q5 := eq_true q5
          have HP7 := Kd.R_putg HO_0.out (x5_1 : Int) ((x1_1) % 256)
          go_wp2_with (first | ((with_reducible refine gate_store (t := 5) (p := 16) rfl ?_); refine store_event (t := 5) (p := 16) (v := ?vo_w8) (w1 := (wr.setCell ⟨go5, (x5_1 : Int).toNat, none⟩ (.int .u8 ((x1_1) % 256)))) ?hg ?ho ?hn ?hr ?_; (case ho => rfl); (case hg => rfl); (case hn => rfl); (case hr => first | (go_simp; done) | (go_simp; rfl)); intro w8 hw; have hg : wr.grownBy w8 (some go5) := (by rw [hw]; exact HP7.2); have hp_ : Kd.R (Kd.int .u8) e_ w8 w0.heap.size (fun k_ => (P0_ k_ ∨ w.heap.size ≤ k_)) (.slice (some ⟨go5, 0, none⟩) x0_1.length co6) y101 := (by rw [hw, Ny101.out]; exact HP7.1); clear HP7; have n0_ := Aside0.mk (hp_); have n1_ := Aside0.mk ((by rw [hw]; exact below_set (HB.out) GB5.out : Below w0.heap.size w0 w8)); have n2_ := Aside0.mk (Kept.of_grown (S := (fun k_ => P0_ k_)) hg (by repeat (first | (with_reducible first | exact HK.out | apply Kept.alloc | apply Kept.drewN | apply Kept.drew) | exact HK.out)) (fun k_ e_ => (HO_0.out.1 k_ e_))); clear HO_0; clear HB; clear HK; have HO_0 := n0_; have HB := n1_; have HK := n2_; clear n0_ n1_ n2_; clear hg hw hp_))
          go_roundg k1
          case measure => have := HK1.out; omega
          case rel => exact ⟨(y101), (wrap64 (x1_1 + 1)), (wrap64 (x5_1 + 1)), (by first | rfl | (simp; done) | (simp [*]; done)), (by first | rfl | (simp; done) | (simp [*]; done)), H', ⟨by have := HK1.out; omega⟩, ⟨by (with_reducible repeat (first | apply Kd.R_alloc | apply Kd.R_drewN | apply Kd.R_drew)); exact HO_0.out⟩, ⟨by repeat (first | (with_reducible first | exact HK.out | apply Kept.alloc | apply Kept.drewN | apply Kept.drew) | exact HK.out)⟩, ⟨by repeat (first | (with_reducible first | exact HB.out | apply below_alloc | apply pw_below_drewN | apply below_drew1) | exact HB.out)⟩⟩
        · rw [if_neg c4] at H
          exact absurd H (by simp)
      · rw [if_neg c3] at H
        have c3b0 : decide (x5_1 < (x0_1.length : Int)) = false := decide_eq_false c3
        clear c3
        simp only [Option.some.injEq, Prod.mk.injEq] at H
        obtain ⟨rfl, rfl⟩ := H
        obtain ⟨Ao9, co9, eo9⟩ := Kd.R_slice HO_0.out
        subst eo9
        go_wp2
        go_ret
        exact ⟨by first | rfl | (simp [errW_none, errW_some] <;> rfl) | (simp [*, errW_none, errW_some] <;> rfl), by (with_reducible repeat (first | apply Kd.R_alloc | apply Kd.R_drewN | apply Kd.R_drew)); exact HO_0.out, by repeat (first | (with_reducible first | exact HB.out | apply below_alloc | apply pw_below_drewN | apply below_drew1) | exact HB.out), by repeat (first | (with_reducible first | exact HK.out | apply Kept.alloc | apply Kept.drewN | apply Kept.drew) | exact HK.out)⟩
end Go.Proofs.Ytgfadfahbhcllaa.Q
end
section
namespace Go.Proofs.Ytgfadfahbhcllaa.Q
open Go.RowKit Go.Proofs.YtgfadfahbhcllaaW.PrintWords Go.Proofs.YtgfadfahbhcllaaW.PrintLast Go.Proofs.YtgfadfahbhcllaaW.PrintMore Go.Proofs.Ytgfadfahbhcllaa.LK
set_option linter.unusedVariables false
set_option linter.unusedSimpArgs false
def trunc (w : World) (b : Nat) : World := { w with heap := w.heap.extract 0 b }
theorem trunc_size {w : World} {b : Nat} (h : b ≤ w.heap.size) : (trunc w b).heap.size = b := by simp [trunc]; omega
theorem trunc_below {w : World} {b : Nat} (h : b ≤ w.heap.size) : Below b (trunc w b) w :=
  ⟨rfl, rfl, rfl, by rw [trunc_size h]; exact h, fun i hi => by
    simp only [trunc]
    rw [Array.getElem?_extract]
    simp only [hi, Nat.sub_zero, Nat.zero_add, Nat.lt_min, true_and]
    by_cases h2 : i < w.heap.size
    · simp [h2]
    · rw [if_neg h2, Array.getElem?_eq_none (by omega)]⟩
theorem markB {k b e_ : Nat} {P0 : Nat → Prop} {v : Value} {l l' : List Int} {m m' : Int} {w : World} (hbw : b ≤ w.heap.size) (hr : Kd.R (Kd.int .u8) e_ w b P0 v l) (h : laws_markByteS.f k l m = some (m', l')) :
    Calls Try.prog 15 #[v, .int .i64 m] w fun e w' => e = .returned (.int .i64 m') ∧ Kd.R (Kd.int .u8) e_ w' b P0 v l' ∧ Stp P0 w w' := by
  have hs := trunc_size hbw
  have hb := trunc_below hbw
  refine (laws_markByteS.callsE k P0 v l m m' l' (trunc w b) w (by rw [hs]; exact hb) (by rw [hs]; exact hr) h).mono ?_
  rintro e w' ⟨rfl, hr', hb', hk⟩
  rw [hs] at hr' hb'
  exact ⟨rfl, Kd.R_mono (Kd.R_tight rfl hr') (fun q hq => hr.1 q hq.symm), ⟨hb'.os.trans hb.os.symm, hb'.tape.trans hb.tape.symm, hb'.output.trans hb.output.symm, hk.1, hk.2⟩⟩
end Go.Proofs.Ytgfadfahbhcllaa.Q
end
section
namespace Go.Proofs.Ytgfadfahbhcllaa.Q
open Go.RowKit Go.Proofs.YtgfadfahbhcllaaW.PrintWords Go.Proofs.YtgfadfahbhcllaaW.PrintLast Go.Proofs.YtgfadfahbhcllaaW.PrintMore Go.Proofs.Ytgfadfahbhcllaa.LK
set_option linter.unusedVariables false
theorem mk_laws_markSnapRes {k b : Nat} {P0 P1 : Nat → Prop} {c : Bool} {a0 a1 : Int} {A0 A1 : Option Addr} {n0 n1 c0 c1 : Nat} {l0 l0' l1 l1' : List Int} {m m' : Int} {w : World} (hbw : b ≤ w.heap.size)
    (hR : Kd.R (Kd.int .i64) 2 w b P0 (.slice A0 n0 c0) l0) (hS : Kd.R (Kd.int .i64) 2 w b P1 (.slice A1 n1 c1) l1) (hne : ∀ q, P1 q → some q ≠ (Value.slice A0 n0 c0).ownBlock) (h : laws_markSnapRes.f k c a0 a1 l0 l1 m = some (m', l0', l1')) :
    Calls Try.prog 33 #[.agg #[.bool c, .int .u32 a0, .int .u32 a1, .slice A0 n0 c0, .slice A1 n1 c1], .int .i64 m] w fun e w' => e = .returned (.int .i64 m') ∧ Kd.R (Kd.int .i64) 2 w' b P0 (.slice A0 n0 c0) l0' ∧ Kd.R (Kd.int .i64) 2 w' b P1 (.slice A1 n1 c1) l1' ∧ Stp (fun q => P0 q ∨ P1 q) w w' := by
  have hs := trunc_size hbw
  have hb := trunc_below hbw
  have t0 : Kd.R (Kd.int .i64) 2 w b (fun q => some q = (Value.slice A0 n0 c0).ownBlock) (.slice A0 n0 c0) l0 := Kd.R_tight rfl hR
  have t1 : Kd.R (Kd.int .i64) 2 w b (fun q => some q = (Value.slice A1 n1 c1).ownBlock) (.slice A1 n1 c1) l1 := Kd.R_tight rfl hS
  refine (laws_markSnapRes.calls k c a0 a1 (fun q => some q = (Value.slice A0 n0 c0).ownBlock) _ l0 (fun q => some q = (Value.slice A1 n1 c1).ownBlock) _ l1 m m' l0' l1' (trunc w b) w (by rw [hs]; exact hb) (by rw [hs]; exact t0) (fun q h0 h1 => hne q (hS.1 q h1.symm) h0) (by rw [hs]; exact t1) (fun q h1 h0 => hne q (hS.1 q h1.symm) h0) h).mono ?_
  rintro e w' ⟨rfl, hr', hs', hb', hk⟩
  rw [hs] at hr' hs' hb'
  exact ⟨rfl, Kd.R_mono (Kd.R_tight rfl hr') (fun q hq => hR.1 q hq.symm), Kd.R_mono (Kd.R_tight rfl hs') (fun q hq => hS.1 q hq.symm), ⟨hb'.os.trans hb.os.symm, hb'.tape.trans hb.tape.symm, hb'.output.trans hb.output.symm, hk.1, fun i hi hn => hk.2 i hi (fun h => hn (h.elim (fun h => .inl (hR.1 i h.symm)) (fun h => .inr (hS.1 i h.symm))))⟩⟩
end Go.Proofs.Ytgfadfahbhcllaa.Q
end
section
namespace Go.Proofs.Ytgfadfahbhcllaa.Q
open Go.RowKit Go.Proofs.YtgfadfahbhcllaaW.PrintWords Go.Proofs.YtgfadfahbhcllaaW.PrintLast Go.Proofs.Ytgfadfahbhcllaa.LK Go.Proofs.YtgfadfahbhcllaaW.PrintMore
attribute [local go_sem] max2_int min2_int max_two min_two max_three min_three max_four min_four
set_option linter.unusedVariables false
set_option linter.unusedSimpArgs false
def laws_FnExactDecodeSnap.f (k : Nat) (l0 : List Int) : Option (Bool) := if (l0.length : Int) > 1048576 then (some true) else ((laws_toByteS.f k l0).bind fun t101 => ((spec_DecodeSnap.f k t101).bind fun bt104 => ((laws_toByteS.f k l0).bind fun t114 => ((impl_DecodeSnap.f t114).bind fun bt117 => ((laws_eqSnapRes.f k bt117.1 bt117.2.1 bt117.2.2.1 bt117.2.2.2.1 bt117.2.2.2.2 bt104.1 bt104.2.1 bt104.2.2.1 bt104.2.2.2.1 bt104.2.2.2.2).bind fun t127 => (if t127 = true then ((laws_toByteS.f k l0).bind fun t128 => ((laws_eqByteS.f k t114 t128).bind fun t131 => (if t131 = true then ((laws_markByteS.f k t114 1).bind fun bt132 => (if bt132.1 < 0 then (some false) else ((laws_eqSnapRes.f k bt117.1 bt117.2.1 bt117.2.2.1 bt117.2.2.2.1 bt117.2.2.2.2 bt104.1 bt104.2.1 bt104.2.2.1 bt104.2.2.2.1 bt104.2.2.2.2).bind fun t134 => (if t134 = true then ((laws_markSnapRes.f k bt117.1 bt117.2.1 bt117.2.2.1 bt117.2.2.2.1 bt117.2.2.2.2 1).bind fun bt135 => ((laws_heldSnapRes.f k bt117.1 bt117.2.1 bt117.2.2.1 bt135.2.1 bt135.2.2 1).bind fun t138 => (if t138 < 0 then (some false) else (if t138 = bt135.1 then ((laws_toByteS.f k l0).bind fun t139 => ((impl_DecodeSnap.f t139).bind fun bt142 => ((laws_eqSnapRes.f k bt142.1 bt142.2.1 bt142.2.2.1 bt142.2.2.2.1 bt142.2.2.2.2 bt104.1 bt104.2.1 bt104.2.2.1 bt104.2.2.2.1 bt104.2.2.2.2).bind fun t152 => (if t152 = true then (some true) else (some false))))) else (some false))))) else (some false))))) else (some false)))) else (some false)))))))
set_option maxHeartbeats 8000000 in
set_option maxRecDepth 100000 in
theorem laws_FnExactDecodeSnap.calls (k : Nat) (A0 : Option Addr) (c0 : Nat) (l0 : List Int) (w : World) (hr0 : Kd.C (Kd.int .u8) w A0 l0.length l0) (hc0 : l0.length ≤ c0) (h : laws_FnExactDecodeSnap.f k l0 = some true) :
    Calls Try.prog 8 #[.slice A0 l0.length c0] w fun e w' => e = .returned (.bool true) ∧ Below w.heap.size w w' := by
  have hu50 := Try.underlying50
  have HR0 := Aside0.mk hr0
  have HC0 := Aside0.mk hc0
  clear hr0 hc0
  have HB := Aside0.mk (Below.refl w.heap.size w)
  have H : (if (l0.length : Int) > 1048576 then (some true) else ((laws_toByteS.f k l0).bind fun t101 => ((spec_DecodeSnap.f k t101).bind fun bt104 => ((laws_toByteS.f k l0).bind fun t114 => ((impl_DecodeSnap.f t114).bind fun bt117 => ((laws_eqSnapRes.f k bt117.1 bt117.2.1 bt117.2.2.1 bt117.2.2.2.1 bt117.2.2.2.2 bt104.1 bt104.2.1 bt104.2.2.1 bt104.2.2.2.1 bt104.2.2.2.2).bind fun t127 => (if t127 = true then ((laws_toByteS.f k l0).bind fun t128 => ((laws_eqByteS.f k t114 t128).bind fun t131 => (if t131 = true then ((laws_markByteS.f k t114 1).bind fun bt132 => (if bt132.1 < 0 then (some false) else ((laws_eqSnapRes.f k bt117.1 bt117.2.1 bt117.2.2.1 bt117.2.2.2.1 bt117.2.2.2.2 bt104.1 bt104.2.1 bt104.2.2.1 bt104.2.2.2.1 bt104.2.2.2.2).bind fun t134 => (if t134 = true then ((laws_markSnapRes.f k bt117.1 bt117.2.1 bt117.2.2.1 bt117.2.2.2.1 bt117.2.2.2.2 1).bind fun bt135 => ((laws_heldSnapRes.f k bt117.1 bt117.2.1 bt117.2.2.1 bt135.2.1 bt135.2.2 1).bind fun t138 => (if t138 < 0 then (some false) else (if t138 = bt135.1 then ((laws_toByteS.f k l0).bind fun t139 => ((impl_DecodeSnap.f t139).bind fun bt142 => ((laws_eqSnapRes.f k bt142.1 bt142.2.1 bt142.2.2.1 bt142.2.2.2.1 bt142.2.2.2.2 bt104.1 bt104.2.1 bt104.2.2.1 bt104.2.2.2.1 bt104.2.2.2.2).bind fun t152 => (if t152 = true then (some true) else (some false))))) else (some false))))) else (some false))))) else (some false)))) else (some false)))))))) = some true := h
  clear h
  by_cases c1 : (l0.length : Int) > 1048576
  · rw [if_pos c1] at H
    have c1b0 : decide (1048576 < (l0.length : Int)) = true := decide_eq_true c1
    have c1b1 : decide (1048576 < l0.length) = true := decide_eq_true (by omega)
    clear c1
    clear H
    (try clear HB)
    have H0 := Aside0.mk (Hist.refl w)
    go_enter Try.func8, Try.ntmps8
    (try go_wp2)
    go_ret
    exact ⟨rfl, by first | exact H0.out.below | exact Drawn0.refl _⟩
  · rw [if_neg c1] at H
    have c1b0 : decide (1048576 < (l0.length : Int)) = false := decide_eq_false c1
    have c1b1 : decide (1048576 < l0.length) = false := decide_eq_false (by omega)
    clear c1
    replace H := Option.bind_eq_some_iff.mp H
    obtain ⟨t101, A2_, H⟩ := H
    have A2 := Aside0.mk A2_
    clear A2_
    (try dsimp only at H)
    replace H := Option.bind_eq_some_iff.mp H
    obtain ⟨⟨t104, t105, t106, t107, t110⟩, A3_, H⟩ := H
    have A3 := Aside0.mk A3_
    clear A3_
    (try dsimp only at H)
    replace H := Option.bind_eq_some_iff.mp H
    obtain ⟨t114, A4_, H⟩ := H
    have A4 := Aside0.mk A4_
    clear A4_
    (try dsimp only at H)
    replace H := Option.bind_eq_some_iff.mp H
    obtain ⟨⟨t117, t118, t119, t120, t123⟩, A5_, H⟩ := H
    have A5 := Aside0.mk A5_
    clear A5_
    (try dsimp only at H)
    replace H := Option.bind_eq_some_iff.mp H
    obtain ⟨t127, A6_, H⟩ := H
    have A6 := Aside0.mk A6_
    clear A6_
    (try dsimp only at H)
    by_cases c7 : t127 = true
    · rw [if_pos c7] at H
      subst c7
      replace H := Option.bind_eq_some_iff.mp H
      obtain ⟨t128, A8_, H⟩ := H
      have A8 := Aside0.mk A8_
      clear A8_
      (try dsimp only at H)
      replace H := Option.bind_eq_some_iff.mp H
      obtain ⟨t131, A9_, H⟩ := H
      have A9 := Aside0.mk A9_
      clear A9_
      (try dsimp only at H)
      by_cases c10 : t131 = true
      · rw [if_pos c10] at H
        subst c10
        replace H := Option.bind_eq_some_iff.mp H
        obtain ⟨⟨t132, t133⟩, A11_, H⟩ := H
        have A11 := Aside0.mk A11_
        clear A11_
        (try dsimp only at H)
        by_cases c12 : t132 < 0
        · rw [if_pos c12] at H
          exact absurd H (by simp)
        · rw [if_neg c12] at H
          have c12b0 : decide (t132 < 0) = false := decide_eq_false c12
          clear c12
          replace H := Option.bind_eq_some_iff.mp H
          obtain ⟨t134, A13_, H⟩ := H
          have A13 := Aside0.mk A13_
          clear A13_
          (try dsimp only at H)
          by_cases c14 : t134 = true
          · rw [if_pos c14] at H
            subst c14
            replace H := Option.bind_eq_some_iff.mp H
            obtain ⟨⟨t135, t136, t137⟩, A15_, H⟩ := H
            have A15 := Aside0.mk A15_
            clear A15_
            (try dsimp only at H)
            replace H := Option.bind_eq_some_iff.mp H
            obtain ⟨t138, A16_, H⟩ := H
            have A16 := Aside0.mk A16_
            clear A16_
            (try dsimp only at H)
            by_cases c17 : t138 < 0
            · rw [if_pos c17] at H
              exact absurd H (by simp)
            · rw [if_neg c17] at H
              have c17b0 : decide (t138 < 0) = false := decide_eq_false c17
              clear c17
              by_cases c18 : t138 = t135
              · rw [if_pos c18] at H
                have c18b0 : (t138 == t135) = true := beq_iff_eq.mpr c18
                have c18b1 : (t138 != t135) = false := bne_eq_false_iff_eq.mpr c18
                clear c18
                replace H := Option.bind_eq_some_iff.mp H
                obtain ⟨t139, A19_, H⟩ := H
                have A19 := Aside0.mk A19_
                clear A19_
                (try dsimp only at H)
                replace H := Option.bind_eq_some_iff.mp H
                obtain ⟨⟨t142, t143, t144, t145, t148⟩, A20_, H⟩ := H
                have A20 := Aside0.mk A20_
                clear A20_
                (try dsimp only at H)
                replace H := Option.bind_eq_some_iff.mp H
                obtain ⟨t152, A21_, H⟩ := H
                have A21 := Aside0.mk A21_
                clear A21_
                (try dsimp only at H)
                by_cases c22 : t152 = true
                · rw [if_pos c22] at H
                  subst c22
                  clear H
                  (try clear HB)
                  have H0 := Aside0.mk (Hist.refl w)
                  go_enter Try.func8, Try.ntmps8
                  go_wp2_with (first | (((with_reducible refine gate_callee (f := 18) rfl ?_)); refine goesW (some 14) rfl ?hw Try.func18 (by kernel_rfl) rfl #[.slice A0 l0.length c0] rfl (by (try simp only [List.map_toArray, List.map_cons, List.map_nil]); first | done | rfl | (simp only [List.length_drop, List.length_take]; rfl)) ?_; (case hw => rfl); with_reducible refine (laws_toByteS.calls k _ _ l0 t101 _ ?side1 ?side2 A2.out).mono ?_; (case side1 => exact Kd.C_below HR0.out H0.out.below); (case side2 => exact HC0.out); rintro e w23 ⟨v24, rfl, ho25, hb26⟩; refine ⟨_, rfl, ?_⟩; have H27 := Aside0.mk (Hist.step H0.out hb26); clear H0; clear hb26; have F30 := Aside0.mk ho25; clear ho25; obtain ⟨Ao28, co29, eo32⟩ := Kd.R_slice F30.out; (first | subst eo32 | (injection eo32 with f1_ f2_ f3_; have f4_ := f1_.symm; have f5_ := f3_.symm; clear f1_ f2_ f3_; subst f4_; subst f5_)); refine normL (a' := ?_) ?hn ?_; (case hn => first | (simp only [Act.put, List.setIfInBounds_toArray, List.set_cons_zero, List.set_cons_succ]; rfl) | rfl)) | (((with_reducible refine gate_callee (f := 30) rfl ?_)); refine goesW (some 15) rfl ?hw Try.func30 (by kernel_rfl) rfl #[.slice Ao28 t101.length co29] rfl (by (try simp only [List.map_toArray, List.map_cons, List.map_nil]); first | done | rfl | (simp only [List.length_drop, List.length_take]; rfl)) ?_; (case hw => rfl); with_reducible refine (spec_DecodeSnap.calls k _ _ t101 t104 t105 t106 t107 t110 _ ?side1 ?side2 A3.out).mono ?_; (case side1 => exact (Kd.R_reads' (R_fix F30.out H27.out.fixes.hd)).2.2); (case side2 => exact R_capn (R_fix F30.out H27.out.fixes.hd)); rintro e w33 ⟨v34, v35, rfl, ho36, ho37, hb38⟩; refine ⟨_, rfl, ?_⟩; have H39 := Aside0.mk (Hist.step H27.out hb38); clear H27; clear hb38; have F42 := Aside0.mk ho36; clear ho36; have F46 := Aside0.mk ho37; clear ho37; obtain ⟨Ao40, co41, eo48⟩ := Kd.R_slice F42.out; (first | subst eo48 | (injection eo48 with f1_ f2_ f3_; have f4_ := f1_.symm; have f5_ := f3_.symm; clear f1_ f2_ f3_; subst f4_; subst f5_)); obtain ⟨Ao44, co45, eo49⟩ := Kd.R_slice F46.out; (first | subst eo49 | (injection eo49 with f1_ f2_ f3_; have f4_ := f1_.symm; have f5_ := f3_.symm; clear f1_ f2_ f3_; subst f4_; subst f5_)); refine normL (a' := ?_) ?hn ?_; (case hn => first | (simp only [Act.put, List.setIfInBounds_toArray, List.set_cons_zero, List.set_cons_succ]; rfl) | rfl)) | ((with_reducible refine gate_dst (N := 3) rfl ?_); refine mk ?hw (N := 3) ?hd (cs := #[.bool false, .int .u32 0, .int .u32 0, .slice none 0 0, .slice none 0 0]) (t := 50) ?hr ?_; (case hd => rfl); (case hw => rfl); (case hr => first | (go_simp; done) | (go_simp; rfl)); intro g50 hg54 w51 hbox53 hb52; have H55 := Aside0.mk (Hist.step H39.out hb52); clear H39; have B56 := Aside0.mk hbox53; have G57 := Aside0.mk (Nat.le_of_eq hg54.symm); have L58 := Aside0.mk (blk_lt hbox53); clear hb52 hbox53 hg54; refine normL (a' := ?_) ?hn ?_; (case hn => first | (simp only [Act.put, List.setIfInBounds_toArray, List.set_cons_zero, List.set_cons_succ]; rfl) | rfl)) | ((with_reducible refine gate_store (t := 50) (p := 3) rfl ?_); refine st_all ?hw ?hN rfl ?hp (cs := #[.bool t104, .int .u32 t105, .int .u32 t106, .slice Ao40 t107.length co41, .slice Ao44 t110.length co45]) ?hx (blk_fix2 B56.out ⟨G57.out, L58.out⟩ H55.out.fixes.hd) (by kernel_rfl) rfl (by simp [Value.oneCell']) ?_; (case hw => rfl); (case hN => rfl); (case hp => rfl); (case hx => rfl); intro w59 hbox60 hs61; have H62 : Aside0 (Hist w [(w59, w33.heap.size, w51.heap.size), (w33, w23.heap.size, w33.heap.size), (w23, w.heap.size, w23.heap.size)] w59) := ⟨Hist.mark' (w := w51) (b := w33.heap.size) (t := w51.heap.size) (l1 := []) (l2 := [(w33, w23.heap.size, w33.heap.size), (w23, w.heap.size, w23.heap.size)]) (by simp only [List.cons_append, List.nil_append]) (by simp only [List.cons_append, List.nil_append]) H55.out hs61 (fun k_ hk_ => by rw [hk_]; exact ⟨G57.out, L58.out⟩)⟩; have B56n := Aside0.mk hbox60; clear hs61 hbox60 H55 B56; have B56 := B56n; clear B56n) | (((with_reducible refine gate_callee (f := 18) rfl ?_)); refine goesW (some 17) rfl ?hw Try.func18 (by kernel_rfl) rfl #[.slice A0 l0.length c0] rfl (by (try simp only [List.map_toArray, List.map_cons, List.map_nil]); first | done | rfl | (simp only [List.length_drop, List.length_take]; rfl)) ?_; (case hw => rfl); with_reducible refine (laws_toByteS.calls k _ _ l0 t114 _ ?side1 ?side2 A4.out).mono ?_; (case side1 => exact Kd.C_below HR0.out H62.out.below); (case side2 => exact HC0.out); rintro e w63 ⟨v64, rfl, ho65, hb66⟩; refine ⟨_, rfl, ?_⟩; have H67 := Aside0.mk (Hist.step H62.out hb66); clear H62; clear hb66; have F70 := Aside0.mk ho65; clear ho65; obtain ⟨Ao68, co69, eo72⟩ := Kd.R_slice F70.out; (first | subst eo72 | (injection eo72 with f1_ f2_ f3_; have f4_ := f1_.symm; have f5_ := f3_.symm; clear f1_ f2_ f3_; subst f4_; subst f5_)); refine normL (a' := ?_) ?hn ?_; (case hn => first | (simp only [Act.put, List.setIfInBounds_toArray, List.set_cons_zero, List.set_cons_succ]; rfl) | rfl)) | (((with_reducible refine gate_callee (f := 31) rfl ?_)); refine goesW (some 19) rfl ?hw Try.func31 (by kernel_rfl) rfl #[.slice Ao68 t114.length co69] rfl (by (try simp only [List.map_toArray, List.map_cons, List.map_nil]); first | done | rfl | (simp only [List.length_drop, List.length_take]; rfl)) ?_; (case hw => rfl); with_reducible refine (impl_DecodeSnap.calls _ _ t114 t117 t118 t119 t120 t123 _ ?side1 ?side2 A5.out).mono ?_; (case side1 => exact (Kd.R_reads' (R_fix F70.out H67.out.fixes.hd)).2.2); (case side2 => exact R_capn (R_fix F70.out H67.out.fixes.hd)); rintro e w73 ⟨v74, v75, rfl, ho76, ho77, hb78⟩; refine ⟨_, rfl, ?_⟩; have H79 := Aside0.mk (Hist.step H67.out hb78); clear H67; clear hb78; have F82 := Aside0.mk ho76; clear ho76; have F86 := Aside0.mk ho77; clear ho77; obtain ⟨Ao80, co81, eo88⟩ := Kd.R_slice F82.out; (first | subst eo88 | (injection eo88 with f1_ f2_ f3_; have f4_ := f1_.symm; have f5_ := f3_.symm; clear f1_ f2_ f3_; subst f4_; subst f5_)); obtain ⟨Ao84, co85, eo89⟩ := Kd.R_slice F86.out; (first | subst eo89 | (injection eo89 with f1_ f2_ f3_; have f4_ := f1_.symm; have f5_ := f3_.symm; clear f1_ f2_ f3_; subst f4_; subst f5_)); refine normL (a' := ?_) ?hn ?_; (case hn => first | (simp only [Act.put, List.setIfInBounds_toArray, List.set_cons_zero, List.set_cons_succ]; rfl) | rfl)) | ((with_reducible refine gate_dst (N := 5) rfl ?_); refine mk ?hw (N := 5) ?hd (cs := #[.bool false, .int .u32 0, .int .u32 0, .slice none 0 0, .slice none 0 0]) (t := 50) ?hr ?_; (case hd => rfl); (case hw => rfl); (case hr => first | (go_simp; done) | (go_simp; rfl)); intro g90 hg94 w91 hbox93 hb92; have H95 := Aside0.mk (Hist.step H79.out hb92); clear H79; have B96 := Aside0.mk hbox93; have G97 := Aside0.mk (Nat.le_of_eq hg94.symm); have L98 := Aside0.mk (blk_lt hbox93); clear hb92 hbox93 hg94; refine normL (a' := ?_) ?hn ?_; (case hn => first | (simp only [Act.put, List.setIfInBounds_toArray, List.set_cons_zero, List.set_cons_succ]; rfl) | rfl)) | ((with_reducible refine gate_store (t := 50) (p := 5) rfl ?_); refine st_all ?hw ?hN rfl ?hp (cs := #[.bool t117, .int .u32 t118, .int .u32 t119, .slice Ao80 t120.length co81, .slice Ao84 t123.length co85]) ?hx (blk_fix2 B96.out ⟨G97.out, L98.out⟩ H95.out.fixes.hd) (by kernel_rfl) rfl (by simp [Value.oneCell']) ?_; (case hw => rfl); (case hN => rfl); (case hp => rfl); (case hx => rfl); intro w99 hbox100 hs101; have H102 : Aside0 (Hist w [(w99, w73.heap.size, w91.heap.size), (w73, w63.heap.size, w73.heap.size), (w63, w59.heap.size, w63.heap.size), (w59, w33.heap.size, w51.heap.size), (w33, w23.heap.size, w33.heap.size), (w23, w.heap.size, w23.heap.size)] w99) := ⟨Hist.mark' (w := w91) (b := w73.heap.size) (t := w91.heap.size) (l1 := []) (l2 := [(w73, w63.heap.size, w73.heap.size), (w63, w59.heap.size, w63.heap.size), (w59, w33.heap.size, w51.heap.size), (w33, w23.heap.size, w33.heap.size), (w23, w.heap.size, w23.heap.size)]) (by simp only [List.cons_append, List.nil_append]) (by simp only [List.cons_append, List.nil_append]) H95.out hs101 (fun k_ hk_ => by rw [hk_]; exact ⟨G97.out, L98.out⟩)⟩; have B96n := Aside0.mk hbox100; clear hs101 hbox100 H95 B96; have B96 := B96n; clear B96n) | ((with_reducible refine gate_dst (N := 20) rfl ?_); refine ld ?hw rfl ?hx (blk_fix2 B96.out ⟨G97.out, L98.out⟩ H102.out.fixes.hd) Try.underlying50 rfl (by kernel_rfl) ?_; (case hw => rfl); (case hx => rfl); refine normL (a' := ?_) ?hn ?_; (case hn => first | (simp only [Act.put, List.setIfInBounds_toArray, List.set_cons_zero, List.set_cons_succ]; rfl) | rfl)) | ((with_reducible refine gate_dst (N := 21) rfl ?_); refine ld ?hw rfl ?hx (blk_fix2 B56.out ⟨G57.out, L58.out⟩ H102.out.fixes.tl.tl.tl.hd) Try.underlying50 rfl (by kernel_rfl) ?_; (case hw => rfl); (case hx => rfl); refine normL (a' := ?_) ?hn ?_; (case hn => first | (simp only [Act.put, List.setIfInBounds_toArray, List.set_cons_zero, List.set_cons_succ]; rfl) | rfl)) | (((with_reducible refine gate_callee (f := 32) rfl ?_)); refine goesW (some 22) rfl ?hw Try.func32 (by kernel_rfl) rfl #[.agg #[.bool t117, .int .u32 t118, .int .u32 t119, .slice Ao80 t120.length co81, .slice Ao84 t123.length co85], .agg #[.bool t104, .int .u32 t105, .int .u32 t106, .slice Ao40 t107.length co41, .slice Ao44 t110.length co45]] rfl (by (try simp only [List.map_toArray, List.map_cons, List.map_nil]); first | done | rfl | (simp only [List.length_drop, List.length_take]; rfl)) ?_; (case hw => rfl); with_reducible refine (laws_eqSnapRes.calls k t117 t118 t119 _ _ t120 _ _ t123 t104 t105 t106 _ _ t107 _ _ t110 true _ ?side1 ?side2 ?side3 ?side4 ?side5 ?side6 ?side7 ?side8 A6.out).mono ?_; (case side1 => exact (Kd.R_reads' (R_fix F82.out H102.out.fixes.tl.hd)).2.2); (case side2 => exact R_capn (R_fix F82.out H102.out.fixes.tl.hd)); (case side3 => exact (Kd.R_reads' (R_fix F86.out H102.out.fixes.tl.hd)).2.2); (case side4 => exact R_capn (R_fix F86.out H102.out.fixes.tl.hd)); (case side5 => exact (Kd.R_reads' (R_fix F42.out H102.out.fixes.tl.tl.tl.tl.hd)).2.2); (case side6 => exact R_capn (R_fix F42.out H102.out.fixes.tl.tl.tl.tl.hd)); (case side7 => exact (Kd.R_reads' (R_fix F46.out H102.out.fixes.tl.tl.tl.tl.hd)).2.2); (case side8 => exact R_capn (R_fix F46.out H102.out.fixes.tl.tl.tl.tl.hd)); rintro e w103 ⟨rfl, hb104⟩; refine ⟨_, rfl, ?_⟩; have H105 := Aside0.mk (Hist.pass H102.out hb104); clear H102; clear hb104; refine normL (a' := ?_) ?hn ?_; (case hn => first | (simp only [Act.put, List.setIfInBounds_toArray, List.set_cons_zero, List.set_cons_succ]; rfl) | rfl)) | (((with_reducible refine gate_callee (f := 18) rfl ?_)); refine goesW (some 26) rfl ?hw Try.func18 (by kernel_rfl) rfl #[.slice A0 l0.length c0] rfl (by (try simp only [List.map_toArray, List.map_cons, List.map_nil]); first | done | rfl | (simp only [List.length_drop, List.length_take]; rfl)) ?_; (case hw => rfl); with_reducible refine (laws_toByteS.calls k _ _ l0 t128 _ ?side1 ?side2 A8.out).mono ?_; (case side1 => exact Kd.C_below HR0.out H105.out.below); (case side2 => exact HC0.out); rintro e w106 ⟨v107, rfl, ho108, hb109⟩; refine ⟨_, rfl, ?_⟩; have H110 := Aside0.mk (Hist.step H105.out hb109); clear H105; clear hb109; have F113 := Aside0.mk ho108; clear ho108; obtain ⟨Ao111, co112, eo115⟩ := Kd.R_slice F113.out; (first | subst eo115 | (injection eo115 with f1_ f2_ f3_; have f4_ := f1_.symm; have f5_ := f3_.symm; clear f1_ f2_ f3_; subst f4_; subst f5_)); refine normL (a' := ?_) ?hn ?_; (case hn => first | (simp only [Act.put, List.setIfInBounds_toArray, List.set_cons_zero, List.set_cons_succ]; rfl) | rfl)) | (((with_reducible refine gate_callee (f := 14) rfl ?_)); refine goesW (some 27) rfl ?hw Try.func14 (by kernel_rfl) rfl #[.slice Ao68 t114.length co69, .slice Ao111 t128.length co112] rfl (by (try simp only [List.map_toArray, List.map_cons, List.map_nil]); first | done | rfl | (simp only [List.length_drop, List.length_take]; rfl)) ?_; (case hw => rfl); with_reducible refine (laws_eqByteS.calls k _ _ t114 _ _ t128 true _ ?side1 ?side2 ?side3 ?side4 A9.out).mono ?_; (case side1 => exact (Kd.R_reads' (R_fix F70.out H110.out.fixes.tl.tl.tl.hd)).2.2); (case side2 => exact R_capn (R_fix F70.out H110.out.fixes.tl.tl.tl.hd)); (case side3 => exact (Kd.R_reads' (R_fix F113.out H110.out.fixes.hd)).2.2); (case side4 => exact R_capn (R_fix F113.out H110.out.fixes.hd)); rintro e w116 ⟨rfl, hd_⟩; have hb117 := hd_.below; clear hd_; refine ⟨_, rfl, ?_⟩; have H118 := Aside0.mk (Hist.pass H110.out hb117); clear H110; clear hb117; refine normL (a' := ?_) ?hn ?_; (case hn => first | (simp only [Act.put, List.setIfInBounds_toArray, List.set_cons_zero, List.set_cons_succ]; rfl) | rfl)) | (((with_reducible refine gate_callee (f := 15) rfl ?_)); refine goesW (some 31) rfl ?hw Try.func15 (by kernel_rfl) rfl #[.slice Ao68 t114.length co69, .int .i64 1] rfl (by (try simp only [List.map_toArray, List.map_cons, List.map_nil]); first | done | rfl | (simp only [List.length_drop, List.length_take]; rfl)) ?_; (case hw => rfl); with_reducible refine (markB (Fixes.at (w := w63) (b := w59.heap.size) (t := w63.heap.size) (l1 := [(w106, w103.heap.size, w106.heap.size), (w99, w73.heap.size, w91.heap.size), (w73, w63.heap.size, w73.heap.size)]) (l2 := [(w59, w33.heap.size, w51.heap.size), (w33, w23.heap.size, w33.heap.size), (w23, w.heap.size, w23.heap.size)]) (by simp only [List.cons_append, List.nil_append]) H118.out.fixes) (R_fix F70.out H118.out.fixes.tl.tl.tl.hd) A11.out).mono ?_; rintro e w119 ⟨rfl, hr121, hs120⟩; refine ⟨_, rfl, ?_⟩; have H122 : Aside0 (Hist w [(w106, w103.heap.size, w106.heap.size), (w99, w73.heap.size, w91.heap.size), (w73, w63.heap.size, w73.heap.size), (w119, w59.heap.size, w63.heap.size), (w59, w33.heap.size, w51.heap.size), (w33, w23.heap.size, w33.heap.size), (w23, w.heap.size, w23.heap.size)] w119) := ⟨Hist.mark' (w := w63) (b := w59.heap.size) (t := w63.heap.size) (l1 := [(w106, w103.heap.size, w106.heap.size), (w99, w73.heap.size, w91.heap.size), (w73, w63.heap.size, w73.heap.size)]) (l2 := [(w59, w33.heap.size, w51.heap.size), (w33, w23.heap.size, w33.heap.size), (w23, w.heap.size, w23.heap.size)]) (by simp only [List.cons_append, List.nil_append]) (by simp only [List.cons_append, List.nil_append]) H118.out hs120 (fun k_ hk_ => by first | exact hk_.2 | (rcases hk_ with hk_ <;> exact hk_.2))⟩; clear H118 hs120; have F123 := Aside0.mk hr121; have E124 := Aside0.mk (Kd.R_reads' hr121).1; clear hr121; refine normL (a' := ?_) ?hn ?_; (case hn => first | (simp only [Act.put, List.setIfInBounds_toArray, List.set_cons_zero, List.set_cons_succ]; rfl) | rfl)) | ((with_reducible refine gate_dst (N := 35) rfl ?_); refine ld ?hw rfl ?hx (blk_fix2 B96.out ⟨G97.out, L98.out⟩ H122.out.fixes.tl.hd) Try.underlying50 rfl (by kernel_rfl) ?_; (case hw => rfl); (case hx => rfl); refine normL (a' := ?_) ?hn ?_; (case hn => first | (simp only [Act.put, List.setIfInBounds_toArray, List.set_cons_zero, List.set_cons_succ]; rfl) | rfl)) | ((with_reducible refine gate_dst (N := 36) rfl ?_); refine ld ?hw rfl ?hx (blk_fix2 B56.out ⟨G57.out, L58.out⟩ H122.out.fixes.tl.tl.tl.tl.hd) Try.underlying50 rfl (by kernel_rfl) ?_; (case hw => rfl); (case hx => rfl); refine normL (a' := ?_) ?hn ?_; (case hn => first | (simp only [Act.put, List.setIfInBounds_toArray, List.set_cons_zero, List.set_cons_succ]; rfl) | rfl)) | (((with_reducible refine gate_callee (f := 32) rfl ?_)); refine goesW (some 37) rfl ?hw Try.func32 (by kernel_rfl) rfl #[.agg #[.bool t117, .int .u32 t118, .int .u32 t119, .slice Ao80 t120.length co81, .slice Ao84 t123.length co85], .agg #[.bool t104, .int .u32 t105, .int .u32 t106, .slice Ao40 t107.length co41, .slice Ao44 t110.length co45]] rfl (by (try simp only [List.map_toArray, List.map_cons, List.map_nil]); first | done | rfl | (simp only [List.length_drop, List.length_take]; rfl)) ?_; (case hw => rfl); with_reducible refine (laws_eqSnapRes.calls k t117 t118 t119 _ _ t120 _ _ t123 t104 t105 t106 _ _ t107 _ _ t110 true _ ?side1 ?side2 ?side3 ?side4 ?side5 ?side6 ?side7 ?side8 A13.out).mono ?_; (case side1 => exact (Kd.R_reads' (R_fix F82.out H122.out.fixes.tl.tl.hd)).2.2); (case side2 => exact R_capn (R_fix F82.out H122.out.fixes.tl.tl.hd)); (case side3 => exact (Kd.R_reads' (R_fix F86.out H122.out.fixes.tl.tl.hd)).2.2); (case side4 => exact R_capn (R_fix F86.out H122.out.fixes.tl.tl.hd)); (case side5 => exact (Kd.R_reads' (R_fix F42.out H122.out.fixes.tl.tl.tl.tl.tl.hd)).2.2); (case side6 => exact R_capn (R_fix F42.out H122.out.fixes.tl.tl.tl.tl.tl.hd)); (case side7 => exact (Kd.R_reads' (R_fix F46.out H122.out.fixes.tl.tl.tl.tl.tl.hd)).2.2); (case side8 => exact R_capn (R_fix F46.out H122.out.fixes.tl.tl.tl.tl.tl.hd)); rintro e w125 ⟨rfl, hb126⟩; refine ⟨_, rfl, ?_⟩; have H127 := Aside0.mk (Hist.pass H122.out hb126); clear H122; clear hb126; refine normL (a' := ?_) ?hn ?_; (case hn => first | (simp only [Act.put, List.setIfInBounds_toArray, List.set_cons_zero, List.set_cons_succ]; rfl) | rfl)) | ((with_reducible refine gate_dst (N := 40) rfl ?_); refine ld ?hw rfl ?hx (blk_fix2 B96.out ⟨G97.out, L98.out⟩ H127.out.fixes.tl.hd) Try.underlying50 rfl (by kernel_rfl) ?_; (case hw => rfl); (case hx => rfl); refine normL (a' := ?_) ?hn ?_; (case hn => first | (simp only [Act.put, List.setIfInBounds_toArray, List.set_cons_zero, List.set_cons_succ]; rfl) | rfl)) | (((with_reducible refine gate_callee (f := 33) rfl ?_)); refine goesW (some 42) rfl ?hw Try.func33 (by kernel_rfl) rfl #[.agg #[.bool t117, .int .u32 t118, .int .u32 t119, .slice Ao80 t120.length co81, .slice Ao84 t123.length co85], .int .i64 1] rfl (by (try simp only [List.map_toArray, List.map_cons, List.map_nil]); first | done | rfl | (simp only [List.length_drop, List.length_take]; rfl)) ?_; (case hw => rfl); with_reducible refine (mk_laws_markSnapRes (Fixes.at (w := w73) (b := w63.heap.size) (t := w73.heap.size) (l1 := [(w106, w103.heap.size, w106.heap.size), (w99, w73.heap.size, w91.heap.size)]) (l2 := [(w119, w59.heap.size, w63.heap.size), (w59, w33.heap.size, w51.heap.size), (w33, w23.heap.size, w33.heap.size), (w23, w.heap.size, w23.heap.size)]) (by simp only [List.cons_append, List.nil_append]) H127.out.fixes) (R_fix F82.out H127.out.fixes.tl.tl.hd) (R_fix F86.out H127.out.fixes.tl.tl.hd) (fun _ h_ => h_.1) A15.out).mono ?_; rintro e w128 ⟨rfl, hr130, hr131, hs129⟩; refine ⟨_, rfl, ?_⟩; have H132 : Aside0 (Hist w [(w106, w103.heap.size, w106.heap.size), (w99, w73.heap.size, w91.heap.size), (w128, w63.heap.size, w73.heap.size), (w119, w59.heap.size, w63.heap.size), (w59, w33.heap.size, w51.heap.size), (w33, w23.heap.size, w33.heap.size), (w23, w.heap.size, w23.heap.size)] w128) := ⟨Hist.mark' (w := w73) (b := w63.heap.size) (t := w73.heap.size) (l1 := [(w106, w103.heap.size, w106.heap.size), (w99, w73.heap.size, w91.heap.size)]) (l2 := [(w119, w59.heap.size, w63.heap.size), (w59, w33.heap.size, w51.heap.size), (w33, w23.heap.size, w33.heap.size), (w23, w.heap.size, w23.heap.size)]) (by simp only [List.cons_append, List.nil_append]) (by simp only [List.cons_append, List.nil_append]) H127.out hs129 (fun k_ hk_ => by first | exact hk_.2 | (rcases hk_ with hk_ | hk_ <;> exact hk_.2))⟩; clear H127 hs129; have F133 := Aside0.mk hr130; have E134 := Aside0.mk (Kd.R_reads' hr130).1; clear hr130; have F135 := Aside0.mk hr131; have E136 := Aside0.mk (Kd.R_reads' hr131).1; clear hr131; refine normL (a' := ?_) ?hn ?_; (case hn => first | (simp only [Act.put, List.setIfInBounds_toArray, List.set_cons_zero, List.set_cons_succ]; rfl) | rfl)) | ((with_reducible refine gate_dst (N := 43) rfl ?_); refine ld ?hw rfl ?hx (blk_fix2 B96.out ⟨G97.out, L98.out⟩ H132.out.fixes.tl.hd) Try.underlying50 rfl (by kernel_rfl) ?_; (case hw => rfl); (case hx => rfl); refine normL (a' := ?_) ?hn ?_; (case hn => first | (simp only [Act.put, List.setIfInBounds_toArray, List.set_cons_zero, List.set_cons_succ]; rfl) | rfl)) | (((with_reducible refine gate_callee (f := 34) rfl ?_)); refine goesW (some 45) rfl ?hw Try.func34 (by kernel_rfl) rfl #[.agg #[.bool t117, .int .u32 t118, .int .u32 t119, .slice Ao80 t136.length co81, .slice Ao84 t137.length co85], .int .i64 1] rfl (by (try simp only [List.map_toArray, List.map_cons, List.map_nil]); first | done | rfl | (rw [← E134.out, ← E136.out]; first | done | rfl) | (simp only [List.length_drop, List.length_take]; rfl)) ?_; (case hw => rfl); with_reducible refine (laws_heldSnapRes.calls k t117 t118 t119 _ _ t136 _ _ t137 1 t138 _ ?side1 ?side2 ?side3 ?side4 A16.out).mono ?_; (case side1 => exact (Kd.R_reads' (R_fix2 F133.out H132.out.fixes.tl.tl.hd)).2.2); (case side2 => exact R_capn (R_fix2 F133.out H132.out.fixes.tl.tl.hd)); (case side3 => exact (Kd.R_reads' (R_fix2 F135.out H132.out.fixes.tl.tl.hd)).2.2); (case side4 => exact R_capn (R_fix2 F135.out H132.out.fixes.tl.tl.hd)); rintro e w137 ⟨rfl, hb138⟩; refine ⟨_, rfl, ?_⟩; have H139 := Aside0.mk (Hist.pass H132.out hb138); clear H132; clear hb138; refine normL (a' := ?_) ?hn ?_; (case hn => first | (simp only [Act.put, List.setIfInBounds_toArray, List.set_cons_zero, List.set_cons_succ]; rfl) | rfl)) | (((with_reducible refine gate_callee (f := 18) rfl ?_)); refine goesW (some 52) rfl ?hw Try.func18 (by kernel_rfl) rfl #[.slice A0 l0.length c0] rfl (by (try simp only [List.map_toArray, List.map_cons, List.map_nil]); first | done | rfl | (simp only [List.length_drop, List.length_take]; rfl)) ?_; (case hw => rfl); with_reducible refine (laws_toByteS.calls k _ _ l0 t139 _ ?side1 ?side2 A19.out).mono ?_; (case side1 => exact Kd.C_below HR0.out H139.out.below); (case side2 => exact HC0.out); rintro e w140 ⟨v141, rfl, ho142, hb143⟩; refine ⟨_, rfl, ?_⟩; have H144 := Aside0.mk (Hist.step H139.out hb143); clear H139; clear hb143; have F147 := Aside0.mk ho142; clear ho142; obtain ⟨Ao145, co146, eo149⟩ := Kd.R_slice F147.out; (first | subst eo149 | (injection eo149 with f1_ f2_ f3_; have f4_ := f1_.symm; have f5_ := f3_.symm; clear f1_ f2_ f3_; subst f4_; subst f5_)); refine normL (a' := ?_) ?hn ?_; (case hn => first | (simp only [Act.put, List.setIfInBounds_toArray, List.set_cons_zero, List.set_cons_succ]; rfl) | rfl)) | (((with_reducible refine gate_callee (f := 31) rfl ?_)); refine goesW (some 53) rfl ?hw Try.func31 (by kernel_rfl) rfl #[.slice Ao145 t139.length co146] rfl (by (try simp only [List.map_toArray, List.map_cons, List.map_nil]); first | done | rfl | (simp only [List.length_drop, List.length_take]; rfl)) ?_; (case hw => rfl); with_reducible refine (impl_DecodeSnap.calls _ _ t139 t142 t143 t144 t145 t148 _ ?side1 ?side2 A20.out).mono ?_; (case side1 => exact (Kd.R_reads' (R_fix F147.out H144.out.fixes.hd)).2.2); (case side2 => exact R_capn (R_fix F147.out H144.out.fixes.hd)); rintro e w150 ⟨v151, v152, rfl, ho153, ho154, hb155⟩; refine ⟨_, rfl, ?_⟩; have H156 := Aside0.mk (Hist.step H144.out hb155); clear H144; clear hb155; have F159 := Aside0.mk ho153; clear ho153; have F163 := Aside0.mk ho154; clear ho154; obtain ⟨Ao157, co158, eo165⟩ := Kd.R_slice F159.out; (first | subst eo165 | (injection eo165 with f1_ f2_ f3_; have f4_ := f1_.symm; have f5_ := f3_.symm; clear f1_ f2_ f3_; subst f4_; subst f5_)); obtain ⟨Ao161, co162, eo166⟩ := Kd.R_slice F163.out; (first | subst eo166 | (injection eo166 with f1_ f2_ f3_; have f4_ := f1_.symm; have f5_ := f3_.symm; clear f1_ f2_ f3_; subst f4_; subst f5_)); refine normL (a' := ?_) ?hn ?_; (case hn => first | (simp only [Act.put, List.setIfInBounds_toArray, List.set_cons_zero, List.set_cons_succ]; rfl) | rfl)) | ((with_reducible refine gate_dst (N := 9) rfl ?_); refine mk ?hw (N := 9) ?hd (cs := #[.bool false, .int .u32 0, .int .u32 0, .slice none 0 0, .slice none 0 0]) (t := 50) ?hr ?_; (case hd => rfl); (case hw => rfl); (case hr => first | (go_simp; done) | (go_simp; rfl)); intro g167 hg171 w168 hbox170 hb169; have H172 := Aside0.mk (Hist.step H156.out hb169); clear H156; have B173 := Aside0.mk hbox170; have G174 := Aside0.mk (Nat.le_of_eq hg171.symm); have L175 := Aside0.mk (blk_lt hbox170); clear hb169 hbox170 hg171; refine normL (a' := ?_) ?hn ?_; (case hn => first | (simp only [Act.put, List.setIfInBounds_toArray, List.set_cons_zero, List.set_cons_succ]; rfl) | rfl)) | ((with_reducible refine gate_store (t := 50) (p := 9) rfl ?_); refine st_all ?hw ?hN rfl ?hp (cs := #[.bool t142, .int .u32 t143, .int .u32 t144, .slice Ao157 t145.length co158, .slice Ao161 t148.length co162]) ?hx (blk_fix2 B173.out ⟨G174.out, L175.out⟩ H172.out.fixes.hd) (by kernel_rfl) rfl (by simp [Value.oneCell']) ?_; (case hw => rfl); (case hN => rfl); (case hp => rfl); (case hx => rfl); intro w176 hbox177 hs178; have H179 : Aside0 (Hist w [(w176, w150.heap.size, w168.heap.size), (w150, w140.heap.size, w150.heap.size), (w140, w137.heap.size, w140.heap.size), (w106, w103.heap.size, w106.heap.size), (w99, w73.heap.size, w91.heap.size), (w128, w63.heap.size, w73.heap.size), (w119, w59.heap.size, w63.heap.size), (w59, w33.heap.size, w51.heap.size), (w33, w23.heap.size, w33.heap.size), (w23, w.heap.size, w23.heap.size)] w176) := ⟨Hist.mark' (w := w168) (b := w150.heap.size) (t := w168.heap.size) (l1 := []) (l2 := [(w150, w140.heap.size, w150.heap.size), (w140, w137.heap.size, w140.heap.size), (w106, w103.heap.size, w106.heap.size), (w99, w73.heap.size, w91.heap.size), (w128, w63.heap.size, w73.heap.size), (w119, w59.heap.size, w63.heap.size), (w59, w33.heap.size, w51.heap.size), (w33, w23.heap.size, w33.heap.size), (w23, w.heap.size, w23.heap.size)]) (by simp only [List.cons_append, List.nil_append]) (by simp only [List.cons_append, List.nil_append]) H172.out hs178 (fun k_ hk_ => by rw [hk_]; exact ⟨G174.out, L175.out⟩)⟩; have B173n := Aside0.mk hbox177; clear hs178 hbox177 H172 B173; have B173 := B173n; clear B173n) | ((with_reducible refine gate_dst (N := 54) rfl ?_); refine ld ?hw rfl ?hx (blk_fix2 B173.out ⟨G174.out, L175.out⟩ H179.out.fixes.hd) Try.underlying50 rfl (by kernel_rfl) ?_; (case hw => rfl); (case hx => rfl); refine normL (a' := ?_) ?hn ?_; (case hn => first | (simp only [Act.put, List.setIfInBounds_toArray, List.set_cons_zero, List.set_cons_succ]; rfl) | rfl)) | ((with_reducible refine gate_dst (N := 55) rfl ?_); refine ld ?hw rfl ?hx (blk_fix2 B56.out ⟨G57.out, L58.out⟩ H179.out.fixes.tl.tl.tl.tl.tl.tl.tl.hd) Try.underlying50 rfl (by kernel_rfl) ?_; (case hw => rfl); (case hx => rfl); refine normL (a' := ?_) ?hn ?_; (case hn => first | (simp only [Act.put, List.setIfInBounds_toArray, List.set_cons_zero, List.set_cons_succ]; rfl) | rfl)) | (((with_reducible refine gate_callee (f := 32) rfl ?_)); refine goesW (some 56) rfl ?hw Try.func32 (by kernel_rfl) rfl #[.agg #[.bool t142, .int .u32 t143, .int .u32 t144, .slice Ao157 t145.length co158, .slice Ao161 t148.length co162], .agg #[.bool t104, .int .u32 t105, .int .u32 t106, .slice Ao40 t107.length co41, .slice Ao44 t110.length co45]] rfl (by (try simp only [List.map_toArray, List.map_cons, List.map_nil]); first | done | rfl | (simp only [List.length_drop, List.length_take]; rfl)) ?_; (case hw => rfl); with_reducible refine (laws_eqSnapRes.calls k t142 t143 t144 _ _ t145 _ _ t148 t104 t105 t106 _ _ t107 _ _ t110 true _ ?side1 ?side2 ?side3 ?side4 ?side5 ?side6 ?side7 ?side8 A21.out).mono ?_; (case side1 => exact (Kd.R_reads' (R_fix F159.out H179.out.fixes.tl.hd)).2.2); (case side2 => exact R_capn (R_fix F159.out H179.out.fixes.tl.hd)); (case side3 => exact (Kd.R_reads' (R_fix F163.out H179.out.fixes.tl.hd)).2.2); (case side4 => exact R_capn (R_fix F163.out H179.out.fixes.tl.hd)); (case side5 => exact (Kd.R_reads' (R_fix F42.out H179.out.fixes.tl.tl.tl.tl.tl.tl.tl.tl.hd)).2.2); (case side6 => exact R_capn (R_fix F42.out H179.out.fixes.tl.tl.tl.tl.tl.tl.tl.tl.hd)); (case side7 => exact (Kd.R_reads' (R_fix F46.out H179.out.fixes.tl.tl.tl.tl.tl.tl.tl.tl.hd)).2.2); (case side8 => exact R_capn (R_fix F46.out H179.out.fixes.tl.tl.tl.tl.tl.tl.tl.tl.hd)); rintro e w180 ⟨rfl, hb181⟩; refine ⟨_, rfl, ?_⟩; have H182 := Aside0.mk (Hist.pass H179.out hb181); clear H179; clear hb181; refine normL (a' := ?_) ?hn ?_; (case hn => first | (simp only [Act.put, List.setIfInBounds_toArray, List.set_cons_zero, List.set_cons_succ]; rfl) | rfl)))
                  go_ret
                  exact ⟨rfl, by first | exact H182.out.below | exact Drawn0.refl _⟩
                · rw [if_neg c22] at H
                  exact absurd H (by simp)
              · rw [if_neg c18] at H
                exact absurd H (by simp)
          · rw [if_neg c14] at H
            exact absurd H (by simp)
      · rw [if_neg c10] at H
        exact absurd H (by simp)
    · rw [if_neg c7] at H
      exact absurd H (by simp)
end Go.Proofs.Ytgfadfahbhcllaa.Q
end
section
namespace Go.Proofs.Ytgfadfahbhcllaa.O
open Go.RowKit Go.Proofs.YtgfadfahbhcllaaW.PrintWords
def Opens {α : Type} (P : Program) (t : TypeId) (d : Kd α) (ok : α → Prop) : Prop :=
  ∀ (H : Type) (enc : TypeId × Value → H) (w : World) (fuel : Nat) (cs : List Value) (y : DataW H × List MemPlace),
    DataW.trod enc P w 0 (fun _ => true) true fuel t cs = some y → ∃ x, d.K w x cs ∧ ok x
section
variable {α β : Type} {P : Program} {t e : TypeId} {d : Kd α} {ok : α → Prop}
theorem opens_int {k : IntKind} (ht : P.underlying t = some (.int k)) : Opens P t (Kd.int k) (fun n => (Lit.int k n).wf = true) := by
  intro H enc w fuel cs y h
  obtain ⟨n, rfl, _, hw⟩ := DataW.trod_int ht h
  exact ⟨n, rfl, hw⟩
theorem list_of {p : Nat → α → Prop} : ∀ n, (∀ i, i < n → ∃ x, p i x) → ∃ xs : List α, xs.length = n ∧ ∀ i x, xs[i]? = some x → p i x
  | 0, _ => ⟨[], rfl, by simp⟩
  | n + 1, h => by
    obtain ⟨xs, hl, hp⟩ := list_of n (fun i hi => h i (by omega))
    obtain ⟨x, hx⟩ := h n (by omega)
    refine ⟨xs ++ [x], by simp [hl], fun i z hz => ?_⟩
    by_cases hi : i < n
    · rw [List.getElem?_append_left (by omega)] at hz
      exact hp i z hz
    · have : i < n + 1 := by
        have := (List.getElem?_eq_some_iff.1 hz).1
        simp [hl] at this
        exact this
      obtain rfl : i = n := by omega
      rw [List.getElem?_append_right (by omega)] at hz
      simp [hl] at hz
      exact hz ▸ hx
theorem opens_slice (ht : P.underlying t = some (.slice e)) (hc : P.cellsOf e = d.sz) (he : Opens P e d ok) :
    Opens P t (Kd.slice e d) (fun xs => xs.length ≤ 9223372036854775807 ∧ ∀ x ∈ xs, ok x) := by
  intro H enc w fuel cs y h
  rcases DataW.trod_slice ht h with ⟨rfl, _⟩ | ⟨a, len, cap, elems, rest, n, _, rfl, _, _, hl, hm, hlen, hel, _, _⟩
  · exact ⟨[], ⟨none, 0, rfl, Nat.le_refl _, Kd.C_nil d w⟩, by simp, by simp⟩
  · have each : ∀ i, i < len → ∃ x, ∃ c, w.cells? 0 (a.add (i * d.sz)) d.sz = some c ∧ d.K w x c ∧ ok x := by
      intro i hi
      have h1 := hel i hi
      rw [hc, List.getElem?_eq_getElem (by omega)] at h1
      obtain ⟨c, h2, h3⟩ := Option.bind_eq_some_iff.1 h1
      obtain ⟨x, hx, hok⟩ := he H enc w n c _ h3
      exact ⟨x, c, h2, hx, hok⟩
    obtain ⟨xs, hxl, hxs⟩ := list_of len each
    refine ⟨xs, ⟨some a, cap, by rw [hxl], by omega, ?_⟩, by unfold maxLen at hm; omega, fun x hx => ?_⟩
    · refine ⟨rfl, by unfold maxLen at hm; omega, fun _ => ⟨a, rfl, fun j p hp => ?_⟩⟩
      obtain ⟨c, h2, h3, _⟩ := hxs j p hp
      refine ⟨c, d.K_len h3, h3, fun i u hu => ?_⟩
      have hi : i < c.length := (List.getElem?_eq_some_iff.1 hu).1
      have h4 := World.cells?_some h2
      rw [d.K_len h3] at hi
      rw [← Addr.add_add, (h4.2.2 i hi), hu]
    · obtain ⟨i, hi⟩ := List.getElem?_of_mem hx
      obtain ⟨_, _, _, hok⟩ := hxs i x hi
      exact hok
end
end Go.Proofs.Ytgfadfahbhcllaa.O
end
section
namespace Go.Proofs.Ytgfadfahbhcllaa.Q
open Go.RowKit Go.Proofs.YtgfadfahbhcllaaW.PrintWords Go.Proofs.YtgfadfahbhcllaaW.PrintLast Go.Proofs.Ytgfadfahbhcllaa.O
def laws_FnExactDecodeSnap.Pure : Prop := ∀ (l0 : List Int) , (l0.length ≤ 9223372036854775807 ∧ ∀ z_ ∈ l0, (Lit.int .u8 z_).wf = true) → ∃ k, laws_FnExactDecodeSnap.f k l0 = some true
end Go.Proofs.Ytgfadfahbhcllaa.Q
end
section
namespace Go.Proofs.Ytgfadfahbhcllaa.P
open Go.RowKit Go.Proofs.YtgfadfahbhcllaaW.PrintWords Go.Proofs.YtgfadfahbhcllaaW.PrintMore Go.Proofs.Ytgfadfahbhcllaa.Q
set_option linter.unusedVariables false
set_option linter.unusedSimpArgs false
theorem snapHead_u8 (g n t : Int) (u xs : List Int) (hn : 0 ≤ n ∧ n ≤ 255) : U8s (snapHead g n t u xs) := by
  have hb : U8s (bitsL u) := by
    intro z hz
    unfold bitsL at hz
    obtain ⟨i, _, rfl⟩ := List.mem_map.1 hz
    exact bitB_range u _
  have hd1 : ∀ i j, U8s (denB xs i j) := by
    intro i j z hz
    unfold denB at hz
    split at hz
    · exact leB_u8 _ _ z hz
    · simp only [List.mem_cons, List.not_mem_nil, or_false] at hz
      omega
  have hd : ∀ i a, U8s (denL xs i a) := by
    intro i a z hz
    unfold denL at hz
    simp only [List.mem_append] at hz
    rcases hz with hz | hz | hz | hz | hz | hz | hz | hz <;> exact hd1 _ _ z hz
  intro z hz
  unfold snapHead at hz
  simp only [List.mem_append] at hz
  rcases hz with hz | hz | hz | hz | hz | hz | hz | hz | hz | hz | hz | hz
  · exact leB_u8 _ _ z hz
  · simp only [List.mem_cons, List.not_mem_nil, or_false] at hz; omega
  · simp only [List.mem_cons, List.not_mem_nil, or_false] at hz; omega
  · exact leB_u8 _ _ z hz
  · exact hb z hz
  · exact hd _ _ z hz
  · exact leB_u8 _ _ z hz
  · exact leB_u8 _ _ z hz
  · simp only [List.mem_cons, List.not_mem_nil, or_false] at hz; omega
  · simp only [List.mem_cons, List.not_mem_nil, or_false] at hz; omega
  · exact hd _ _ z hz
  · have := List.eq_of_mem_replicate hz; omega
theorem snapCode_u8 (g t : Int) (xs u : List Int) : U8s (snapCode g t xs u) := by
  intro z hz
  unfold snapCode at hz
  simp only [List.mem_append] at hz
  rcases hz with hz | hz | hz
  · exact snapHead_u8 _ _ _ _ _ (by omega) z hz
  · exact leB_u8 _ _ z hz
  · exact leB_u8 _ _ z hz
theorem encS_u8 (g t : Int) (xs u : List Int) : U8s (encS g t xs u) := by
  unfold encS
  split
  · exact snapCode_u8 _ _ _ _
  · exact fun z hz => by cases hz
theorem le2 {l : List Int} (h : U8s l) {i : Nat} (hi : i + 2 ≤ l.length) : le ((l.drop i).take 2) = rd l (i : Int) + 256 * rd l ((i + 1 : Nat) : Int) := by
  have e1 := rd_get (l := l) (i := i) (by omega)
  have e2 := rd_get (l := l) (i := i + 1) (by omega)
  have : (l.drop i).take 2 = [rd l (i : Int), rd l ((i + 1 : Nat) : Int)] := by
    refine List.ext_getElem? (fun j => ?_)
    rw [List.getElem?_take]
    match j with
    | 0 => rw [if_pos (by decide), List.getElem?_drop, Nat.add_zero, e1]; rfl
    | 1 => rw [if_pos (by decide), List.getElem?_drop, e2]; rfl
    | j + 2 => rw [if_neg (by omega)]; rfl
  rw [this]
  simp only [le]
  omega
section
variable {l : List Int}
theorem last_is (hu : U8s l) (hl : l.length = 128) (h16 : sCnt l ≤ 16) : ((strOfNums (encS (sGen l) (sTail l) (sDeny l (sCnt l).toNat) (sUsed l 256))).toList = (strOfNums l).toList) ↔ isSnap l = true := by
  unfold isSnap
  rw [decide_eq_true h16, Bool.true_and]
  constructor
  · intro he
    have e := str_inj (encS_u8 _ _ _ _) hu he
    unfold encS at e
    cases hg : goodSnap (sGen l) (sTail l) (sDeny l (sCnt l).toNat) (sUsed l 256) with
    | false =>
      rw [hg, if_neg (by decide)] at e
      rw [← e] at hl
      cases hl
    | true =>
      rw [hg, if_pos rfl] at e
      rw [decide_eq_true e]
      rfl
  · intro h
    rw [Bool.and_eq_true] at h
    unfold encS
    rw [if_pos h.1, of_decide_eq_true h.2]
theorem used_ev (hu : U8s l) (hl : l.length = 128) (h16 : sCnt l ≤ 16) : ∀ (m v : Nat), v + m = 256 → Ev (fun k => spec_DecodeSnap.l1 k l (v : Int) (sGen l) (sTail l) (sDeny l (sCnt l).toNat) (sUsed l v)) (decS l)
  | 0, v, hv => by
    obtain rfl : v = 256 := by omega
    have hg := sGen_range hu hl
    have ht := sTail_range hu hl
    have hz : snapSz (sGen l) (sTail l) (sDeny l (sCnt l).toNat) (sUsed l 256) := ⟨hg, ht, by rw [sDeny_length]; omega, Nat.le_trans (sUsed_length l 256) (by decide)⟩
    have hi := last_is hu hl h16
    unfold decS
    by_cases hs : isSnap l = true
    · rw [if_pos ⟨hl, hs⟩]
      refine Ev.last ⟨0, fun k _ => ?_⟩
      simp only [spec_DecodeSnap.l1]
      rw [if_neg (by omega), show spec_EncodeSnap.f k (sGen l) (sTail l) (sDeny l (sCnt l).toNat) (sUsed l 256) = some (encS (sGen l) (sTail l) (sDeny l (sCnt l).toNat) (sUsed l 256)) from if_pos hz, Option.bind_some, if_pos (hi.2 hs)]
    · rw [if_neg (fun h => hs h.2)]
      refine Ev.last ⟨0, fun k _ => ?_⟩
      simp only [spec_DecodeSnap.l1]
      rw [if_neg (by omega), show spec_EncodeSnap.f k (sGen l) (sTail l) (sDeny l (sCnt l).toNat) (sUsed l 256) = some (encS (sGen l) (sTail l) (sDeny l (sCnt l).toNat) (sUsed l 256)) from if_pos hz, Option.bind_some, if_neg (fun h => hs (hi.1 h))]
  | m + 1, v, hv => by
    have ih := used_ev hu hl h16 m (v + 1) (by omega)
    have w1 : wrap64 (Int.tdiv (v : Int) 8) = (v : Int) / 8 := by rw [Int.tdiv_eq_ediv_of_nonneg (by omega)]; exact w64 (by omega) (by omega)
    have w2 : wrap64 (12 + (v : Int) / 8) = ((12 + v / 8 : Nat) : Int) := by rw [w64 (by omega) (by omega)]; omega
    have w3 : IntKind.u64.wrap (Int.tmod (v : Int) 8) = ((v % 8 : Nat) : Int) := by rw [Int.tmod_eq_emod_of_nonneg (by omega), IntKind.wrap_u64]; omega
    have w4 : wrap64 ((v : Int) + 1) = ((v + 1 : Nat) : Int) := by rw [w64 (by omega) (by omega)]; rfl
    have hr := rd_get (l := l) (i := 12 + v / 8) (by omega)
    have hb8 := hu.at_ hr
    have hsh : shr .u8 (rd l ((12 + v / 8 : Nat) : Int)) ((v % 8 : Nat) : Int) = rd l ((12 + v / 8 : Nat) : Int) / 2 ^ (v % 8) := by
      have hh := shr_small (k := .u8) (x := rd l ((12 + v / 8 : Nat) : Int)) (y := ((v % 8 : Nat) : Int)) (j := shr .u8 (rd l ((12 + v / 8 : Nat) : Int)) ((v % 8 : Nat) : Int)) rfl (by show ((v % 8 : Nat) : Int) ≤ 8; omega)
      rw [← hh, Int.toNat_natCast]
    have hn : 0 ≤ rd l ((12 + v / 8 : Nat) : Int) / 2 ^ (v % 8) := Int.ediv_nonneg hb8.1 (Int.le_of_lt (Int.pow_pos (by decide)))
    have W1 := Aside0.mk w1
    have W2 := Aside0.mk w2
    have W3 := Aside0.mk w3
    have W4 := Aside0.mk w4
    have HSh := Aside0.mk hsh
    clear w1 w2 w3 w4 hsh
    refine Ev.step (g := fun k => spec_DecodeSnap.l1 k l ((v + 1 : Nat) : Int) (sGen l) (sTail l) (sDeny l (sCnt l).toNat) (sUsed l (v + 1))) ⟨0, fun k _ => ?_⟩ ih
    simp only [spec_DecodeSnap.l1]
    rw [if_pos (by omega), W1.out, W2.out, W3.out, W4.out, if_pos (by omega), if_pos (by omega), if_pos (by omega), HSh.out, Int.tmod_eq_emod_of_nonneg hn]
    cases hbo : bitOf l v with
    | true =>
      rw [if_pos (of_decide_eq_true hbo), if_pos (by have := sUsed_length l v; omega), sUsed_on hbo]
    | false =>
      rw [if_neg (of_decide_eq_false hbo), sUsed_off hbo]
theorem deny_ev (hu : U8s l) (hl : l.length = 128) (h16 : sCnt l ≤ 16) : ∀ (m i : Nat), (i : Int) + m = sCnt l → Ev (fun k => spec_DecodeSnap.l0 k l (i : Int) (sGen l) (sTail l) (sDeny l i)) (decS l)
  | 0, i, hi => by
    have e6 : rd l 6 = sCnt l := rd_at (i := 6) (sCnt_at hl)
    have hc := hu.at_ (sCnt_at hl)
    have ht := used_ev hu hl h16 256 0 rfl
    rw [show (sCnt l).toNat = i from by omega] at ht
    refine Ev.step (g := fun k => spec_DecodeSnap.l1 k l ((0 : Nat) : Int) (sGen l) (sTail l) (sDeny l i) (sUsed l 0)) ⟨0, fun k _ => ?_⟩ ht
    simp only [spec_DecodeSnap.l0]
    rw [if_pos (by omega), e6, w64 (n := sCnt l) (by omega) (by omega), if_neg (by omega)]
    rfl
  | m + 1, i, hi => by
    have e6 : rd l 6 = sCnt l := rd_at (i := 6) (sCnt_at hl)
    have hc := hu.at_ (sCnt_at hl)
    have ih := deny_ev hu hl h16 m (i + 1) (by omega)
    have hi16 : i < 16 := by omega
    have hf := denAt_fit hi16
    have r1 := hu.at_ (rd_get (l := l) (i := denAt i) (by omega))
    have r2 := hu.at_ (rd_get (l := l) (i := denAt i + 1) (by omega))
    have hd : sDen1 l i = rd l ((denAt i : Nat) : Int) + 256 * rd l ((denAt i + 1 : Nat) : Int) := le2 hu (by omega)
    have w4 : wrap64 ((i : Int) + 1) = ((i + 1 : Nat) : Int) := by rw [w64 (by omega) (by omega)]; rfl
    have hv : wrap64 (wrap64 (rd l ((denAt i : Nat) : Int)) + wrap64 (256 * wrap64 (rd l ((denAt i + 1 : Nat) : Int)))) = sDen1 l i := by
      rw [w64 (n := rd l ((denAt i : Nat) : Int)) (by omega) (by omega), w64 (n := rd l ((denAt i + 1 : Nat) : Int)) (by omega) (by omega), w64 (n := 256 * rd l ((denAt i + 1 : Nat) : Int)) (by omega) (by omega), w64 (by omega) (by omega), hd]
    have hsl := sDeny_length l i
    have HV := Aside0.mk hv
    have W4 := Aside0.mk w4
    clear hv w4 hd
    refine Ev.step (g := fun k => spec_DecodeSnap.l0 k l ((i + 1 : Nat) : Int) (sGen l) (sTail l) (sDeny l (i + 1))) ⟨0, fun k _ => ?_⟩ ih
    simp only [spec_DecodeSnap.l0]
    rw [if_pos (by omega), e6, w64 (n := sCnt l) (by omega) (by omega), if_pos (by omega)]
    by_cases h8 : i < 8
    · have ea : wrap64 (44 + wrap64 (2 * (i : Int))) = ((denAt i : Nat) : Int) := by
        rw [w64 (n := 2 * (i : Int)) (by omega) (by omega), w64 (by omega) (by omega)]; unfold denAt; rw [if_pos h8]; omega
      have EA := Aside0.mk ea
      clear ea
      have eb : wrap64 (((denAt i : Nat) : Int) + 1) = ((denAt i + 1 : Nat) : Int) := by rw [w64 (n := ((denAt i : Nat) : Int) + 1) (by omega) (by omega)]; omega
      have EB := Aside0.mk eb
      clear eb
      rw [if_neg (by omega), EA.out, EB.out, if_pos (by omega), if_pos (by omega), if_pos (by omega), if_pos (by omega), if_pos (by omega), W4.out, HV.out, sDeny_succ]
    · have ea : wrap64 (72 + wrap64 (2 * wrap64 ((i : Int) - 8))) = ((denAt i : Nat) : Int) := by
        rw [w64 (n := (i : Int) - 8) (by omega) (by omega), w64 (n := 2 * ((i : Int) - 8)) (by omega) (by omega), w64 (by omega) (by omega)]; unfold denAt; rw [if_neg h8]; omega
      have EA := Aside0.mk ea
      clear ea
      have eb : wrap64 (((denAt i : Nat) : Int) + 1) = ((denAt i + 1 : Nat) : Int) := by rw [w64 (n := ((denAt i : Nat) : Int) + 1) (by omega) (by omega)]; omega
      have EB := Aside0.mk eb
      clear eb
      rw [if_pos (by omega), EA.out, EB.out, if_pos (by omega), if_pos (by omega), if_pos (by omega), if_pos (by omega), if_pos (by omega), W4.out, HV.out, sDeny_succ]
theorem decS_no (h : ¬ (l.length = 128 ∧ isSnap l = true)) : decS l = (false, 0, 0, [], []) := if_neg h
theorem spec_decS (hu : U8s l) (hm : l.length ≤ 4611686018427387904) : Ev (fun k => spec_DecodeSnap.f k l) (decS l) := by
  have no : decS l = (false, 0, 0, [], []) → Ev (fun k => spec_DecodeSnap.j0 k l true) (decS l) := fun h => by
    rw [h]
    refine Ev.last ⟨0, fun k _ => ?_⟩
    simp only [spec_DecodeSnap.j0]
    rw [if_pos trivial]
  simp only [spec_DecodeSnap.f]
  by_cases hl : l.length = 128
  case neg => exact Ev.neg (by omega) (no (decS_no (fun h => hl h.1)))
  refine Ev.pos (by omega) (Ev.pos (by omega) ?_)
  have e6 : rd l 6 = sCnt l := rd_at (i := 6) (sCnt_at hl)
  have hc := hu.at_ (sCnt_at hl)
  rw [e6, w64 (n := sCnt l) (by omega) (by omega)]
  by_cases h16 : sCnt l ≤ 16
  case neg =>
    rw [decide_eq_true (by omega)]
    exact no (decS_no (fun h => by have h2 := h.2; unfold isSnap at h2; rw [decide_eq_false h16] at h2; cases h2))
  rw [decide_eq_false (by omega)]
  have hd := deny_ev hu hl h16 (sCnt l).toNat 0 (by omega)
  have g0 := spec_get l 0 hu (by decide) (by omega) hm
  have g8 := spec_get l 8 hu (by decide) (by omega) hm
  refine Ev.step (g := fun k => spec_DecodeSnap.l0 k l ((0 : Nat) : Int) (sGen l) (sTail l) (sDeny l 0)) ⟨0, fun k _ => ?_⟩ hd
  simp only [spec_DecodeSnap.j0]
  rw [if_neg (by decide), g0, Option.bind_some, g8, Option.bind_some]
  rfl
end
end Go.Proofs.Ytgfadfahbhcllaa.P
end
section
namespace Go.Proofs.Ytgfadfahbhcllaa.Q
open Go.RowKit Go.Proofs.YtgfadfahbhcllaaW.PrintWords Go.Proofs.YtgfadfahbhcllaaW.PrintLast Go.Proofs.Ytgfadfahbhcllaa.LK Go.Proofs.YtgfadfahbhcllaaW.PrintMore
attribute [local go_sem] max2_int min2_int max_two min_two max_three min_three max_four min_four
set_option linter.unusedVariables false
set_option linter.unusedSimpArgs false
end Go.Proofs.Ytgfadfahbhcllaa.Q
end
section
namespace Go.Proofs.Ytgfadfahbhcllaa.Q
open Go.RowKit Go.Proofs.YtgfadfahbhcllaaW.PrintWords Go.Proofs.YtgfadfahbhcllaaW.PrintLast Go.Proofs.Ytgfadfahbhcllaa.LK Go.Proofs.YtgfadfahbhcllaaW.PrintMore
attribute [local go_sem] max2_int min2_int max_two min_two max_three min_three max_four min_four
set_option linter.unusedVariables false
set_option linter.unusedSimpArgs false
end Go.Proofs.Ytgfadfahbhcllaa.Q
end
section
namespace Go.Proofs.Ytgfadfahbhcllaa.P
open Go.RowKit Go.Proofs.YtgfadfahbhcllaaW.PrintWords Go.Proofs.Ytgfadfahbhcllaa.Q
set_option linter.unusedVariables false
set_option linter.unusedSimpArgs false
theorem eqInt64S_ev (l : List Int) (h : l.length ≤ 4611686018427387904) : Ev (fun k => laws_eqInt64S.f k l l) true := by
  refine Ev.congr (fun k => ?_) (each_ends (fun k i => laws_eqInt64S.l0 k l l i) l.length true ?_ ?_)
  · simp only [laws_eqInt64S.f]
    rw [if_pos trivial]
  · intro i hi
    refine ⟨0, fun k _ => ?_⟩
    simp only [laws_eqInt64S.l0]
    rw [if_pos (by omega), if_pos (by omega), if_pos (by omega), if_pos trivial, w64s hi (by omega)]
  · intro k
    simp only [laws_eqInt64S.l0]
    rw [if_neg (by omega)]
def mkInt64S (m : Int) (n : Nat) : List Int := ups (fun c => c) m n
theorem mkInt64S_length (m : Int) (n : Nat) : (mkInt64S m n).length = n := ups_length _ _ _
theorem mkInt64S_at (m : Int) {n i : Nat} (h : i < n) : (mkInt64S m n)[i]? = some ((fun c => c) (m + i)) := ups_at _ m h
theorem markInt64S_ev (l : List Int) (m : Int) (h0 : 0 ≤ m) (hm : m + l.length ≤ 4611686018427387904) : Ev (fun k => laws_markInt64S.f k l m) (m + l.length, mkInt64S m l.length) := by
  refine mark_ends (fun k y c i => laws_markInt64S.l0 k y c i) (fun c => c) l m h0 hm ?_ ?_
  · intro k i y c hi hy
    simp only [laws_markInt64S.l0]
    rw [if_pos (by omega), if_pos (by omega)]
    rfl
  · intro k y c hy
    simp only [laws_markInt64S.l0]
    rw [if_neg (by omega)]
theorem heldInt64S_ev (n : Nat) (m : Int) (h0 : 0 ≤ m) (hm : m + n ≤ 4611686018427387904) : Ev (fun k => laws_heldInt64S.f k (mkInt64S m n) m) (m + n) := by
  refine held_ends (fun k c i => laws_heldInt64S.l0 k (mkInt64S m n) c i) n m h0 hm ?_ ?_
  · intro k i hi
    simp only [laws_heldInt64S.l0, mkInt64S_length]
    rw [if_pos (by omega), if_pos (by omega), rd_at (mkInt64S_at m hi), if_pos rfl]
  · intro k
    simp only [laws_heldInt64S.l0, mkInt64S_length]
    rw [if_neg (by omega)]
end Go.Proofs.Ytgfadfahbhcllaa.P
end
section
namespace Go.Proofs.Ytgfadfahbhcllaa.Q
open Go.RowKit Go.Proofs.YtgfadfahbhcllaaW.PrintWords Go.Proofs.YtgfadfahbhcllaaW.PrintLast Go.Proofs.Ytgfadfahbhcllaa.LK Go.Proofs.YtgfadfahbhcllaaW.PrintMore
attribute [local go_sem] max2_int min2_int max_two min_two max_three min_three max_four min_four
set_option linter.unusedVariables false
set_option linter.unusedSimpArgs false
end Go.Proofs.Ytgfadfahbhcllaa.Q
end
section
namespace Go.Proofs.Ytgfadfahbhcllaa.Q
open Go.RowKit Go.Proofs.YtgfadfahbhcllaaW.PrintWords Go.Proofs.YtgfadfahbhcllaaW.PrintLast Go.Proofs.Ytgfadfahbhcllaa.LK Go.Proofs.YtgfadfahbhcllaaW.PrintMore
attribute [local go_sem] max2_int min2_int max_two min_two max_three min_three max_four min_four
set_option linter.unusedVariables false
set_option linter.unusedSimpArgs false
end Go.Proofs.Ytgfadfahbhcllaa.Q
end
section
namespace Go.Proofs.Ytgfadfahbhcllaa.P
open Go.RowKit Go.Proofs.YtgfadfahbhcllaaW.PrintWords Go.Proofs.Ytgfadfahbhcllaa.Q
set_option linter.unusedVariables false
set_option linter.unusedSimpArgs false
theorem eqSnap_ev (g t : Int) (xs u : List Int) (hx : xs.length ≤ 35184372088832) (hu : u.length ≤ 35184372088832) : Ev (fun k => laws_eqSnap.f k g t xs u g t xs u) true := by
  simp only [laws_eqSnap.f]
  exact Ev.pos trivial (Ev.pos trivial (Ev.bind (eqInt64S_ev xs (by omega)) (Ev.pos rfl (Ev.bind (eqInt64S_ev u (by omega)) (Ev.pos rfl (Ev.const rfl))))))
theorem markSnap_ev (g t : Int) (xs u : List Int) (m : Int) (h0 : 0 ≤ m) (hx : m + xs.length + u.length ≤ 4611686018427387904) : Ev (fun k => laws_markSnap.f k g t xs u m) (m + xs.length + u.length, mkInt64S m xs.length, mkInt64S (m + xs.length) u.length) := by
  simp only [laws_markSnap.f]
  exact Ev.bind (markInt64S_ev xs m h0 (by omega)) (Ev.bind (markInt64S_ev u (m + xs.length) (by omega) hx) (Ev.const rfl))
end Go.Proofs.Ytgfadfahbhcllaa.P
end
section
namespace Go.Proofs.Ytgfadfahbhcllaa.Q
open Go.RowKit Go.Proofs.YtgfadfahbhcllaaW.PrintWords Go.Proofs.YtgfadfahbhcllaaW.PrintLast Go.Proofs.Ytgfadfahbhcllaa.LK Go.Proofs.YtgfadfahbhcllaaW.PrintMore
attribute [local go_sem] max2_int min2_int max_two min_two max_three min_three max_four min_four
set_option linter.unusedVariables false
set_option linter.unusedSimpArgs false
end Go.Proofs.Ytgfadfahbhcllaa.Q
end
section
namespace Go.Proofs.Ytgfadfahbhcllaa.P
open Go.RowKit Go.Proofs.YtgfadfahbhcllaaW.PrintWords Go.Proofs.Ytgfadfahbhcllaa.Q
set_option linter.unusedVariables false
set_option linter.unusedSimpArgs false
theorem toByteS_ev (l : List Int) (h : l.length ≤ 281474976710656) : Ev (fun k => laws_toByteS.f k l) l := by
  have h1 := copy_ends (fun k y i => laws_toByteS.l0 k l y i) id l (List.replicate ((l.length : Int)).toNat 0) (by simp) ?_ ?_
  · rw [List.map_id] at h1
    refine Ev.congr (fun k => ?_) h1
    simp only [laws_toByteS.f]
    rw [if_pos (by omega), if_pos (by omega)]
  · intro i a y ha hi hy
    refine ⟨0, fun k _ => ?_⟩
    simp only [laws_toByteS.l0]
    rw [if_pos (by omega), if_pos (by omega), if_pos (by omega), w64s hi (by omega), rd_at ha]
    rfl
  · intro k y hy
    simp only [laws_toByteS.l0]
    rw [if_neg (by omega)]
theorem eqByteS_ev (l : List Int) (h : l.length ≤ 4611686018427387904) : Ev (fun k => laws_eqByteS.f k l l) true := by
  refine Ev.congr (fun k => ?_) (each_ends (fun k i => laws_eqByteS.l0 k l l i) l.length true ?_ ?_)
  · simp only [laws_eqByteS.f]
    rw [if_pos trivial]
  · intro i hi
    refine ⟨0, fun k _ => ?_⟩
    simp only [laws_eqByteS.l0]
    rw [if_pos (by omega), if_pos (by omega), if_pos (by omega), if_pos trivial, w64s hi (by omega)]
  · intro k
    simp only [laws_eqByteS.l0]
    rw [if_neg (by omega)]
def mkByteS (m : Int) (n : Nat) : List Int := ups (fun c => c % 256) m n
theorem markByteS_ev (l : List Int) (m : Int) (h0 : 0 ≤ m) (hm : m + l.length ≤ 4611686018427387904) : Ev (fun k => laws_markByteS.f k l m) (m + l.length, mkByteS m l.length) := by
  refine mark_ends (fun k y c i => laws_markByteS.l0 k y c i) (fun c => c % 256) l m h0 hm ?_ ?_
  · intro k i y c hi hy
    simp only [laws_markByteS.l0]
    rw [if_pos (by omega), if_pos (by omega)]
    rfl
  · intro k y c hy
    simp only [laws_markByteS.l0]
    rw [if_neg (by omega)]
end Go.Proofs.Ytgfadfahbhcllaa.P
end
