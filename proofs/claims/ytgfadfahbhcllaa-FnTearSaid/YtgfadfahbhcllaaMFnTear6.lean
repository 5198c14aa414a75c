/- Part 6 of 6 of the proof that the law FnTear returns true at every input. No further condition. -/
import Derived.Test.YtgfadfahbhcllaaWWords
import Derived.ChangeArms
import Derived.DataReads
import Derived.Test.YtgfadfahbhcllaaRows
import Derived.WalkKit
import Derived.ProofKit
import Derived.OpenShut
import Derived.ShutString
import Derived.ChangeOld
import Derived.Below
import Derived.SizedLaws
import Derived.Test.YtgfadfahbhcllaaMFnTear5
namespace Go.Proofs.Ytgfadfahbhcllaa.Q
open Go.RowKit Go.Proofs.YtgfadfahbhcllaaW.PrintWords Go.Proofs.YtgfadfahbhcllaaW.PrintLast Go.Proofs.YtgfadfahbhcllaaW.PrintMore Go.Proofs.Ytgfadfahbhcllaa.LK
set_option linter.unusedVariables false
set_option linter.unusedSimpArgs false
attribute [local go_sem high] eqA27 eqA33
theorem lw_calls {A0 A1 : Option Addr} {c0 c1 : Nat} {l : List Int} {w : World} (h0 : Kd.C (Kd.int .u8) w A0 l.length l) (k0 : l.length ≤ c0) (h1 : Kd.C (Kd.int .u8) w A1 l.length l) (k1 : l.length ≤ c1) :
    Calls Try.prog 22 #[.slice A0 l.length c0, .slice A1 l.length c1] w fun e w' => e = .returned (.bool true) ∧ Below w.heap.size w w' := by
  refine (laws_lwBytes.calls A0 c0 l A1 c1 l true w h0 k0 h1 k1 (by simp [laws_lwBytes.f])).mono ?_
  rintro e w' ⟨rfl, hd⟩
  exact ⟨rfl, hd.below⟩
set_option maxHeartbeats 8000000 in
set_option maxRecDepth 100000 in
theorem tear_raw {A0 : Option Addr} {c0 : Nat} {l0 : List Int} {A1 : Option Addr} {c1 : Nat} {l1 : List Int} {w : World} (hr0 : Kd.C (Kd.int .u8) w A0 l0.length l0) (hc0 : l0.length ≤ c0) (hr1 : Kd.C (Kd.int .u8) w A1 l1.length l1) (hc1 : l1.length ≤ c1)
    {kf kg : Nat} {q1 k1 a1 b1 q2 k2 a2 b2 : Int} (hz0 : ¬ (l0.length : Int) > 1048576) (hz1 : ¬ (l1.length : Int) > 1048576) (hf : spec_DrawEncodeFrame.f kf l0 = some (q1, k1, a1, b1)) (hg : spec_DrawEncodeFrame.f kg l1 = some (q2, k2, a2, b2))
    {x y : List Int} (hix : impl_EncodeFrame.f q1 k1 a1 b1 = some x) (hiy : impl_EncodeFrame.f q2 k2 a2 b2 = some y) (hsx : spec_EncodeFrame.f q1 k1 a1 b1 = some x) (hsy : spec_EncodeFrame.f q2 k2 a2 b2 = some y) (hux : P.U8s x) (huy : P.U8s y)
    (hall : x.length = 64 → y.length = 64 → q1 ≠ q2 → ∀ i : Nat, i ≤ 64 → (i = 64 → P.decF (x.take i ++ y.drop i) = (true, q1, k1, a1, b1)) ∧ (i = 0 → P.decF (x.take i ++ y.drop i) = (true, q2, k2, a2, b2)) ∧
      (P.decF (x.take i ++ y.drop i) = (true, q1, k1, a1, b1) ∨ P.decF (x.take i ++ y.drop i) = (true, q2, k2, a2, b2) ∨ P.decF (x.take i ++ y.drop i) = (false, 0, 0, 0, 0))) :
    Calls Try.prog 5 #[.slice A0 l0.length c0, .slice A1 l1.length c1] w fun e w' => e = .returned (.bool true) ∧ Below w.heap.size w w' := by
  have hu27 := Try.underlying27
  have hu33 := Try.underlying33
  have z0b : decide (1048576 < (l0.length : Int)) = false := decide_eq_false (by omega)
  have z1b : decide (1048576 < (l1.length : Int)) = false := decide_eq_false (by omega)
  have HR0 := Aside0.mk hr0
  have HC0 := Aside0.mk hc0
  have HR1 := Aside0.mk hr1
  have HC1 := Aside0.mk hc1
  have EF := Aside0.mk hf
  have EG := Aside0.mk hg
  have IX := Aside0.mk hix
  have IY := Aside0.mk hiy
  have SX := Aside0.mk hsx
  have SY := Aside0.mk hsy
  have UX := Aside0.mk hux
  have UY := Aside0.mk huy
  have HAll := Aside0.mk hall
  have H0 := Aside0.mk (Bx.refl w)
  clear hr0 hc0 hr1 hc1 hf hg hix hiy hsx hsy hux huy hall hz0 hz1
  go_enter Try.func5, Try.ntmps5
  go_wp2_with (first | ((with_reducible refine gate_callee (f := 21) rfl ?_); refine Aside0.out ?_))
  refine Aside0.mk ?_
  refine goesW (some 20) rfl ?hw1 Try.func21 (by kernel_rfl) rfl #[.slice A0 l0.length c0] rfl (by (try simp only [List.map_toArray, List.map_cons, List.map_nil]); first | done | rfl) ?_
  case hw1 => rfl
  refine (spec_DrawEncodeFrame.calls kf _ _ l0 q1 k1 a1 b1 _ (Kd.C_below HR0.out H0.out.below) HC0.out EF.out).mono ?_
  rintro e w101 ⟨rfl, hb_⟩
  refine ⟨_, rfl, ?_⟩
  have H102 := Aside0.mk (H0.out.step hb_)
  clear hb_ H0
  go_wp2_with (first | ((with_reducible refine gate_dst (N := 5) rfl ?_); refine Aside0.out ?_))
  refine Aside0.mk ?_
  refine mk ?hw3 (N := 5) ?hd3 (cs := #[.int .u32 0, .int .i64 0, .int .u32 0, .int .u32 0]) (t := 27) ?hr3 ?_
  case hd3 => rfl
  case hw3 => rfl
  case hr3 => first | (go_simp; done) | (go_simp; rfl)
  intro g5 hg5_ w103 hb3 hB3
  have H104 := Aside0.mk (H102.out.new hg5_ hb3 hB3)
  clear hg5_ hb3 hB3 H102
  go_wp2_with (first | ((with_reducible refine gate_store (t := 27) (p := 5) rfl ?_); refine Aside0.out ?_))
  refine Aside0.mk ?_
  refine st_all ?hw5 ?hN5 rfl ?hp5 (cs := #[.int .u32 q1, .int .i64 k1, .int .u32 a1, .int .u32 b1]) ?hx5 H104.out.gt0 (by kernel_rfl) (rfl) (by simp [Value.oneCell']) ?_
  case hw5 => rfl
  case hN5 => rfl
  case hp5 => rfl
  case hx5 => rfl
  intro w105 hb5 hS5
  have H106 := Aside0.mk (H104.out.wr0 (cs' := #[.int .u32 q1, .int .i64 k1, .int .u32 a1, .int .u32 b1]) hb5 hS5)
  clear hb5 hS5 H104
  go_wp2_with (first | ((with_reducible refine gate_callee (f := 21) rfl ?_); refine Aside0.out ?_))
  refine Aside0.mk ?_
  refine goesW (some 22) rfl ?hw7 Try.func21 (by kernel_rfl) rfl #[.slice A1 l1.length c1] rfl (by (try simp only [List.map_toArray, List.map_cons, List.map_nil]); first | done | rfl) ?_
  case hw7 => rfl
  refine (spec_DrawEncodeFrame.calls kg _ _ l1 q2 k2 a2 b2 _ (Kd.C_below HR1.out H106.out.below) HC1.out EG.out).mono ?_
  rintro e w107 ⟨rfl, hb_⟩
  refine ⟨_, rfl, ?_⟩
  have H108 := Aside0.mk (H106.out.step hb_)
  clear hb_ H106
  go_wp2_with (first | ((with_reducible refine gate_dst (N := 6) rfl ?_); refine Aside0.out ?_))
  refine Aside0.mk ?_
  refine mk ?hw9 (N := 6) ?hd9 (cs := #[.int .u32 0, .int .i64 0, .int .u32 0, .int .u32 0]) (t := 27) ?hr9 ?_
  case hd9 => rfl
  case hw9 => rfl
  case hr9 => first | (go_simp; done) | (go_simp; rfl)
  intro g6 hg6_ w109 hb9 hB9
  have H110 := Aside0.mk (H108.out.new hg6_ hb9 hB9)
  clear hg6_ hb9 hB9 H108
  go_wp2_with (first | ((with_reducible refine gate_store (t := 27) (p := 6) rfl ?_); refine Aside0.out ?_))
  refine Aside0.mk ?_
  refine st_all ?hw11 ?hN11 rfl ?hp11 (cs := #[.int .u32 q2, .int .i64 k2, .int .u32 a2, .int .u32 b2]) ?hx11 H110.out.gt0 (by kernel_rfl) (rfl) (by simp [Value.oneCell']) ?_
  case hw11 => rfl
  case hN11 => rfl
  case hp11 => rfl
  case hx11 => rfl
  intro w111 hb11 hS11
  have H112 := Aside0.mk (H110.out.wr0 (cs' := #[.int .u32 q2, .int .i64 k2, .int .u32 a2, .int .u32 b2]) hb11 hS11)
  clear hb11 hS11 H110
  go_wp2_with (first | ((with_reducible refine gate_dst (N := 23) rfl ?_); refine Aside0.out ?_))
  refine Aside0.mk ?_
  refine ld ?hw13 rfl ?hx13 H112.out.gt1 Try.underlying27 rfl (by kernel_rfl) ?_
  case hw13 => rfl
  case hx13 => rfl
  go_wp2_with (first | ((with_reducible refine gate_callee (f := 13) rfl ?_); refine Aside0.out ?_))
  refine Aside0.mk ?_
  refine goesW (some 24) rfl ?hw14 Try.func13 (by kernel_rfl) rfl #[.agg #[.int .u32 q1, .int .i64 k1, .int .u32 a1, .int .u32 b1]] rfl (by (try simp only [List.map_toArray, List.map_cons, List.map_nil]); first | done | rfl) ?_
  case hw14 => rfl
  refine (impl_EncodeFrame.calls q1 k1 a1 b1 _ _ IX.out).mono ?_
  rintro e w114 ⟨v_, rfl, ho, hb_⟩
  refine ⟨_, rfl, ?_⟩
  have H115 := Aside0.mk (H112.out.step hb_)
  clear hb_ H112
  obtain ⟨A24, c24, e24, hl24, hC24⟩ := RdP.of_R ho
  subst e24
  have HL24 := Aside0.mk hl24
  have FC24 := Aside0.mk hC24
  clear hl24 hC24 ho
  go_wp2_with (first | ((with_reducible refine gate_dst (N := 25) rfl ?_); refine Aside0.out ?_))
  refine Aside0.mk ?_
  refine ld ?hw16 rfl ?hx16 H115.out.gt0 Try.underlying27 rfl (by kernel_rfl) ?_
  case hw16 => rfl
  case hx16 => rfl
  go_wp2_with (first | ((with_reducible refine gate_callee (f := 13) rfl ?_); refine Aside0.out ?_))
  refine Aside0.mk ?_
  refine goesW (some 26) rfl ?hw17 Try.func13 (by kernel_rfl) rfl #[.agg #[.int .u32 q2, .int .i64 k2, .int .u32 a2, .int .u32 b2]] rfl (by (try simp only [List.map_toArray, List.map_cons, List.map_nil]); first | done | rfl) ?_
  case hw17 => rfl
  refine (impl_EncodeFrame.calls q2 k2 a2 b2 _ _ IY.out).mono ?_
  rintro e w117 ⟨v_, rfl, ho, hb_⟩
  refine ⟨_, rfl, ?_⟩
  have H118 := Aside0.mk (H115.out.step hb_)
  have n19_ := Aside0.mk (Kd.C_below FC24.out hb_)
  clear FC24
  have FC24 := n19_
  clear n19_
  clear hb_ H115
  obtain ⟨A26, c26, e26, hl26, hC26⟩ := RdP.of_R ho
  subst e26
  have HL26 := Aside0.mk hl26
  have FC26 := Aside0.mk hC26
  clear hl26 hC26 ho
  go_wp2_with (first | ((with_reducible refine gate_dst (N := 28) rfl ?_); refine Aside0.out ?_))
  refine Aside0.mk ?_
  refine ld ?hw20 rfl ?hx20 H118.out.gt1 Try.underlying27 rfl (by kernel_rfl) ?_
  case hw20 => rfl
  case hx20 => rfl
  go_wp2_with (first | ((with_reducible refine gate_callee (f := 11) rfl ?_); refine Aside0.out ?_))
  refine Aside0.mk ?_
  refine goesW (some 29) rfl ?hw21 Try.func11 (by kernel_rfl) rfl #[.agg #[.int .u32 q1, .int .i64 k1, .int .u32 a1, .int .u32 b1]] rfl (by (try simp only [List.map_toArray, List.map_cons, List.map_nil]); first | done | rfl) ?_
  case hw21 => rfl
  refine (spec_EncodeFrame.calls q1 k1 a1 b1 _ _ SX.out).mono ?_
  rintro e w121 ⟨v_, rfl, ho, hb_⟩
  refine ⟨_, rfl, ?_⟩
  have H122 := Aside0.mk (H118.out.step hb_)
  have n23_ := Aside0.mk (Kd.C_below FC24.out hb_)
  clear FC24
  have FC24 := n23_
  clear n23_
  have n24_ := Aside0.mk (Kd.C_below FC26.out hb_)
  clear FC26
  have FC26 := n24_
  clear n24_
  clear hb_ H118
  obtain ⟨A29, c29, e29, hl29, hC29⟩ := RdP.of_R ho
  subst e29
  have HL29 := Aside0.mk hl29
  have FC29 := Aside0.mk hC29
  clear hl29 hC29 ho
  go_wp2_with (first | ((with_reducible refine gate_callee (f := 22) rfl ?_); refine Aside0.out ?_))
  refine Aside0.mk ?_
  refine goesW (some 30) rfl ?hw25 Try.func22 (by kernel_rfl) rfl #[.slice A24 x.length c24, .slice A29 x.length c29] rfl (by (try simp only [List.map_toArray, List.map_cons, List.map_nil]); first | done | rfl) ?_
  case hw25 => rfl
  refine (lw_calls FC24.out HL24.out FC29.out HL29.out).mono ?_
  rintro e w125 ⟨rfl, hb_⟩
  refine ⟨_, rfl, ?_⟩
  have H126 := Aside0.mk (H122.out.step hb_)
  have n27_ := Aside0.mk (Kd.C_below FC24.out hb_)
  clear FC24
  have FC24 := n27_
  clear n27_
  have n28_ := Aside0.mk (Kd.C_below FC26.out hb_)
  clear FC26
  have FC26 := n28_
  clear n28_
  clear hb_ H122
  clear FC29 HL29
  go_wp2_with (first | ((with_reducible refine gate_dst (N := 34) rfl ?_); refine Aside0.out ?_))
  refine Aside0.mk ?_
  refine ld ?hw29 rfl ?hx29 H126.out.gt0 Try.underlying27 rfl (by kernel_rfl) ?_
  case hw29 => rfl
  case hx29 => rfl
  go_wp2_with (first | ((with_reducible refine gate_callee (f := 11) rfl ?_); refine Aside0.out ?_))
  refine Aside0.mk ?_
  refine goesW (some 35) rfl ?hw30 Try.func11 (by kernel_rfl) rfl #[.agg #[.int .u32 q2, .int .i64 k2, .int .u32 a2, .int .u32 b2]] rfl (by (try simp only [List.map_toArray, List.map_cons, List.map_nil]); first | done | rfl) ?_
  case hw30 => rfl
  refine (spec_EncodeFrame.calls q2 k2 a2 b2 _ _ SY.out).mono ?_
  rintro e w130 ⟨v_, rfl, ho, hb_⟩
  refine ⟨_, rfl, ?_⟩
  have H131 := Aside0.mk (H126.out.step hb_)
  have n32_ := Aside0.mk (Kd.C_below FC24.out hb_)
  clear FC24
  have FC24 := n32_
  clear n32_
  have n33_ := Aside0.mk (Kd.C_below FC26.out hb_)
  clear FC26
  have FC26 := n33_
  clear n33_
  clear hb_ H126
  obtain ⟨A35, c35, e35, hl35, hC35⟩ := RdP.of_R ho
  subst e35
  have HL35 := Aside0.mk hl35
  have FC35 := Aside0.mk hC35
  clear hl35 hC35 ho
  go_wp2_with (first | ((with_reducible refine gate_callee (f := 22) rfl ?_); refine Aside0.out ?_))
  refine Aside0.mk ?_
  refine goesW (some 36) rfl ?hw34 Try.func22 (by kernel_rfl) rfl #[.slice A26 y.length c26, .slice A35 y.length c35] rfl (by (try simp only [List.map_toArray, List.map_cons, List.map_nil]); first | done | rfl) ?_
  case hw34 => rfl
  refine (lw_calls FC26.out HL26.out FC35.out HL35.out).mono ?_
  rintro e w134 ⟨rfl, hb_⟩
  refine ⟨_, rfl, ?_⟩
  have H135 := Aside0.mk (H131.out.step hb_)
  have n36_ := Aside0.mk (Kd.C_below FC24.out hb_)
  clear FC24
  have FC24 := n36_
  clear n36_
  have n37_ := Aside0.mk (Kd.C_below FC26.out hb_)
  clear FC26
  have FC26 := n37_
  clear n37_
  clear hb_ H131
  clear FC35 HL35
  have ht1 : w134.cell? ⟨g5, 0, none⟩ = some (.int .u32 q1) := (blk_cell H135.out.gt1 0).trans rfl
  have ht2 : w134.cell? ⟨g6, 0, none⟩ = some (.int .u32 q2) := (blk_cell H135.out.gt0 0).trans rfl
  by_cases cx : x.length = 64
  · have cxb : ((x.length : Int) != 64) = false := bne_eq_false_iff_eq.mpr (by omega)
    have CX := Aside0.mk cx
    clear cx
    by_cases cy : y.length = 64
    · have cyb : ((y.length : Int) != 64) = false := bne_eq_false_iff_eq.mpr (by omega)
      have CY := Aside0.mk cy
      clear cy
      by_cases cq : q1 = q2
      · have cqb : (q1 == q2) = true := beq_iff_eq.mpr cq
        clear cq
        go_wp2
        go_ret
        exact ⟨rfl, H135.out.below⟩
      · have cqb : (q1 == q2) = false := beq_eq_false_iff_ne.mpr cq
        have cqb2 : (q2 == q1) = false := beq_eq_false_iff_ne.mpr (fun h => cq h.symm)
        have AL := Aside0.mk (HAll.out CX.out CY.out cq)
        clear cq HAll
        go_wp2
        clear ht1 ht2 z0b z1b cxb cyb
        have HW := Aside0.mk H135.out.below
        have B5 := Aside0.mk H135.out.gt1
        have B6 := Aside0.mk H135.out.gt0
        have HN := Aside0.mk (Bx.refl w134)
        clear H135
        go_loopg [9] 66 (fun kq v9 w' => ∃ (i : Nat) (xi : Int) (wl : World), v9 = .int .i64 xi ∧ Aside0 (wl = w') ∧ Aside0 (xi = (i : Int)) ∧ Aside0 (kq + i = 66) ∧ Aside0 (i ≤ 65) ∧ Aside0 (Bx w134 [] w'))
        case atStart => exact ⟨0, 0, _, rfl, ⟨rfl⟩, ⟨rfl⟩, ⟨by omega⟩, ⟨Nat.zero_le _⟩, HN⟩
        case round =>
          clear HN
          obtain ⟨i, xi, wl, rfl, hwl, HE, HK, HI, HX⟩ := hrel
          obtain ⟨hwl⟩ := hwl
          subst hwl
          have he := HE.out
          cases gk with
          | zero => exact absurd HK.out (by have := HI.out; omega)
          | succ k1_ =>
            by_cases c3 : i ≤ 64
            · have C3 := Aside0.mk c3
              have c3b : decide (xi ≤ 64) = true := decide_eq_true (by omega)
              have XI := Aside0.mk (show 0 ≤ xi ∧ xi ≤ 64 from by omega)
              have jn : IntKind.i64.wrap (xi + 1) = xi + 1 := by rw [IntKind.wrap_i64]; omega
              obtain ⟨i0t, hi0t, _, hszt, _⟩ := info_parts info5
              obtain ⟨hcutt, hAt, hCt⟩ := print_take_of (P := Try.prog) (Value.int .u8) 0 25 5 .i64 Try.underlying25 hi0t hszt A24 c24 x xi XI.out.1 (by have := XI.out; rw [CX.out]; omega) HL24.out
              have HRt := Aside0.mk (Kd.C_of_reads (h1 := fun _ => rfl) (hAt _ (Kd.reads_of_C FC24.out)))
              obtain ⟨i0d, hi0d, _, hszd, _⟩ := info_parts info5
              obtain ⟨A12, hcutd, hAd, hCd⟩ := print_drop_of (P := Try.prog) (Value.int .u8) 0 25 5 .i64 Try.underlying25 hi0d hszd A26 c26 y xi XI.out.1 (by have := XI.out; rw [CY.out]; omega) HL26.out
              have HRd := Aside0.mk (Kd.C_of_reads (h1 := fun _ => rfl) (hAd _ (Kd.reads_of_C FC26.out)))
              clear c3 he hAt hCt hi0t hszt hAd hCd hi0d hszd
              go_wp2
              have H139 := Aside0.mk HX.out.drew
              refine start_ (n := 12) (S := fun w' => True) (ds := [11]) #[false, false, false, false, false, false, false, false, false, false, false, false] (by kernel_rfl) rfl rfl trivial (fun hHeld => ?_)
              clear HX
              generalize wl.drew = w138 at H139 hHeld ⊢
              refine pure_ (i := 1) (N := some 59) (v := ?_) (a' := ?_) #[false, true, false, false, false, false, false, false, false, false, false, false] rfl rfl (by kernel_rfl) (fun _ _ _ h => h) (Or.inl ⟨by rfl, ?_⟩) ?_ ?_
              rotate_left
              · intro w'
                go_simp
                with_reducible rfl
              rotate_left
              · simp only [Act.put, List.setIfInBounds_toArray, List.set_cons_zero, List.set_cons_succ, i64_w, i32_w]
                rfl
              refine pure_ (i := 2) (N := some 60) (v := ?_) (a' := ?_) #[false, true, true, false, false, false, false, false, false, false, false, false] rfl rfl (by kernel_rfl) (fun _ _ _ h => h) (Or.inl ⟨by rfl, ?_⟩) ?_ ?_
              rotate_left
              · intro w'
                go_simp
                with_reducible rfl
              rotate_left
              · simp only [Act.put, List.setIfInBounds_toArray, List.set_cons_zero, List.set_cons_succ, i64_w, i32_w]
                rfl
              refine pure_ (i := 3) (N := some 61) (v := ?_) (a' := ?_) #[false, true, true, true, false, false, false, false, false, false, false, false] rfl rfl (by kernel_rfl) (fun _ _ _ h => h) (Or.inl ⟨by rfl, ?_⟩) ?_ ?_
              rotate_left
              · intro w'
                go_simp
                with_reducible rfl
              rotate_left
              · simp only [Act.put, List.setIfInBounds_toArray, List.set_cons_zero, List.set_cons_succ, i64_w, i32_w]
                rfl
              refine pure_ (i := 5) (N := some 63) (v := ?_) (a' := ?_) #[false, true, true, true, false, true, false, false, false, false, false, false] rfl rfl (by kernel_rfl) (fun _ _ _ h => h) (Or.inl ⟨by rfl, ?_⟩) ?_ ?_
              rotate_left
              · intro w'
                go_simp
                with_reducible rfl
              rotate_left
              · simp only [Act.put, List.setIfInBounds_toArray, List.set_cons_zero, List.set_cons_succ, i64_w, i32_w]
                rfl
              refine pure_ (i := 6) (N := some 64) (v := ?_) (a' := ?_) #[false, true, true, true, false, true, true, false, false, false, false, false] rfl rfl (by kernel_rfl) (fun _ _ _ h => h) (Or.inl ⟨by rfl, ?_⟩) ?_ ?_
              rotate_left
              · intro w'
                go_simp
                with_reducible rfl
              rotate_left
              · simp only [Act.put, List.setIfInBounds_toArray, List.set_cons_zero, List.set_cons_succ, i64_w, i32_w]
                rfl
              refine pure_ (i := 7) (N := some 65) (v := ?_) (a' := ?_) #[false, true, true, true, false, true, true, true, false, false, false, false] rfl rfl (by kernel_rfl) (fun _ _ _ h => h) (Or.inl ⟨by rfl, ?_⟩) ?_ ?_
              rotate_left
              · intro w'
                go_simp
                with_reducible rfl
              rotate_left
              · simp only [Act.put, List.setIfInBounds_toArray, List.set_cons_zero, List.set_cons_succ, i64_w, i32_w]
                rfl
              obtain ⟨r, hr⟩ : ∃ r, r = P.decF (x.take xi.toNat ++ y.drop xi.toNat) := ⟨_, rfl⟩
              have HDE := Aside0.mk (show impl_DecodeFrame.f ([] ++ x.take xi.toNat ++ y.drop xi.toNat) = some (r.1, r.2.1, r.2.2.1, r.2.2.2.1, r.2.2.2.2) from by rw [List.nil_append, P.impl_dec (P.app_u8 (UX.out.take _) (UY.out.drop _)), ← hr])
              have ALi := AL.out i C3.out
              rw [show i = xi.toNat from by rw [HE.out]; rfl, ← hr] at ALi
              have ALI := Aside0.mk ALi
              clear hr ALi
              refine join_ (σ := Nat × Value × Value × Value) 1 #[true, true, true, true, true, true, true, true, true, true, true, false] (fun ⟨s_, v58, v62, v66⟩ => [(58, v58), (62, v62), (66, v66), (67, .agg #[.bool r.1, .int .u32 r.2.1, .int .i64 r.2.2.1, .int .u32 r.2.2.2.1, .int .u32 r.2.2.2.2]), (10, .pointer (some ⟨s_, 0, none⟩))]) (fun ⟨s_, v58, v62, v66⟩ w' => (True) ∧ Bx w134 [(s_, #[.bool false, .int .u32 0, .int .i64 0, .int .u32 0, .int .u32 0], 33)] w') ?_ ?_
              rotate_left
              · intro hCont
                refine two_ (i := 0) (j := 10) (Ni := some 58) (Nj := some 10) #[true, true, true, true, false, true, true, true, false, false, false, false] #[false, true, true, true, false, true, true, true, false, false, true, false] rfl rfl rfl rfl (by kernel_rfl) (by decide) (by decide) (fun K hK => ?_) (fun K hK => ?_)
                · skip
                  refine Kd.R_lit_step (Kd.int .u8) _ 5 ?hg (N := 58) ?hd (xs := ([] : List Int)) (inner := []) (ok := fun _ => True) (okp := fun _ => True) ?hr ?hp (fun _ hk => hk) trivial (Below.refl _ _) (Nat.le_refl _) (by simp) ?_; (case hd => rfl); (case hg => rfl); (case hr => first | (go_simp; done) | (go_simp; rfl)); (case hp => exact (Reps.none _ _))
                  intro v58 w140 ho hb_ hg_ hnew_
                  clear hg_ hnew_
                  have RB := Aside0.mk (Kd.R_lower ho H139.out.below.size)
                  clear ho
                  have H141 := Aside0.mk (H139.out.step hb_)
                  clear hb_ H139
                  refine hK.out _ _ trivial (fun hHeld => ?_)
                  clear hK K
                  refine norm_ (a' := ?_) ?_ ?_
                  rotate_left
                  · show Act.put _ (some 58) _ = _
                    simp only [Act.put, List.setIfInBounds_toArray, List.set_cons_zero, List.set_cons_succ, i64_w, i32_w]
                    rfl
                  refine two_ (i := 4) (j := 10) (Ni := some 62) (Nj := some 10) #[true, true, true, true, true, true, true, true, false, false, false, false] #[true, true, true, true, false, true, true, true, false, false, true, false] rfl rfl rfl rfl (by kernel_rfl) (by decide) (by decide) (fun K hK => ?_) (fun K hK => ?_)
                  · skip
                    refine Kd.R_append_rows_step (Kd.int .u8) (w0 := w134) w134.heap.size (by rfl) (.tmp 58) (.tmp 61) 25 5 (.int .u8 0) 1 rfl Try.underlying25 info5 rfl (by decide) (by omega) v58 ([] : List Int) (x.take xi.toNat) _ _ _ (fun _ => True) (fun _ => False) rfl rfl ?aO42 ?aR42 (fun _ _ h => h) (fun _ h => h.elim) ?aF42 ?aB42 ?aS42 ?aL42 ?_
                    case aR42 => exact C_len (by have := XI.out; have := CX.out; have := CY.out; simp only [List.length_take, List.length_drop]; try omega) (Kd.C_below HRt.out H141.out.below)
                    case aB42 => exact H141.out.below
                    case aF42 => exact (fun _ _ => trivial)
                    case aO42 => exact RB.out
                    case aS42 => exact H141.out.below.size
                    case aL42 => have := CX.out; have := CY.out; have := XI.out; simp only [List.length_nil, List.length_take, List.length_drop, List.length_append]; omega
                    intro v62 w142 ho hb_ hg_ hat_
                    have hst_ := Stp.grown (S := fun k => some k = v58.ownBlock) hg_ (fun k hk => hk.symm)
                    have H143 := Aside0.mk (H141.out.stp hst_ (fun k hk => Kd.R_base RB.out k hk.symm) (fun b hb he => by
                      obtain ⟨cells, hc⟩ := Kd.R_typed RB.out b.1 he.symm
                      have h2 := (H141.out.at_ b hb).2
                      rw [hc] at h2
                      simp only [List.mem_cons, List.not_mem_nil, or_false] at hb
                      all_goals (first | (rcases hb with rfl; cases h2) | (subst hb; cases h2))))
                    have RB2_ := Aside0.mk ho
                    clear ho hb_ hg_ hat_ hst_ RB H141
                    have RB := RB2_
                    clear RB2_
                    refine hK.out _ _ trivial (fun hHeld => ?_)
                    clear hK K
                    refine norm_ (a' := ?_) ?_ ?_
                    rotate_left
                    · show Act.put _ (some 62) _ = _
                      simp only [Act.put, List.setIfInBounds_toArray, List.set_cons_zero, List.set_cons_succ, i64_w, i32_w]
                      rfl
                    refine two_ (i := 8) (j := 10) (Ni := some 66) (Nj := some 10) #[true, true, true, true, true, true, true, true, true, false, false, false] #[true, true, true, true, true, true, true, true, false, false, true, false] rfl rfl rfl rfl (by kernel_rfl) (by decide) (by decide) (fun K hK => ?_) (fun K hK => ?_)
                    · skip
                      refine Kd.R_append_rows_step (Kd.int .u8) (w0 := w134) w134.heap.size (by rfl) (.tmp 62) (.tmp 65) 25 5 (.int .u8 0) 1 rfl Try.underlying25 info5 rfl (by decide) (by omega) v62 ([] ++ x.take xi.toNat) (y.drop xi.toNat) _ _ _ (fun _ => True) (fun _ => False) rfl rfl ?aO44 ?aR44 (fun _ _ h => h) (fun _ h => h.elim) ?aF44 ?aB44 ?aS44 ?aL44 ?_
                      case aR44 => exact C_len (by have := XI.out; have := CX.out; have := CY.out; simp only [List.length_take, List.length_drop]; try omega) (Kd.C_below HRd.out H143.out.below)
                      case aB44 => exact H143.out.below
                      case aF44 => exact (fun _ _ => trivial)
                      case aO44 => exact RB.out
                      case aS44 => exact H143.out.below.size
                      case aL44 => have := CX.out; have := CY.out; have := XI.out; simp only [List.length_nil, List.length_take, List.length_drop, List.length_append]; omega
                      intro v66 w144 ho hb_ hg_ hat_
                      have hst_ := Stp.grown (S := fun k => some k = v62.ownBlock) hg_ (fun k hk => hk.symm)
                      have H145 := Aside0.mk (H143.out.stp hst_ (fun k hk => Kd.R_base RB.out k hk.symm) (fun b hb he => by
                        obtain ⟨cells, hc⟩ := Kd.R_typed RB.out b.1 he.symm
                        have h2 := (H143.out.at_ b hb).2
                        rw [hc] at h2
                        simp only [List.mem_cons, List.not_mem_nil, or_false] at hb
                        all_goals (first | (rcases hb with rfl; cases h2) | (subst hb; cases h2))))
                      have RB2_ := Aside0.mk ho
                      clear ho hb_ hg_ hat_ hst_ RB H143
                      have RB := RB2_
                      clear RB2_
                      refine hK.out _ _ trivial (fun hHeld => ?_)
                      clear hK K
                      refine norm_ (a' := ?_) ?_ ?_
                      rotate_left
                      · show Act.put _ (some 66) _ = _
                        simp only [Act.put, List.setIfInBounds_toArray, List.set_cons_zero, List.set_cons_succ, i64_w, i32_w]
                        rfl
                      refine two_ (i := 9) (j := 10) (Ni := some 67) (Nj := some 10) #[true, true, true, true, true, true, true, true, true, true, false, false] #[true, true, true, true, true, true, true, true, true, false, true, false] rfl rfl rfl rfl (by kernel_rfl) (by decide) (by decide) (fun K hK => ?_) (fun K hK => ?_)
                      · skip
                        obtain ⟨A66, c66, e66⟩ := Kd.R_slice RB.out
                        subst e66
                        have RR := Kd.R_reads' RB.out
                        refine goes_ Try.func19 (by kernel_rfl) rfl #[.slice A66 ([] ++ x.take xi.toNat ++ y.drop xi.toNat).length c66] (by rfl) rfl rfl (by (try simp only [List.map_toArray, List.map_cons, List.map_nil]); first | done | rfl) ?_
                        refine (impl_DecodeFrame.calls _ _ _ r.1 r.2.1 r.2.2.1 r.2.2.2.1 r.2.2.2.2 _ RR.2.2 RR.2.1 HDE.out).mono ?_
                        rintro e w146 ⟨rfl, hb_⟩
                        refine ⟨_, rfl, ?_⟩
                        clear RR
                        have H147 := Aside0.mk (H145.out.step hb_)
                        have n48_ := Aside0.mk (Kd.R_below RB.out hb_)
                        clear RB
                        have RB := n48_
                        clear n48_
                        clear hb_ H145
                        clear RB
                        refine hK.out _ _ trivial (fun hHeld => ?_)
                        clear hK K
                        refine norm_ (a' := ?_) ?_ ?_
                        rotate_left
                        · show Act.put _ (some 67) _ = _
                          simp only [Act.put, List.setIfInBounds_toArray, List.set_cons_zero, List.set_cons_succ, i64_w, i32_w]
                          rfl
                        refine one_ (i := 10) (N := some 10) #[true, true, true, true, true, true, true, true, true, true, true, false] rfl rfl (by kernel_rfl) (by decide) (fun K hK => ?_)
                        refine box_step ?hg49 (N := 10) ?hd49 (cs := #[.bool false, .int .u32 0, .int .i64 0, .int .u32 0, .int .u32 0]) (t := 33) ?hr49 ?_
                        case hd49 => rfl
                        case hg49 => rfl
                        case hr49 => first | (go_simp; done) | (go_simp; rfl)
                        intro g10 hg10_ w149 hb49 hB49
                        have H150 := Aside0.mk (H147.out.new hg10_ hb49 hB49)
                        clear hg10_ hb49 hB49 H147
                        refine hK.out _ _ trivial (fun hHeld => ?_)
                        clear hK K
                        refine norm_ (a' := ?_) ?_ ?_
                        rotate_left
                        · show Act.put _ (some 10) _ = _
                          simp only [Act.put, List.setIfInBounds_toArray, List.set_cons_zero, List.set_cons_succ, i64_w, i32_w]
                          rfl
                        exact norm_ (by simp only [putAll, Act.put, List.setIfInBounds_toArray, List.set_cons_zero, List.set_cons_succ]) (hCont (g10, v58, v62, .slice A66 ([] ++ x.take xi.toNat ++ y.drop xi.toNat).length c66) _ ⟨hHeld, H150.out⟩)
                      · skip
                        refine box_step ?hg51 (N := 10) ?hd51 (cs := #[.bool false, .int .u32 0, .int .i64 0, .int .u32 0, .int .u32 0]) (t := 33) ?hr51 ?_
                        case hd51 => rfl
                        case hg51 => rfl
                        case hr51 => first | (go_simp; done) | (go_simp; rfl)
                        intro g10 hg10_ w151 hb51 hB51
                        have H152 := Aside0.mk (H145.out.new hg10_ hb51 hB51)
                        have n53_ := Aside0.mk (Kd.R_below RB.out hB51)
                        clear RB
                        have RB := n53_
                        clear n53_
                        clear hg10_ hb51 hB51 H145
                        refine hK.out _ _ trivial (fun hHeld => ?_)
                        clear hK K
                        refine norm_ (a' := ?_) ?_ ?_
                        rotate_left
                        · show Act.put _ (some 10) _ = _
                          simp only [Act.put, List.setIfInBounds_toArray, List.set_cons_zero, List.set_cons_succ, i64_w, i32_w]
                          rfl
                        refine one_ (i := 9) (N := some 67) #[true, true, true, true, true, true, true, true, true, true, true, false] rfl rfl (by kernel_rfl) (by decide) (fun K hK => ?_)
                        obtain ⟨A66, c66, e66⟩ := Kd.R_slice RB.out
                        subst e66
                        have RR := Kd.R_reads' RB.out
                        refine goes_ Try.func19 (by kernel_rfl) rfl #[.slice A66 ([] ++ x.take xi.toNat ++ y.drop xi.toNat).length c66] (by rfl) rfl rfl (by (try simp only [List.map_toArray, List.map_cons, List.map_nil]); first | done | rfl) ?_
                        refine (impl_DecodeFrame.calls _ _ _ r.1 r.2.1 r.2.2.1 r.2.2.2.1 r.2.2.2.2 _ RR.2.2 RR.2.1 HDE.out).mono ?_
                        rintro e w154 ⟨rfl, hb_⟩
                        refine ⟨_, rfl, ?_⟩
                        clear RR
                        have H155 := Aside0.mk (H152.out.step hb_)
                        have n56_ := Aside0.mk (Kd.R_below RB.out hb_)
                        clear RB
                        have RB := n56_
                        clear n56_
                        clear hb_ H152
                        clear RB
                        refine hK.out _ _ trivial (fun hHeld => ?_)
                        clear hK K
                        refine norm_ (a' := ?_) ?_ ?_
                        rotate_left
                        · show Act.put _ (some 67) _ = _
                          simp only [Act.put, List.setIfInBounds_toArray, List.set_cons_zero, List.set_cons_succ, i64_w, i32_w]
                          rfl
                        exact norm_ (by simp only [putAll, Act.put, List.setIfInBounds_toArray, List.set_cons_zero, List.set_cons_succ]) (hCont (g10, v58, v62, .slice A66 ([] ++ x.take xi.toNat ++ y.drop xi.toNat).length c66) _ ⟨hHeld, H155.out⟩)
                    · skip
                      refine box_step ?hg57 (N := 10) ?hd57 (cs := #[.bool false, .int .u32 0, .int .i64 0, .int .u32 0, .int .u32 0]) (t := 33) ?hr57 ?_
                      case hd57 => rfl
                      case hg57 => rfl
                      case hr57 => first | (go_simp; done) | (go_simp; rfl)
                      intro g10 hg10_ w157 hb57 hB57
                      have H158 := Aside0.mk (H143.out.new hg10_ hb57 hB57)
                      have n59_ := Aside0.mk (Kd.R_below RB.out hB57)
                      clear RB
                      have RB := n59_
                      clear n59_
                      clear hg10_ hb57 hB57 H143
                      refine hK.out _ _ trivial (fun hHeld => ?_)
                      clear hK K
                      refine norm_ (a' := ?_) ?_ ?_
                      rotate_left
                      · show Act.put _ (some 10) _ = _
                        simp only [Act.put, List.setIfInBounds_toArray, List.set_cons_zero, List.set_cons_succ, i64_w, i32_w]
                        rfl
                      refine one_ (i := 8) (N := some 66) #[true, true, true, true, true, true, true, true, true, false, true, false] rfl rfl (by kernel_rfl) (by decide) (fun K hK => ?_)
                      refine Kd.R_append_rows_step (Kd.int .u8) (w0 := w134) w134.heap.size (by rfl) (.tmp 62) (.tmp 65) 25 5 (.int .u8 0) 1 rfl Try.underlying25 info5 rfl (by decide) (by omega) v62 ([] ++ x.take xi.toNat) (y.drop xi.toNat) _ _ _ (fun _ => True) (fun _ => False) rfl rfl ?aO60 ?aR60 (fun _ _ h => h) (fun _ h => h.elim) ?aF60 ?aB60 ?aS60 ?aL60 ?_
                      case aR60 => exact C_len (by have := XI.out; have := CX.out; have := CY.out; simp only [List.length_take, List.length_drop]; try omega) (Kd.C_below HRd.out H158.out.below)
                      case aB60 => exact H158.out.below
                      case aF60 => exact (fun _ _ => trivial)
                      case aO60 => exact RB.out
                      case aS60 => exact H158.out.below.size
                      case aL60 => have := CX.out; have := CY.out; have := XI.out; simp only [List.length_nil, List.length_take, List.length_drop, List.length_append]; omega
                      intro v66 w160 ho hb_ hg_ hat_
                      have hst_ := Stp.grown (S := fun k => some k = v62.ownBlock) hg_ (fun k hk => hk.symm)
                      have H161 := Aside0.mk (H158.out.stp hst_ (fun k hk => Kd.R_base RB.out k hk.symm) (fun b hb he => by
                        obtain ⟨cells, hc⟩ := Kd.R_typed RB.out b.1 he.symm
                        have h2 := (H158.out.at_ b hb).2
                        rw [hc] at h2
                        simp only [List.mem_cons, List.not_mem_nil, or_false] at hb
                        all_goals (first | (rcases hb with rfl; cases h2) | (subst hb; cases h2))))
                      have RB2_ := Aside0.mk ho
                      clear ho hb_ hg_ hat_ hst_ RB H158
                      have RB := RB2_
                      clear RB2_
                      refine hK.out _ _ trivial (fun hHeld => ?_)
                      clear hK K
                      refine norm_ (a' := ?_) ?_ ?_
                      rotate_left
                      · show Act.put _ (some 66) _ = _
                        simp only [Act.put, List.setIfInBounds_toArray, List.set_cons_zero, List.set_cons_succ, i64_w, i32_w]
                        rfl
                      refine one_ (i := 9) (N := some 67) #[true, true, true, true, true, true, true, true, true, true, true, false] rfl rfl (by kernel_rfl) (by decide) (fun K hK => ?_)
                      obtain ⟨A66, c66, e66⟩ := Kd.R_slice RB.out
                      subst e66
                      have RR := Kd.R_reads' RB.out
                      refine goes_ Try.func19 (by kernel_rfl) rfl #[.slice A66 ([] ++ x.take xi.toNat ++ y.drop xi.toNat).length c66] (by rfl) rfl rfl (by (try simp only [List.map_toArray, List.map_cons, List.map_nil]); first | done | rfl) ?_
                      refine (impl_DecodeFrame.calls _ _ _ r.1 r.2.1 r.2.2.1 r.2.2.2.1 r.2.2.2.2 _ RR.2.2 RR.2.1 HDE.out).mono ?_
                      rintro e w162 ⟨rfl, hb_⟩
                      refine ⟨_, rfl, ?_⟩
                      clear RR
                      have H163 := Aside0.mk (H161.out.step hb_)
                      have n64_ := Aside0.mk (Kd.R_below RB.out hb_)
                      clear RB
                      have RB := n64_
                      clear n64_
                      clear hb_ H161
                      clear RB
                      refine hK.out _ _ trivial (fun hHeld => ?_)
                      clear hK K
                      refine norm_ (a' := ?_) ?_ ?_
                      rotate_left
                      · show Act.put _ (some 67) _ = _
                        simp only [Act.put, List.setIfInBounds_toArray, List.set_cons_zero, List.set_cons_succ, i64_w, i32_w]
                        rfl
                      exact norm_ (by simp only [putAll, Act.put, List.setIfInBounds_toArray, List.set_cons_zero, List.set_cons_succ]) (hCont (g10, v58, v62, .slice A66 ([] ++ x.take xi.toNat ++ y.drop xi.toNat).length c66) _ ⟨hHeld, H163.out⟩)
                  · skip
                    refine box_step ?hg65 (N := 10) ?hd65 (cs := #[.bool false, .int .u32 0, .int .i64 0, .int .u32 0, .int .u32 0]) (t := 33) ?hr65 ?_
                    case hd65 => rfl
                    case hg65 => rfl
                    case hr65 => first | (go_simp; done) | (go_simp; rfl)
                    intro g10 hg10_ w165 hb65 hB65
                    have H166 := Aside0.mk (H141.out.new hg10_ hb65 hB65)
                    have n67_ := Aside0.mk (Kd.R_below RB.out hB65)
                    clear RB
                    have RB := n67_
                    clear n67_
                    clear hg10_ hb65 hB65 H141
                    refine hK.out _ _ trivial (fun hHeld => ?_)
                    clear hK K
                    refine norm_ (a' := ?_) ?_ ?_
                    rotate_left
                    · show Act.put _ (some 10) _ = _
                      simp only [Act.put, List.setIfInBounds_toArray, List.set_cons_zero, List.set_cons_succ, i64_w, i32_w]
                      rfl
                    refine one_ (i := 4) (N := some 62) #[true, true, true, true, true, true, true, true, false, false, true, false] rfl rfl (by kernel_rfl) (by decide) (fun K hK => ?_)
                    refine Kd.R_append_rows_step (Kd.int .u8) (w0 := w134) w134.heap.size (by rfl) (.tmp 58) (.tmp 61) 25 5 (.int .u8 0) 1 rfl Try.underlying25 info5 rfl (by decide) (by omega) v58 ([] : List Int) (x.take xi.toNat) _ _ _ (fun _ => True) (fun _ => False) rfl rfl ?aO68 ?aR68 (fun _ _ h => h) (fun _ h => h.elim) ?aF68 ?aB68 ?aS68 ?aL68 ?_
                    case aR68 => exact C_len (by have := XI.out; have := CX.out; have := CY.out; simp only [List.length_take, List.length_drop]; try omega) (Kd.C_below HRt.out H166.out.below)
                    case aB68 => exact H166.out.below
                    case aF68 => exact (fun _ _ => trivial)
                    case aO68 => exact RB.out
                    case aS68 => exact H166.out.below.size
                    case aL68 => have := CX.out; have := CY.out; have := XI.out; simp only [List.length_nil, List.length_take, List.length_drop, List.length_append]; omega
                    intro v62 w168 ho hb_ hg_ hat_
                    have hst_ := Stp.grown (S := fun k => some k = v58.ownBlock) hg_ (fun k hk => hk.symm)
                    have H169 := Aside0.mk (H166.out.stp hst_ (fun k hk => Kd.R_base RB.out k hk.symm) (fun b hb he => by
                      obtain ⟨cells, hc⟩ := Kd.R_typed RB.out b.1 he.symm
                      have h2 := (H166.out.at_ b hb).2
                      rw [hc] at h2
                      simp only [List.mem_cons, List.not_mem_nil, or_false] at hb
                      all_goals (first | (rcases hb with rfl; cases h2) | (subst hb; cases h2))))
                    have RB2_ := Aside0.mk ho
                    clear ho hb_ hg_ hat_ hst_ RB H166
                    have RB := RB2_
                    clear RB2_
                    refine hK.out _ _ trivial (fun hHeld => ?_)
                    clear hK K
                    refine norm_ (a' := ?_) ?_ ?_
                    rotate_left
                    · show Act.put _ (some 62) _ = _
                      simp only [Act.put, List.setIfInBounds_toArray, List.set_cons_zero, List.set_cons_succ, i64_w, i32_w]
                      rfl
                    refine one_ (i := 8) (N := some 66) #[true, true, true, true, true, true, true, true, true, false, true, false] rfl rfl (by kernel_rfl) (by decide) (fun K hK => ?_)
                    refine Kd.R_append_rows_step (Kd.int .u8) (w0 := w134) w134.heap.size (by rfl) (.tmp 62) (.tmp 65) 25 5 (.int .u8 0) 1 rfl Try.underlying25 info5 rfl (by decide) (by omega) v62 ([] ++ x.take xi.toNat) (y.drop xi.toNat) _ _ _ (fun _ => True) (fun _ => False) rfl rfl ?aO70 ?aR70 (fun _ _ h => h) (fun _ h => h.elim) ?aF70 ?aB70 ?aS70 ?aL70 ?_
                    case aR70 => exact C_len (by have := XI.out; have := CX.out; have := CY.out; simp only [List.length_take, List.length_drop]; try omega) (Kd.C_below HRd.out H169.out.below)
                    case aB70 => exact H169.out.below
                    case aF70 => exact (fun _ _ => trivial)
                    case aO70 => exact RB.out
                    case aS70 => exact H169.out.below.size
                    case aL70 => have := CX.out; have := CY.out; have := XI.out; simp only [List.length_nil, List.length_take, List.length_drop, List.length_append]; omega
                    intro v66 w170 ho hb_ hg_ hat_
                    have hst_ := Stp.grown (S := fun k => some k = v62.ownBlock) hg_ (fun k hk => hk.symm)
                    have H171 := Aside0.mk (H169.out.stp hst_ (fun k hk => Kd.R_base RB.out k hk.symm) (fun b hb he => by
                      obtain ⟨cells, hc⟩ := Kd.R_typed RB.out b.1 he.symm
                      have h2 := (H169.out.at_ b hb).2
                      rw [hc] at h2
                      simp only [List.mem_cons, List.not_mem_nil, or_false] at hb
                      all_goals (first | (rcases hb with rfl; cases h2) | (subst hb; cases h2))))
                    have RB2_ := Aside0.mk ho
                    clear ho hb_ hg_ hat_ hst_ RB H169
                    have RB := RB2_
                    clear RB2_
                    refine hK.out _ _ trivial (fun hHeld => ?_)
                    clear hK K
                    refine norm_ (a' := ?_) ?_ ?_
                    rotate_left
                    · show Act.put _ (some 66) _ = _
                      simp only [Act.put, List.setIfInBounds_toArray, List.set_cons_zero, List.set_cons_succ, i64_w, i32_w]
                      rfl
                    refine one_ (i := 9) (N := some 67) #[true, true, true, true, true, true, true, true, true, true, true, false] rfl rfl (by kernel_rfl) (by decide) (fun K hK => ?_)
                    obtain ⟨A66, c66, e66⟩ := Kd.R_slice RB.out
                    subst e66
                    have RR := Kd.R_reads' RB.out
                    refine goes_ Try.func19 (by kernel_rfl) rfl #[.slice A66 ([] ++ x.take xi.toNat ++ y.drop xi.toNat).length c66] (by rfl) rfl rfl (by (try simp only [List.map_toArray, List.map_cons, List.map_nil]); first | done | rfl) ?_
                    refine (impl_DecodeFrame.calls _ _ _ r.1 r.2.1 r.2.2.1 r.2.2.2.1 r.2.2.2.2 _ RR.2.2 RR.2.1 HDE.out).mono ?_
                    rintro e w172 ⟨rfl, hb_⟩
                    refine ⟨_, rfl, ?_⟩
                    clear RR
                    have H173 := Aside0.mk (H171.out.step hb_)
                    have n74_ := Aside0.mk (Kd.R_below RB.out hb_)
                    clear RB
                    have RB := n74_
                    clear n74_
                    clear hb_ H171
                    clear RB
                    refine hK.out _ _ trivial (fun hHeld => ?_)
                    clear hK K
                    refine norm_ (a' := ?_) ?_ ?_
                    rotate_left
                    · show Act.put _ (some 67) _ = _
                      simp only [Act.put, List.setIfInBounds_toArray, List.set_cons_zero, List.set_cons_succ, i64_w, i32_w]
                      rfl
                    exact norm_ (by simp only [putAll, Act.put, List.setIfInBounds_toArray, List.set_cons_zero, List.set_cons_succ]) (hCont (g10, v58, v62, .slice A66 ([] ++ x.take xi.toNat ++ y.drop xi.toNat).length c66) _ ⟨hHeld, H173.out⟩)
                · skip
                  refine box_step ?hg75 (N := 10) ?hd75 (cs := #[.bool false, .int .u32 0, .int .i64 0, .int .u32 0, .int .u32 0]) (t := 33) ?hr75 ?_
                  case hd75 => rfl
                  case hg75 => rfl
                  case hr75 => first | (go_simp; done) | (go_simp; rfl)
                  intro g10 hg10_ w175 hb75 hB75
                  have H176 := Aside0.mk (H139.out.new hg10_ hb75 hB75)
                  clear hg10_ hb75 hB75 H139
                  refine hK.out _ _ trivial (fun hHeld => ?_)
                  clear hK K
                  refine norm_ (a' := ?_) ?_ ?_
                  rotate_left
                  · show Act.put _ (some 10) _ = _
                    simp only [Act.put, List.setIfInBounds_toArray, List.set_cons_zero, List.set_cons_succ, i64_w, i32_w]
                    rfl
                  refine one_ (i := 0) (N := some 58) #[true, true, true, true, false, true, true, true, false, false, true, false] rfl rfl (by kernel_rfl) (by decide) (fun K hK => ?_)
                  refine Kd.R_lit_step (Kd.int .u8) _ 5 ?hg (N := 58) ?hd (xs := ([] : List Int)) (inner := []) (ok := fun _ => True) (okp := fun _ => True) ?hr ?hp (fun _ hk => hk) trivial (Below.refl _ _) (Nat.le_refl _) (by simp) ?_; (case hd => rfl); (case hg => rfl); (case hr => first | (go_simp; done) | (go_simp; rfl)); (case hp => exact (Reps.none _ _))
                  intro v58 w177 ho hb_ hg_ hnew_
                  clear hg_ hnew_
                  have RB := Aside0.mk (Kd.R_lower ho H176.out.below.size)
                  clear ho
                  have H178 := Aside0.mk (H176.out.step hb_)
                  clear hb_ H176
                  refine hK.out _ _ trivial (fun hHeld => ?_)
                  clear hK K
                  refine norm_ (a' := ?_) ?_ ?_
                  rotate_left
                  · show Act.put _ (some 58) _ = _
                    simp only [Act.put, List.setIfInBounds_toArray, List.set_cons_zero, List.set_cons_succ, i64_w, i32_w]
                    rfl
                  refine one_ (i := 4) (N := some 62) #[true, true, true, true, true, true, true, true, false, false, true, false] rfl rfl (by kernel_rfl) (by decide) (fun K hK => ?_)
                  refine Kd.R_append_rows_step (Kd.int .u8) (w0 := w134) w134.heap.size (by rfl) (.tmp 58) (.tmp 61) 25 5 (.int .u8 0) 1 rfl Try.underlying25 info5 rfl (by decide) (by omega) v58 ([] : List Int) (x.take xi.toNat) _ _ _ (fun _ => True) (fun _ => False) rfl rfl ?aO79 ?aR79 (fun _ _ h => h) (fun _ h => h.elim) ?aF79 ?aB79 ?aS79 ?aL79 ?_
                  case aR79 => exact C_len (by have := XI.out; have := CX.out; have := CY.out; simp only [List.length_take, List.length_drop]; try omega) (Kd.C_below HRt.out H178.out.below)
                  case aB79 => exact H178.out.below
                  case aF79 => exact (fun _ _ => trivial)
                  case aO79 => exact RB.out
                  case aS79 => exact H178.out.below.size
                  case aL79 => have := CX.out; have := CY.out; have := XI.out; simp only [List.length_nil, List.length_take, List.length_drop, List.length_append]; omega
                  intro v62 w179 ho hb_ hg_ hat_
                  have hst_ := Stp.grown (S := fun k => some k = v58.ownBlock) hg_ (fun k hk => hk.symm)
                  have H180 := Aside0.mk (H178.out.stp hst_ (fun k hk => Kd.R_base RB.out k hk.symm) (fun b hb he => by
                    obtain ⟨cells, hc⟩ := Kd.R_typed RB.out b.1 he.symm
                    have h2 := (H178.out.at_ b hb).2
                    rw [hc] at h2
                    simp only [List.mem_cons, List.not_mem_nil, or_false] at hb
                    all_goals (first | (rcases hb with rfl; cases h2) | (subst hb; cases h2))))
                  have RB2_ := Aside0.mk ho
                  clear ho hb_ hg_ hat_ hst_ RB H178
                  have RB := RB2_
                  clear RB2_
                  refine hK.out _ _ trivial (fun hHeld => ?_)
                  clear hK K
                  refine norm_ (a' := ?_) ?_ ?_
                  rotate_left
                  · show Act.put _ (some 62) _ = _
                    simp only [Act.put, List.setIfInBounds_toArray, List.set_cons_zero, List.set_cons_succ, i64_w, i32_w]
                    rfl
                  refine one_ (i := 8) (N := some 66) #[true, true, true, true, true, true, true, true, true, false, true, false] rfl rfl (by kernel_rfl) (by decide) (fun K hK => ?_)
                  refine Kd.R_append_rows_step (Kd.int .u8) (w0 := w134) w134.heap.size (by rfl) (.tmp 62) (.tmp 65) 25 5 (.int .u8 0) 1 rfl Try.underlying25 info5 rfl (by decide) (by omega) v62 ([] ++ x.take xi.toNat) (y.drop xi.toNat) _ _ _ (fun _ => True) (fun _ => False) rfl rfl ?aO81 ?aR81 (fun _ _ h => h) (fun _ h => h.elim) ?aF81 ?aB81 ?aS81 ?aL81 ?_
                  case aR81 => exact C_len (by have := XI.out; have := CX.out; have := CY.out; simp only [List.length_take, List.length_drop]; try omega) (Kd.C_below HRd.out H180.out.below)
                  case aB81 => exact H180.out.below
                  case aF81 => exact (fun _ _ => trivial)
                  case aO81 => exact RB.out
                  case aS81 => exact H180.out.below.size
                  case aL81 => have := CX.out; have := CY.out; have := XI.out; simp only [List.length_nil, List.length_take, List.length_drop, List.length_append]; omega
                  intro v66 w181 ho hb_ hg_ hat_
                  have hst_ := Stp.grown (S := fun k => some k = v62.ownBlock) hg_ (fun k hk => hk.symm)
                  have H182 := Aside0.mk (H180.out.stp hst_ (fun k hk => Kd.R_base RB.out k hk.symm) (fun b hb he => by
                    obtain ⟨cells, hc⟩ := Kd.R_typed RB.out b.1 he.symm
                    have h2 := (H180.out.at_ b hb).2
                    rw [hc] at h2
                    simp only [List.mem_cons, List.not_mem_nil, or_false] at hb
                    all_goals (first | (rcases hb with rfl; cases h2) | (subst hb; cases h2))))
                  have RB2_ := Aside0.mk ho
                  clear ho hb_ hg_ hat_ hst_ RB H180
                  have RB := RB2_
                  clear RB2_
                  refine hK.out _ _ trivial (fun hHeld => ?_)
                  clear hK K
                  refine norm_ (a' := ?_) ?_ ?_
                  rotate_left
                  · show Act.put _ (some 66) _ = _
                    simp only [Act.put, List.setIfInBounds_toArray, List.set_cons_zero, List.set_cons_succ, i64_w, i32_w]
                    rfl
                  refine one_ (i := 9) (N := some 67) #[true, true, true, true, true, true, true, true, true, true, true, false] rfl rfl (by kernel_rfl) (by decide) (fun K hK => ?_)
                  obtain ⟨A66, c66, e66⟩ := Kd.R_slice RB.out
                  subst e66
                  have RR := Kd.R_reads' RB.out
                  refine goes_ Try.func19 (by kernel_rfl) rfl #[.slice A66 ([] ++ x.take xi.toNat ++ y.drop xi.toNat).length c66] (by rfl) rfl rfl (by (try simp only [List.map_toArray, List.map_cons, List.map_nil]); first | done | rfl) ?_
                  refine (impl_DecodeFrame.calls _ _ _ r.1 r.2.1 r.2.2.1 r.2.2.2.1 r.2.2.2.2 _ RR.2.2 RR.2.1 HDE.out).mono ?_
                  rintro e w183 ⟨rfl, hb_⟩
                  refine ⟨_, rfl, ?_⟩
                  clear RR
                  have H184 := Aside0.mk (H182.out.step hb_)
                  have n85_ := Aside0.mk (Kd.R_below RB.out hb_)
                  clear RB
                  have RB := n85_
                  clear n85_
                  clear hb_ H182
                  clear RB
                  refine hK.out _ _ trivial (fun hHeld => ?_)
                  clear hK K
                  refine norm_ (a' := ?_) ?_ ?_
                  rotate_left
                  · show Act.put _ (some 67) _ = _
                    simp only [Act.put, List.setIfInBounds_toArray, List.set_cons_zero, List.set_cons_succ, i64_w, i32_w]
                    rfl
                  exact norm_ (by simp only [putAll, Act.put, List.setIfInBounds_toArray, List.set_cons_zero, List.set_cons_succ]) (hCont (g10, v58, v62, .slice A66 ([] ++ x.take xi.toNat ++ y.drop xi.toNat).length c66) _ ⟨hHeld, H184.out⟩)
              rintro ⟨g10, v58, v62, v66⟩ w186 ⟨hHeld, hX_⟩
              have H187 := Aside0.mk hX_
              clear hX_ H139
              refine norm_ (a' := ?_) ?_ ?_
              rotate_left
              · simp only [putAll, Act.put, List.setIfInBounds_toArray, List.set_cons_zero, List.set_cons_succ]
                rfl
              refine last_ (i := 11) (N := none) #[true, true, true, true, true, true, true, true, true, true, true, true] rfl rfl (by kernel_rfl) (by decide) (fun K hK => ?_)
              refine st_step (by rfl) rfl rfl ?hp88 (cs := #[.bool r.1, .int .u32 r.2.1, .int .i64 r.2.2.1, .int .u32 r.2.2.2.1, .int .u32 r.2.2.2.2]) ?hx88 H187.out.gt0 (by kernel_rfl) (rfl) (by simp [Value.oneCell']) ?_
              case hp88 => rfl
              case hx88 => rfl
              intro w188 hb88 hS88
              have H189 := Aside0.mk (H187.out.wr0 (cs' := #[.bool r.1, .int .u32 r.2.1, .int .i64 r.2.2.1, .int .u32 r.2.2.2.1, .int .u32 r.2.2.2.2]) hb88 hS88)
              clear hb88 hS88 H187
              refine hK.out _ _ ?_
              clear hK K
              refine done_ (by kernel_rfl) ?_
              have XE := Aside0.mk HE.out
              have hc0 : w188.cell? ⟨g10, 0, none⟩ = some (.bool r.1) := (blk_cell H189.out.gt0 0).trans rfl
              have hc1 : w188.cell? ⟨g10, 1, none⟩ = some (.int .u32 r.2.1) := (blk_cell H189.out.gt0 1).trans rfl
              have hc2 : w188.cell? ⟨g10, 2, none⟩ = some (.int .i64 r.2.2.1) := (blk_cell H189.out.gt0 2).trans rfl
              have hc3 : w188.cell? ⟨g10, 3, none⟩ = some (.int .u32 r.2.2.2.1) := (blk_cell H189.out.gt0 3).trans rfl
              have hc4 : w188.cell? ⟨g10, 4, none⟩ = some (.int .u32 r.2.2.2.2) := (blk_cell H189.out.gt0 4).trans rfl
              have hx0 : w188.cell? ⟨g5, 0, none⟩ = some (.int .u32 q1) := (pw_cell_below H189.out.below ((blk_cell B5.out 0).trans rfl))
              have hx1 : w188.cell? ⟨g5, 1, none⟩ = some (.int .i64 k1) := (pw_cell_below H189.out.below ((blk_cell B5.out 1).trans rfl))
              have hx2 : w188.cell? ⟨g5, 2, none⟩ = some (.int .u32 a1) := (pw_cell_below H189.out.below ((blk_cell B5.out 2).trans rfl))
              have hx3 : w188.cell? ⟨g5, 3, none⟩ = some (.int .u32 b1) := (pw_cell_below H189.out.below ((blk_cell B5.out 3).trans rfl))
              have hy0 : w188.cell? ⟨g6, 0, none⟩ = some (.int .u32 q2) := (pw_cell_below H189.out.below ((blk_cell B6.out 0).trans rfl))
              have hy1 : w188.cell? ⟨g6, 1, none⟩ = some (.int .i64 k2) := (pw_cell_below H189.out.below ((blk_cell B6.out 1).trans rfl))
              have hy2 : w188.cell? ⟨g6, 2, none⟩ = some (.int .u32 a2) := (pw_cell_below H189.out.below ((blk_cell B6.out 2).trans rfl))
              have hy3 : w188.cell? ⟨g6, 3, none⟩ = some (.int .u32 b2) := (pw_cell_below H189.out.below ((blk_cell B6.out 3).trans rfl))
              have HZ := Aside0.mk (Bx.of H189.out.below)
              clear H189
              have c64 : ∀ b_ : Bool, (xi == 64) = b_ → Aside0 ((xi == 64) = b_) := fun _ h => ⟨h⟩
              have h0_ : (xi == 0) = true ∨ (xi == 0) = false := by cases (xi == 0) <;> simp
              have h64_ : (xi == 64) = true ∨ (xi == 64) = false := by cases (xi == 64) <;> simp
              clear c64
              rcases h64_ with h64 | h64
              · have E_ := ALI.out.1 (by have := beq_iff_eq.mp h64; omega)
                have h0 : (xi == 0) = false := beq_eq_false_iff_ne.mpr (by have := beq_iff_eq.mp h64; omega)
                clear h0_
                subst E_
                dsimp only at hc0 hc1 hc2 hc3 hc4
                go_wp2
                go_roundg k1_
                case measure => omega
                case rel => exact ⟨i + 1, xi + 1, _, rfl, ⟨rfl⟩, ⟨by rw [HE.out]; rfl⟩, ⟨by have := HK.out; omega⟩, ⟨by have := C3.out; omega⟩, HZ⟩
              · rcases h0_ with h0 | h0
                · have E_ := ALI.out.2.1 (by have := beq_iff_eq.mp h0; omega)
                  subst E_
                  dsimp only at hc0 hc1 hc2 hc3 hc4
                  go_wp2
                  go_roundg k1_
                  case measure => omega
                  case rel => exact ⟨i + 1, xi + 1, _, rfl, ⟨rfl⟩, ⟨by rw [HE.out]; rfl⟩, ⟨by have := HK.out; omega⟩, ⟨by have := C3.out; omega⟩, HZ⟩
                · rcases ALI.out.2.2 with E_ | E_ | E_
                  · subst E_
                    dsimp only at hc0 hc1 hc2 hc3 hc4
                    go_wp2
                    go_roundg k1_
                    case measure => omega
                    case rel => exact ⟨i + 1, xi + 1, _, rfl, ⟨rfl⟩, ⟨by rw [HE.out]; rfl⟩, ⟨by have := HK.out; omega⟩, ⟨by have := C3.out; omega⟩, HZ⟩
                  · subst E_
                    dsimp only at hc0 hc1 hc2 hc3 hc4
                    go_wp2
                    go_roundg k1_
                    case measure => omega
                    case rel => exact ⟨i + 1, xi + 1, _, rfl, ⟨rfl⟩, ⟨by rw [HE.out]; rfl⟩, ⟨by have := HK.out; omega⟩, ⟨by have := C3.out; omega⟩, HZ⟩
                  · subst E_
                    dsimp only at hc0 hc1 hc2 hc3 hc4
                    go_wp2
                    go_roundg k1_
                    case measure => omega
                    case rel => exact ⟨i + 1, xi + 1, _, rfl, ⟨rfl⟩, ⟨by rw [HE.out]; rfl⟩, ⟨by have := HK.out; omega⟩, ⟨by have := C3.out; omega⟩, HZ⟩
            · have c3b : decide (xi ≤ 64) = false := decide_eq_false (by omega)
              go_wp2
              go_ret
              exact ⟨rfl, below_step HW.out HX.out.below⟩
    · have cyb : ((y.length : Int) != 64) = true := bne_iff_ne.mpr (by omega)
      clear cy
      go_wp2
      go_ret
      exact ⟨rfl, H135.out.below⟩
  · have cxb : ((x.length : Int) != 64) = true := bne_iff_ne.mpr (by omega)
    clear cx
    go_wp2
    go_ret
    exact ⟨rfl, H135.out.below⟩
set_option maxHeartbeats 8000000 in
set_option maxRecDepth 100000 in
theorem tear_big {A0 : Option Addr} {c0 : Nat} {l0 : List Int} {A1 : Option Addr} {c1 : Nat} {l1 : List Int} {w : World} (h : (l0.length : Int) > 1048576 ∨ (l1.length : Int) > 1048576) :
    Calls Try.prog 5 #[.slice A0 l0.length c0, .slice A1 l1.length c1] w fun e w' => e = .returned (.bool true) ∧ Below w.heap.size w w' := by
  by_cases h0 : (l0.length : Int) > 1048576
  · have z0b : decide (1048576 < (l0.length : Int)) = true := decide_eq_true (by omega)
    clear h h0
    go_enter Try.func5, Try.ntmps5
    go_wp2
    go_ret
    exact ⟨rfl, Below.refl _ _⟩
  · have z0b : decide (1048576 < (l0.length : Int)) = false := decide_eq_false (by omega)
    have z1b : decide (1048576 < (l1.length : Int)) = true := decide_eq_true (by rcases h with h | h <;> omega)
    clear h h0
    go_enter Try.func5, Try.ntmps5
    go_wp2
    go_ret
    exact ⟨rfl, Below.refl _ _⟩
end Go.Proofs.Ytgfadfahbhcllaa.Q
namespace Go.Proofs.Ytgfadfahbhcllaa.P
open Go.RowKit Go.Proofs.YtgfadfahbhcllaaW.PrintWords Go.Proofs.YtgfadfahbhcllaaW.PrintMore Go.Proofs.Ytgfadfahbhcllaa.Q
theorem code_head (q kd a b : Int) : (frameCode q kd a b).take 4 = leB 4 q := rfl
theorem code_tail (q kd a b : Int) : (frameCode q kd a b).drop 60 = leB 4 q := rfl
theorem leB_inj {x y : Int} (hx : 0 ≤ x ∧ x ≤ 4294967295) (hy : 0 ≤ y ∧ y ≤ 4294967295) (h : leB 4 x = leB 4 y) : x = y := by
  have e := congrArg le h
  rw [le_leB4 hx, le_leB4 hy] at e
  exact e
theorem enc_good {q kd a b : Int} (h : (encF q kd a b).length = 64) : 1 ≤ kd ∧ kd ≤ 3 := by
  unfold encF at h
  by_cases hk : 1 ≤ kd ∧ kd ≤ 3
  · exact hk
  · rw [if_neg hk] at h; cases h
theorem torn {q1 k1 a1 b1 q2 k2 a2 b2 : Int} (hf : Fr q1 k1 a1 b1) (hg : Fr q2 k2 a2 b2) (hx : (encF q1 k1 a1 b1).length = 64) (hy : (encF q2 k2 a2 b2).length = 64) (hq : q1 ≠ q2) (i : Nat) (hi : i ≤ 64) :
    (i = 64 → decF ((encF q1 k1 a1 b1).take i ++ (encF q2 k2 a2 b2).drop i) = (true, q1, k1, a1, b1)) ∧ (i = 0 → decF ((encF q1 k1 a1 b1).take i ++ (encF q2 k2 a2 b2).drop i) = (true, q2, k2, a2, b2)) ∧
      (decF ((encF q1 k1 a1 b1).take i ++ (encF q2 k2 a2 b2).drop i) = (true, q1, k1, a1, b1) ∨ decF ((encF q1 k1 a1 b1).take i ++ (encF q2 k2 a2 b2).drop i) = (true, q2, k2, a2, b2) ∨ decF ((encF q1 k1 a1 b1).take i ++ (encF q2 k2 a2 b2).drop i) = (false, 0, 0, 0, 0)) := by
  have kx := enc_good hx
  have ky := enc_good hy
  have d1 := dec_enc hf
  have d2 := dec_enc hg
  rw [if_pos kx] at d1
  rw [if_pos ky] at d2
  have x4 : (encF q1 k1 a1 b1).take 4 = leB 4 q1 := by unfold encF; rw [if_pos kx]; exact code_head _ _ _ _
  have x60 : (encF q1 k1 a1 b1).drop 60 = leB 4 q1 := by unfold encF; rw [if_pos kx]; exact code_tail _ _ _ _
  have y4 : (encF q2 k2 a2 b2).take 4 = leB 4 q2 := by unfold encF; rw [if_pos ky]; exact code_head _ _ _ _
  have y60 : (encF q2 k2 a2 b2).drop 60 = leB 4 q2 := by unfold encF; rw [if_pos ky]; exact code_tail _ _ _ _
  have ux := encF_u8 q1 k1 a1 b1
  have uy := encF_u8 q2 k2 a2 b2
  generalize encF q1 k1 a1 b1 = x at *
  generalize encF q2 k2 a2 b2 = y at *
  have e64 : i = 64 → x.take i ++ y.drop i = x := fun h => by rw [h, List.take_of_length_le (by omega), List.drop_of_length_le (by omega), List.append_nil]
  have e0 : i = 0 → x.take i ++ y.drop i = y := fun h => by rw [h]; rfl
  have hl : (x.take i).length = i := by rw [List.length_take]; omega
  refine ⟨fun h => by rw [e64 h]; exact d1, fun h => by rw [e0 h]; exact d2, ?_⟩
  have ut : U8s (x.take i ++ y.drop i) := app_u8 (ux.take _) (uy.drop _)
  have htl : (x.take i ++ y.drop i).length = 64 := by rw [List.length_append, hl, List.length_drop]; omega
  by_cases hI : isFrame (x.take i ++ y.drop i)
  · have hc := hI.2
    have hqr := num4 ut 0 (by omega)
    have t4 : (x.take i ++ y.drop i).take 4 = leB 4 (fSeq (x.take i ++ y.drop i)) := by
      conv => lhs; rw [← hc]
      exact code_head _ _ _ _
    have t60 : (x.take i ++ y.drop i).drop 60 = leB 4 (fSeq (x.take i ++ y.drop i)) := by
      conv => lhs; rw [← hc]
      exact code_tail _ _ _ _
    have head : 4 ≤ i → (x.take i ++ y.drop i).take 4 = leB 4 q1 := fun h => by
      rw [List.take_append_of_le_length (by omega), List.take_take, Nat.min_eq_left h, x4]
    have tail : i ≤ 60 → (x.take i ++ y.drop i).drop 60 = leB 4 q2 := fun h => by
      rw [List.drop_append, List.drop_of_length_le (by omega), hl, List.nil_append, List.drop_drop, show i + (60 - i) = 60 from by omega, y60]
    by_cases h4 : 4 ≤ i
    · by_cases h60 : i ≤ 60
      · exfalso
        apply hq
        refine leB_inj hf.q hg.q ?_
        rw [← head h4, ← tail h60, t4, t60]
      · left
        have hs : fSeq (x.take i ++ y.drop i) = q1 := leB_inj hqr hf.q (by rw [← t4, head h4])
        rw [hs] at t60
        have e : x.take i ++ y.drop i = x := by
          rw [← List.take_append_drop 60 (x.take i ++ y.drop i), t60, ← x60, List.take_append_of_le_length (by omega), List.take_take, Nat.min_eq_left (by omega), List.take_append_drop]
        rw [e]; exact d1
    · right; left
      have hs : fSeq (x.take i ++ y.drop i) = q2 := leB_inj hqr hg.q (by rw [← t60, tail (by omega)])
      rw [hs] at t4
      have e : x.take i ++ y.drop i = y := by
        rw [← List.take_append_drop 4 (x.take i ++ y.drop i), t4, ← y4, List.drop_append, List.drop_of_length_le (by omega), hl, List.nil_append, List.drop_drop, show i + (4 - i) = 4 from by omega, List.take_append_drop]
      rw [e]; exact d2
  · right; right
    unfold decF
    rw [if_neg (fun h => hI h.2)]
end Go.Proofs.Ytgfadfahbhcllaa.P
namespace Go.Proofs.Ytgfadfahbhcllaa.Pure
open Go.RowKit Go.Proofs.YtgfadfahbhcllaaW.PrintWords Go.Proofs.Ytgfadfahbhcllaa.Q Go.Proofs.Ytgfadfahbhcllaa.P
theorem FnTear {A0 : Option Addr} {c0 : Nat} {l0 : List Int} {A1 : Option Addr} {c1 : Nat} {l1 : List Int} {w : World} (hr0 : Kd.C (Kd.int .u8) w A0 l0.length l0) (hc0 : l0.length ≤ c0) (hr1 : Kd.C (Kd.int .u8) w A1 l1.length l1) (hc1 : l1.length ≤ c1) :
    Calls Try.prog 5 #[.slice A0 l0.length c0, .slice A1 l1.length c1] w fun e w' => e = .returned (.bool true) ∧ Below w.heap.size w w' := by
  by_cases h0 : (l0.length : Int) > 1048576
  · exact tear_big (Or.inl h0)
  by_cases h1 : (l1.length : Int) > 1048576
  · exact tear_big (Or.inr h1)
  obtain ⟨q1, k1, a1, b1, e1, hf⟩ := drawE_ev (l := l0) (by omega)
  obtain ⟨q2, k2, a2, b2, e2, hg⟩ := drawE_ev (l := l1) (by omega)
  obtain ⟨kf, ekf⟩ := e1.ex
  obtain ⟨kg, ekg⟩ := e2.ex
  exact tear_raw hr0 hc0 hr1 hc1 h0 h1 ekf ekg (impl_enc _ _ _ _ hf.q hf.a hf.b) (impl_enc _ _ _ _ hg.q hg.a hg.b) (spec_encE hf) (spec_encE hg) (encF_u8 _ _ _ _) (encF_u8 _ _ _ _) (torn hf hg)
end Go.Proofs.Ytgfadfahbhcllaa.Pure
namespace Go.Proofs.Ytgfadfahbhcllaa.O
open Go.RowKit Go.Proofs.YtgfadfahbhcllaaW.PrintWords

/-- Cells that read as data of type t are cells of the kind d, of a value that meets ok. -/
def Opens {α : Type} (P : Program) (t : TypeId) (d : Kd α) (ok : α → Prop) : Prop :=
  ∀ (H : Type) (enc : TypeId × Value → H) (w : World) (fuel : Nat) (cs : List Value) (y : DataW H × List MemPlace),
    DataW.trod enc P w 0 (fun _ => true) true fuel t cs = some y → ∃ x, d.K w x cs ∧ ok x

section
variable {α β : Type} {P : Program} {t e : TypeId} {d : Kd α} {ok : α → Prop}

theorem opens_int {k : IntKind} (ht : P.underlying t = some (.int k)) : Opens P t (Kd.int k) (fun n => (Lit.int k n).wf = true) := by
  intro H enc w fuel cs y h
  obtain ⟨n, rfl, _, hw⟩ := DataW.trod_int ht h
  exact ⟨n, rfl, hw⟩
theorem opens_bool (ht : P.underlying t = some .bool) : Opens P t Kd.bool (fun _ => True) := by
  intro H enc w fuel cs y h
  obtain ⟨n, rfl, _⟩ := DataW.trod_bool ht h
  exact ⟨n, rfl, trivial⟩
theorem list_of {p : Nat → α → Prop} : ∀ n, (∀ i, i < n → ∃ x, p i x) → ∃ xs : List α, xs.length = n ∧ ∀ i x, xs[i]? = some x → p i x
  | 0, _ => ⟨[], rfl, by simp⟩
  | n + 1, h => by
    obtain ⟨xs, hl, hp⟩ := list_of n (fun i hi => h i (by omega))
    obtain ⟨x, hx⟩ := h n (by omega)
    refine ⟨xs ++ [x], by simp [hl], fun i z hz => ?_⟩
    by_cases hi : i < n
    · rw [List.getElem?_append_left (by omega)] at hz
      exact hp i z hz
    · have : i < n + 1 := by
        have := (List.getElem?_eq_some_iff.1 hz).1
        simp [hl] at this
        exact this
      obtain rfl : i = n := by omega
      rw [List.getElem?_append_right (by omega)] at hz
      simp [hl] at hz
      exact hz ▸ hx
theorem opens_slice (ht : P.underlying t = some (.slice e)) (hc : P.cellsOf e = d.sz) (he : Opens P e d ok) :
    Opens P t (Kd.slice e d) (fun xs => xs.length ≤ 9223372036854775807 ∧ ∀ x ∈ xs, ok x) := by
  intro H enc w fuel cs y h
  rcases DataW.trod_slice ht h with ⟨rfl, _⟩ | ⟨a, len, cap, elems, rest, n, _, rfl, _, _, hl, hm, hlen, hel, _, _⟩
  · exact ⟨[], ⟨none, 0, rfl, Nat.le_refl _, Kd.C_nil d w⟩, by simp, by simp⟩
  · have each : ∀ i, i < len → ∃ x, ∃ c, w.cells? 0 (a.add (i * d.sz)) d.sz = some c ∧ d.K w x c ∧ ok x := by
      intro i hi
      have h1 := hel i hi
      rw [hc, List.getElem?_eq_getElem (by omega)] at h1
      obtain ⟨c, h2, h3⟩ := Option.bind_eq_some_iff.1 h1
      obtain ⟨x, hx, hok⟩ := he H enc w n c _ h3
      exact ⟨x, c, h2, hx, hok⟩
    obtain ⟨xs, hxl, hxs⟩ := list_of len each
    refine ⟨xs, ⟨some a, cap, by rw [hxl], by omega, ?_⟩, by unfold maxLen at hm; omega, fun x hx => ?_⟩
    · refine ⟨rfl, by unfold maxLen at hm; omega, fun _ => ⟨a, rfl, fun j p hp => ?_⟩⟩
      obtain ⟨c, h2, h3, _⟩ := hxs j p hp
      refine ⟨c, d.K_len h3, h3, fun i u hu => ?_⟩
      have hi : i < c.length := (List.getElem?_eq_some_iff.1 hu).1
      have h4 := World.cells?_some h2
      rw [d.K_len h3] at hi
      rw [← Addr.add_add, (h4.2.2 i hi), hu]
    · obtain ⟨i, hi⟩ := List.getElem?_of_mem hx
      obtain ⟨_, _, _, hok⟩ := hxs i x hi
      exact hok
/-- A struct's fields from some field on. -/
def OpensFs {α : Type} (P : Program) (fs : List Field) (off : Nat) (d : Kd α) (ok : α → Prop) : Prop :=
  ∀ (H : Type) (enc : TypeId × Value → H) (w : World) (n : Nat) (cs : List Value) (xs : List (DataW H × List MemPlace)),
    cs.length = off + d.sz → (∀ (i : Nat) (f : Field), fs[i]? = some f → DataW.trod enc P w 0 (fun _ => true) true n f.type ((cs.drop f.offset).take (P.cellsOf f.type)) = xs[i]?) →
    fs.length ≤ xs.length → ∃ x, d.K w x (cs.drop off) ∧ ok x
theorem opensFs_one {f : Field} {off : Nat} (ho : f.offset = off) (hc : P.cellsOf f.type = d.sz) (h : Opens P f.type d ok) : OpensFs P [f] off d ok := by
  intro H enc w n cs xs hl hf hx
  have h1 := hf 0 f rfl
  simp only [List.length_cons, List.length_nil] at hx
  rw [List.getElem?_eq_getElem (by omega)] at h1
  rw [ho, hc, List.take_of_length_le (by simp; omega)] at h1
  exact h H enc w n _ _ h1
theorem opensFs_cons {f : Field} {fs : List Field} {off : Nat} {d2 : Kd β} {ok2 : β → Prop} (ho : f.offset = off) (hc : P.cellsOf f.type = d.sz) (h : Opens P f.type d ok)
    (h2 : OpensFs P fs (off + d.sz) d2 ok2) : OpensFs P (f :: fs) off (Kd.pair d d2) (fun x => ok x.1 ∧ ok2 x.2) := by
  intro H enc w n cs xs hl hf hx
  have hl' : cs.length = off + (d.sz + d2.sz) := hl
  simp only [List.length_cons] at hx
  have h1 := hf 0 f rfl
  rw [List.getElem?_eq_getElem (by omega)] at h1
  rw [ho, hc] at h1
  obtain ⟨x, hxk, hxo⟩ := h H enc w n _ _ h1
  obtain ⟨y, hyk, hyo⟩ := h2 H enc w n cs (xs.drop 1) (by omega) (fun i g hg => by
    have := hf (i + 1) g (by simpa using hg)
    rw [this, List.getElem?_drop]
    congr 1
    omega) (by simp; omega)
  refine ⟨(x, y), ⟨_, _, ?_, hxk, hyk⟩, hxo, hyo⟩
  rw [← List.drop_drop]
  exact (List.take_append_drop _ _).symm
theorem opens_struct {fs : List Field} (ht : P.underlying t = some (.struct fs.toArray)) (hc : P.cellsOf t = d.sz) (h : OpensFs P fs 0 d ok) (f : β → α) (g : α → β) (hfg : ∀ a, f (g a) = a) :
    Opens P t (Kd.iso d f) (fun x => ok (f x)) := by
  intro H enc w fuel cs y h0
  obtain ⟨xs, n, _, _, hlen, hxl, hf⟩ := DataW.trod_struct ht h0
  obtain ⟨a, hk, ho⟩ := h H enc w n cs xs (by omega) (fun i f hi => hf i f (by simpa using hi)) (by simp at hxl; omega)
  refine ⟨g a, ?_, ?_⟩
  · show d.K w (f (g a)) cs
    rw [hfg]
    simpa using hk
  · show ok (f (g a))
    rw [hfg]
    exact ho
end
end Go.Proofs.Ytgfadfahbhcllaa.O
namespace Go.Proofs.Ytgfadfahbhcllaa.Q
open Go.RowKit Go.Proofs.YtgfadfahbhcllaaW.PrintWords Go.Proofs.Ytgfadfahbhcllaa.O
def W24 (x : S24) : Prop := (Lit.int .u32 x.f0).wf = true ∧ (Lit.int .i64 x.f1).wf = true ∧ (Lit.int .u32 x.f2).wf = true ∧ (Lit.int .u32 x.f3).wf = true
theorem opens_T24 : Opens Try.prog 24 k24 W24 := opens_struct Try.underlying24 (by kernel_rfl) (opensFs_cons rfl (by kernel_rfl) (opens_int Try.underlying22) (opensFs_cons rfl (by kernel_rfl) (opens_int Try.underlying2) (opensFs_cons rfl (by kernel_rfl) (opens_int Try.underlying22) (opensFs_one rfl (by kernel_rfl) (opens_int Try.underlying22))))) (fun x : S24 => (x.f0, x.f1, x.f2, x.f3)) (fun a => (⟨a.1, a.2.1, a.2.2.1, a.2.2.2⟩ : S24)) (fun _ => rfl)
def W41 (x : S41) : Prop := (Lit.int .u32 x.f0).wf = true ∧ (Lit.int .u32 x.f1).wf = true ∧ (x.f2.length ≤ 9223372036854775807 ∧ ∀ z_ ∈ x.f2, (Lit.int .i64 z_).wf = true) ∧ (x.f3.length ≤ 9223372036854775807 ∧ ∀ z_ ∈ x.f3, (Lit.int .i64 z_).wf = true)
theorem opens_T41 : Opens Try.prog 41 k41 W41 := opens_struct Try.underlying41 (by kernel_rfl) (opensFs_cons rfl (by kernel_rfl) (opens_int Try.underlying22) (opensFs_cons rfl (by kernel_rfl) (opens_int Try.underlying22) (opensFs_cons rfl (by kernel_rfl) (opens_slice Try.underlying39 (by kernel_rfl) (opens_int Try.underlying2)) (opensFs_one rfl (by kernel_rfl) (opens_slice Try.underlying39 (by kernel_rfl) (opens_int Try.underlying2)))))) (fun x : S41 => (x.f0, x.f1, x.f2, x.f3)) (fun a => (⟨a.1, a.2.1, a.2.2.1, a.2.2.2⟩ : S41)) (fun _ => rfl)
end Go.Proofs.Ytgfadfahbhcllaa.Q
namespace Go.Proofs.Ytgfadfahbhcllaa.fnTear
open Go.ChangeShapes Go.WideShapes Go.ChangeAt Go.RowKit Go.Proofs.Ytgfadfahbhcllaa.Q Go.Proofs.YtgfadfahbhcllaaW.PrintWords Go.Proofs.Ytgfadfahbhcllaa.O
open Go.ChangeMaps (open_string shut_string)
set_option linter.unusedVariables false
theorem own : ownKnob Try.prog.godebug = none := by kernel_rfl
theorem laidOut : laidOutB Try.prog = true := by kernel_rfl
set_option maxRecDepth 100000 in
theorem lifted (os : Os) (started : os.Started) (H : Type) (enc : TypeId × Value → H) :
    ReturnsInHanded {} Try.checked os 5 .any (Rows.fnTearSpec.pre6 enc Try.prog Try.f5 Rows.fnTearRow.domain false) (Rows.fnTearSpec.post enc Try.prog Try.f5 false true false false) := by
  refine returnsInHanded_of_change_sized (C := Try.checked) own started (by kernel_rfl) Try.func5
    (ChangeSpec.witness6 (enc := enc) (C := Try.checked) false ⟨#[], #[.slice none 0 0, .slice none 0 0], []⟩ 8 (by kernel_rfl) (by kernel_rfl) (by kernel_rfl) (by kernel_rfl)) ?_
  intro W base args ds gs before hval0 hW hcnd hsz0 _
  have hval : ∀ (j : Nat) t v, Try.f5.params[j]? = some t → args[j]? = some v → Value.okWide Try.prog W .any base t v := hval0
  have hW' := hW
  obtain ⟨p, q, hA0, hV, rfl, hfz, hnd⟩ := hW
  have hA : DataW.TrodAll enc Try.prog W 0 (fun _ => true) true Try.f5.params.toList args.toList ds p := hA0
  rw [Try.params5] at hA hval
  obtain ⟨v0, vs0, d0, ds0, p0, q0, hargs, rfl, rfl, h0, r0⟩ := trodAll_cons hA
  obtain ⟨v1, vs1, d1, ds1, p1, q1, rfl, rfl, rfl, h1, r1⟩ := trodAll_cons r0
  obtain ⟨rfl, rfl, rfl⟩ := trodAll_nil r1
  obtain rfl : args = #[v0, v1] := by cases args; simp_all
  obtain ⟨rfl, rfl⟩ := trodVars_none hV
  have k0 := h0
  have lt0 : ∀ x ∈ p0, x.block < W.heap.size := by obtain ⟨m, hm⟩ := k0; exact DataW.trod_lt m _ _ _ hm
  obtain ⟨a0, len0, cap0, rfl⟩ := okWide_slice Try.underlying25 (hval 0 25 v0 rfl rfl)
  obtain ⟨l0, ⟨A0, c0, he0, m0, g0⟩, w0⟩ : ∃ x, ((Kd.slice 5 (Kd.int .u8))).K W x [.slice a0 len0 cap0] ∧ (x.length ≤ 9223372036854775807 ∧ ∀ z_ ∈ x, (Lit.int .u8 z_).wf = true) := by
    obtain ⟨fuel, hf⟩ := h0
    exact (opens_slice Try.underlying25 (by kernel_rfl) (opens_int Try.underlying5)) H enc W fuel _ _ hf
  obtain ⟨rfl, rfl, rfl⟩ : a0 = A0 ∧ len0 = l0.length ∧ cap0 = c0 := by simpa using he0
  have k1 := h1
  have lt1 : ∀ x ∈ p1, x.block < W.heap.size := by obtain ⟨m, hm⟩ := k1; exact DataW.trod_lt m _ _ _ hm
  obtain ⟨a1, len1, cap1, rfl⟩ := okWide_slice Try.underlying25 (hval 1 25 v1 rfl rfl)
  obtain ⟨l1, ⟨A1, c1, he1, m1, g1⟩, w1⟩ : ∃ x, ((Kd.slice 5 (Kd.int .u8))).K W x [.slice a1 len1 cap1] ∧ (x.length ≤ 9223372036854775807 ∧ ∀ z_ ∈ x, (Lit.int .u8 z_).wf = true) := by
    obtain ⟨fuel, hf⟩ := h1
    exact (opens_slice Try.underlying25 (by kernel_rfl) (opens_int Try.underlying5)) H enc W fuel _ _ hf
  obtain ⟨rfl, rfl, rfl⟩ : a1 = A1 ∧ len1 = l1.length ∧ cap1 = c1 := by simpa using he1
  clear hA0 hval0 hsz0
  refine (Pure.FnTear g0 m0 g1 m1).mono fun e W' ⟨he, bel⟩ => ?_
  subst he
  exact ⟨_, rfl, _, _, _, [], _, [], hW', trodAll_mk1 (shut_bool Try.underlying4 _), (trodAll_cons_mk (Below.trod laidOut (by kernel_rfl) (of_decide_eq_true (by kernel_rfl)) k0 bel lt0) (trodAll_cons_mk (Below.trod laidOut (by kernel_rfl) (of_decide_eq_true (by kernel_rfl)) k1 bel lt1) trodAll_mk0)), rfl, bel.frame _, fun h => by cases h⟩
theorem over : Rows.fnTearRow.holds Try.pinned (OpenSpec.ofChange Rows.fnTearSpec) :=
  OpenClaim.holds_of_wide 5 Try.f5 rfl rfl rfl rfl rfl rfl rfl ⟨rfl, rfl, rfl, rfl, rfl⟩ rfl rfl rfl rfl rfl (by kernel_rfl) Try.func5 (by kernel_rfl)
    (of_decide_eq_true (by kernel_rfl)) (by unfold Func.isWrapper; first | (rw [if_pos (by decide +kernel)]; kernel_rfl) | (rw [if_neg (by decide +kernel)]; exact ⟨rfl, rfl⟩))
    (fun os started H enc _ => lifted os started H enc)
theorem proved : Rows.FnTearSaid := over
#print axioms proved
end Go.Proofs.Ytgfadfahbhcllaa.fnTear
namespace Go.Proofs.Ytgfadfahbhcllaa
/-- The row, under a short name, for the claim. -/
theorem fnTear_holds : Rows.FnTearSaid := fnTear.proved
end Go.Proofs.Ytgfadfahbhcllaa
