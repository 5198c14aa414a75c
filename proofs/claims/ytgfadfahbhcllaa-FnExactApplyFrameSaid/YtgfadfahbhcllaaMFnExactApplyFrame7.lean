/- Part 7 of 8 of the proof that the law FnExactApplyFrame returns true at every input. No further condition. -/
import Derived.Test.YtgfadfahbhcllaaMFnExactApplyFrame6
section
namespace Go.Proofs.Ytgfadfahbhcllaa.P
open Go.RowKit Go.Proofs.YtgfadfahbhcllaaW.PrintWords Go.Proofs.YtgfadfahbhcllaaW.PrintMore Go.Proofs.Ytgfadfahbhcllaa.Q
def applySzS (d u : List Int) (a : Int) (t : List TR) (A B : Int) : Prop := (d.length ≤ 1048576 ∧ u.length ≤ 1048576 ∧ t.length ≤ 1048576) ∧ (0 ≤ A ∧ A ≤ 4294967295) ∧ (0 ≤ B ∧ B ≤ 4294967295) ∧ a ≤ 9223372036854775807
instance (d u : List Int) (a : Int) (t : List TR) (A B : Int) : Decidable (applySzS d u a t A B) := by unfold applySzS; infer_instance
end Go.Proofs.Ytgfadfahbhcllaa.P
namespace Go.Proofs.Ytgfadfahbhcllaa.Q
open Go.RowKit Go.Proofs.YtgfadfahbhcllaaW.PrintWords Go.Proofs.YtgfadfahbhcllaaW.PrintLast Go.Proofs.YtgfadfahbhcllaaW.PrintMore Go.Proofs.Ytgfadfahbhcllaa.LK
set_option linter.unusedVariables false
set_option linter.unusedSimpArgs false
def spec_ApplyFrame.f (k : Nat) (d : List Int) (u : List Int) (a : Int) (t : List P.TR) (q : Int) (kd : Int) (A : Int) (B : Int) : Option (Bool × List Int × List Int × Int × (List P.TR)) := if P.applySzS d u a t A B then some (P.applyS d u a t kd A B) else none
set_option maxHeartbeats 8000000 in
set_option maxRecDepth 100000 in
theorem spec_ApplyFrame.calls (k : Nat) (A0_0 : Option Addr) (c0_0 : Nat) (d : List Int) (A0_1 : Option Addr) (c0_1 : Nat) (u : List Int) (a : Int) (A0_3 : Option Addr) (c0_3 : Nat) (t : List P.TR) (q : Int) (kd : Int) (A : Int) (B : Int) (r1 : Bool) (r2 : List Int) (r3 : List Int) (r4 : Int) (r5 : List P.TR) (w : World) (hr0_0 : Kd.C (Kd.int .i64) w A0_0 d.length d) (hc0_0 : d.length ≤ c0_0) (hr0_1 : Kd.C (Kd.int .i64) w A0_1 u.length u) (hc0_1 : u.length ≤ c0_1) (hr0_3 : Kd.C k111 w A0_3 t.length t) (hc0_3 : t.length ≤ c0_3) (h : spec_ApplyFrame.f k d u a t q kd A B = some (r1, r2, r3, r4, r5)) :
    Calls Try.prog 39 #[.agg #[.slice A0_0 d.length c0_0, .slice A0_1 u.length c0_1, .int .i64 a, .slice A0_3 t.length c0_3], .agg #[.int .u32 q, .int .i64 kd, .int .u32 A, .int .u32 B]] w fun e w' => ∃ v1_ v2_ v4_ : Value, e = .returned (.agg #[.bool r1, v1_, v2_, .int .i64 r4, v4_]) ∧ Kd.R (Kd.int .i64) 2 w' w.heap.size (fun k_ => some k_ ≠ (v2_ : Value).ownBlock) v1_ r2 ∧ Kd.R (Kd.int .i64) 2 w' w.heap.size (fun k_ => some k_ ≠ (v1_ : Value).ownBlock) v2_ r3 ∧ Kd.R k111 111 w' w.heap.size (fun _ => True) v4_ r5 ∧ Below w.heap.size w w' := by
  unfold spec_ApplyFrame.f at h
  by_cases hsz : P.applySzS d u a t A B
  case neg => rw [if_neg hsz] at h; cases h
  rw [if_pos hsz] at h
  have h := Option.some.inj h
  have H := Aside0.mk h
  have HSz := Aside0.mk hsz
  have HR0 := Aside0.mk hr0_0
  have HR1 := Aside0.mk hr0_1
  have HR3 := Aside0.mk hr0_3
  have HC0 := Aside0.mk hc0_0
  have HC1 := Aside0.mk hc0_1
  have HC3 := Aside0.mk hc0_3
  have HCl := Aside0.mk (show spec_l5Copy.f d u a t = some (d, u, a, t) from by
    simp only [spec_l5Copy.f, Option.bind_some, List.nil_append]
    rw [if_pos (by rw [List.length_nil]; have := hsz.1; omega), if_pos (by rw [List.length_nil]; have := hsz.1; omega), if_pos (by rw [List.length_nil]; have := hsz.1; omega)])
  obtain ⟨kV, hkV⟩ := (P.spec_state_ev d u a t hsz.1.1 hsz.1.2.1 hsz.1.2.2 hsz.2.2.2).ex
  obtain ⟨kD, hkD⟩ := (P.holds_ev d A (Nat.le_trans hsz.1.1 (by decide))).ex
  obtain ⟨kU, hkU⟩ := (P.holds_ev u A (Nat.le_trans hsz.1.2.1 (by decide))).ex
  obtain ⟨kWd, hkWd⟩ := (P.spec_with_ev d A (Nat.le_trans hsz.1.1 (by decide))).ex
  obtain ⟨kWu, hkWu⟩ := (P.spec_with_ev u A (Nat.le_trans hsz.1.2.1 (by decide))).ex
  obtain ⟨kOd, hkOd⟩ := (P.spec_without_ev d A (Nat.le_trans hsz.1.1 (by decide))).ex
  have HKV := Aside0.mk hkV
  have HKD := Aside0.mk hkD
  have HKU := Aside0.mk hkU
  have HKWd := Aside0.mk hkWd
  have HKWu := Aside0.mk hkWu
  have HKOd := Aside0.mk hkOd
  have H0 := Aside0.mk (Bx.refl w)
  have jA : IntKind.i64.wrap A = A := by have := hsz.2.1; rw [IntKind.wrap_i64]; omega
  have jB : IntKind.i64.wrap B = B := by have := hsz.2.2.1; rw [IntKind.wrap_i64]; omega
  clear h hsz hr0_0 hr0_1 hr0_3 hc0_0 hc0_1 hc0_3 hkV hkD hkU hkWd hkWu hkOd
  go_enter Try.func39, Try.ntmps39
  go_wp2_with (first | ((with_reducible refine gate_dst (N := 2) rfl ?_); refine Aside0.out ?_))
  refine Aside0.mk ?_
  refine mk ?hw1 (N := 2) ?hd1 (cs := #[.slice A0_0 d.length c0_0, .slice A0_1 u.length c0_1, .int .i64 a, .slice A0_3 t.length c0_3]) (t := 62) ?hr1 ?_
  case hd1 => rfl
  case hw1 => rfl
  case hr1 => first | (go_simp; done) | (go_simp; rfl)
  intro g2 hg2_ w101 hb1 hB1
  have H102 := Aside0.mk (H0.out.new hg2_ hb1 hB1)
  clear hg2_ hb1 hB1 H0
  go_wp2_with (first | ((with_reducible refine gate_dst (N := 3) rfl ?_); refine Aside0.out ?_))
  refine Aside0.mk ?_
  refine mk ?hw3 (N := 3) ?hd3 (cs := #[.int .u32 q, .int .i64 kd, .int .u32 A, .int .u32 B]) (t := 27) ?hr3 ?_
  case hd3 => rfl
  case hw3 => rfl
  case hr3 => first | (go_simp; done) | (go_simp; rfl)
  intro g3 hg3_ w103 hb3 hB3
  have H104 := Aside0.mk (H102.out.new hg3_ hb3 hB3)
  clear hg3_ hb3 hB3 H102
  go_wp2_with (first | ((with_reducible refine gate_dst (N := 4) rfl ?_); refine Aside0.out ?_))
  refine Aside0.mk ?_
  refine mk ?hw5 (N := 4) ?hd5 (cs := #[.bool false, .slice none 0 0, .slice none 0 0, .int .i64 0, .slice none 0 0]) (t := 64) ?hr5 ?_
  case hd5 => rfl
  case hw5 => rfl
  case hr5 => first | (go_simp; done) | (go_simp; rfl)
  intro g4 hg4_ w105 hb5 hB5
  have H106 := Aside0.mk (H104.out.new hg4_ hb5 hB5)
  clear hg4_ hb5 hB5 H104
  go_wp2_with (first | ((with_reducible refine gate_dst (N := 7) rfl ?_); refine Aside0.out ?_))
  refine Aside0.mk ?_
  refine ld ?hw7 rfl ?hx7 H106.out.gt2 Try.underlying62 rfl (by kernel_rfl) ?_
  case hw7 => rfl
  case hx7 => rfl
  go_wp2_with (first | ((with_reducible refine gate_callee (f := 76) rfl ?_); refine Aside0.out ?_))
  refine Aside0.mk ?_
  refine goesW (some 8) rfl ?hw8 Try.func76 (by kernel_rfl) rfl #[.agg #[.slice A0_0 d.length c0_0, .slice A0_1 u.length c0_1, .int .i64 a, .slice A0_3 t.length c0_3]] rfl (by (try simp only [List.map_toArray, List.map_cons, List.map_nil]); first | done | rfl) ?_
  case hw8 => rfl
  refine (spec_ValidState.calls kV _ _ d _ _ u a _ _ t _ _ (Kd.C_below HR0.out H106.out.below) HC0.out (Kd.C_below HR1.out H106.out.below) HC1.out (Kd.C_below HR3.out H106.out.below) HC3.out HKV.out).mono ?_
  rintro e w108 ⟨rfl, hb_⟩
  refine ⟨_, rfl, ?_⟩
  have H109 := Aside0.mk (H106.out.step hb_)
  clear hb_ H106
  cases hv : P.validS d u a t with
  | false =>
    have HV := Aside0.mk hv
    clear hv
    have hr_ : P.applyS d u a t kd A B = (false, [], [], 0, []) := P.applyS_bad HV.out
    have h := H.out
    rw [hr_] at h
    clear H hr_
    simp only [Prod.mk.injEq] at h
    obtain ⟨rfl, rfl, rfl, rfl, rfl⟩ := h
    go_wp2_with (first | ((with_reducible refine gate_store (t := 64) (p := 4) rfl ?_); refine Aside0.out ?_))
    refine Aside0.mk ?_
    refine st_all ?hw10 ?hN10 rfl ?hp10 (cs := #[.bool false, .slice none 0 0, .slice none 0 0, .int .i64 0, .slice none 0 0]) ?hx10 H109.out.gt0 (by kernel_rfl) rfl (by simp [Value.oneCell']) ?_
    case hw10 => rfl
    case hN10 => rfl
    case hp10 => rfl
    case hx10 => first | rfl | (go_simp; rfl)
    intro w110 hb10 hS10
    have H111 := Aside0.mk (H109.out.wr0 (cs' := #[.bool false, .slice none 0 0, .slice none 0 0, .int .i64 0, .slice none 0 0]) hb10 hS10)
    clear hb10 hS10 H109
    go_wp2
    refine bodyPost_ret (results_cell_row rfl _ _ g4 64 #[.bool false, .slice none 0 0, .slice none 0 0, .int .i64 0, .slice none 0 0] (0, 0) _ rfl H111.out.gt0 Try.underlying64 rfl (by kernel_rfl)) rfl ?_
    exact ⟨_, _, _, rfl, Kd.R_nil _ _ _ _ _, Kd.R_nil _ _ _ _ _, Kd.R_nil _ _ _ _ _, H111.out.below⟩
  | true =>
    obtain ⟨hv1, hv2, hv3, hv4, hv5, -, -⟩ := P.validS_iff.1 hv
    have HLd := Aside0.mk (P.goodS_length hv1)
    have HLu := Aside0.mk (P.goodS_length hv3)
    have HV5 := Aside0.mk (show 0 ≤ a ∧ a = (u.length : Int) - t.length from ⟨hv4, hv5⟩)
    have HV := Aside0.mk hv
    have jL : IntKind.i64.wrap (a + (t.length : Int)) = (u.length : Int) := by have := P.goodS_length hv3; rw [IntKind.wrap_i64]; omega
    clear hv hv1 hv2 hv3 hv4 hv5
    go_wp2_with (first | ((with_reducible refine gate_dst (N := 11) rfl ?_); refine Aside0.out ?_))
    refine Aside0.mk ?_
    refine ld ?hw12 rfl ?hx12 H109.out.gt2 Try.underlying62 rfl (by kernel_rfl) ?_
    case hw12 => rfl
    case hx12 => rfl
    go_wp2_with (first | ((with_reducible refine gate_callee (f := 77) rfl ?_); refine Aside0.out ?_))
    refine Aside0.mk ?_
    refine goesW (some 12) rfl ?hw13 Try.func77 (by kernel_rfl) rfl #[.agg #[.slice A0_0 d.length c0_0, .slice A0_1 u.length c0_1, .int .i64 a, .slice A0_3 t.length c0_3]] rfl (by (try simp only [List.map_toArray, List.map_cons, List.map_nil]); first | done | rfl) ?_
    case hw13 => rfl
    refine (spec_l5Copy.calls _ _ d _ _ u a _ _ t _ _ _ _ _ (Kd.C_below HR0.out H109.out.below) HC0.out (Kd.C_below HR1.out H109.out.below) HC1.out (Kd.C_below HR3.out H109.out.below) HC3.out HCl.out).mono ?_
    rintro e w113 ⟨v0, v1, v3, rfl, ho0, ho1, ho3, hb_⟩
    refine ⟨_, rfl, ?_⟩
    obtain ⟨A0, c0, e0⟩ := Kd.R_slice ho0
    obtain ⟨A1, c1, e1⟩ := Kd.R_slice ho1
    obtain ⟨A3, c3, e3⟩ := Kd.R_slice ho3
    subst e0 e1 e3
    have HSx := Aside0.mk (show St w113 w.heap.size (.slice A0 d.length c0) (.slice A1 u.length c1) (.slice A3 t.length c3) d u t from ⟨Kd.R_lower ho0 H109.out.below.size, Kd.R_lower ho1 H109.out.below.size, Kd.R_lower ho3 H109.out.below.size⟩)
    clear ho0 ho1 ho3
    have H114 := Aside0.mk (H109.out.step hb_)
    clear hb_ H109
    go_wp2_with (first | ((with_reducible refine gate_dst (N := 5) rfl ?_); refine Aside0.out ?_))
    refine Aside0.mk ?_
    refine mk ?hw15 (N := 5) ?hd15 (cs := #[.slice none 0 0, .slice none 0 0, .int .i64 0, .slice none 0 0]) (t := 62) ?hr15 ?_
    case hd15 => rfl
    case hw15 => rfl
    case hr15 => first | (go_simp; done) | (go_simp; rfl)
    intro g5 hg5_ w115 hb15 hB15
    have H116 := Aside0.mk (H114.out.new hg5_ hb15 hB15)
    have n17_ := Aside0.mk (St.below HSx.out hB15)
    clear HSx
    have HSx := n17_
    clear n17_
    clear hg5_ hb15 hB15 H114
    go_wp2_with (first | ((with_reducible refine gate_store (t := 62) (p := 5) rfl ?_); refine Aside0.out ?_))
    refine Aside0.mk ?_
    refine st_all ?hw18 ?hN18 rfl ?hp18 (cs := #[.slice A0 d.length c0, .slice A1 u.length c1, .int .i64 a, .slice A3 t.length c3]) ?hx18 H116.out.gt0 (by kernel_rfl) rfl (by simp [Value.oneCell']) ?_
    case hw18 => rfl
    case hN18 => rfl
    case hp18 => rfl
    case hx18 => first | rfl | (go_simp; rfl)
    intro w118 hb18 hS18
    have H119 := Aside0.mk (H116.out.wr0 (cs' := #[.slice A0 d.length c0, .slice A1 u.length c1, .int .i64 a, .slice A3 t.length c3]) hb18 hS18)
    have n20_ := Aside0.mk (St.other HSx.out H116.out.gt0 (by decide) hS18)
    clear HSx
    have HSx := n20_
    clear n20_
    clear hb18 hS18 H116
    by_cases k1 : kd = 1
    · subst k1
      by_cases cA : A < 256
      · have cAb : decide (256 ≤ A) = false := decide_eq_false (by omega)
        have CA := Aside0.mk cA
        clear cA
        have hc0 : w118.cell? ⟨g2, 0, none⟩ = some (.slice A0_0 d.length c0_0) := (blk_cell H119.out.gt3 0).trans rfl
        have hc1 : w118.cell? ⟨g2, 1, none⟩ = some (.slice A0_1 u.length c0_1) := (blk_cell H119.out.gt3 1).trans rfl
        have hc2 : w118.cell? ⟨g2, 2, none⟩ = some (.int .i64 a) := (blk_cell H119.out.gt3 2).trans rfl
        have hc3 : w118.cell? ⟨g2, 3, none⟩ = some (.slice A0_3 t.length c0_3) := (blk_cell H119.out.gt3 3).trans rfl
        have hf1 : w118.cell? ⟨g3, 1, none⟩ = some (.int .i64 1) := (blk_cell H119.out.gt2 1).trans rfl
        have hf2 : w118.cell? ⟨g3, 2, none⟩ = some (.int .u32 A) := (blk_cell H119.out.gt2 2).trans rfl
        have hf3 : w118.cell? ⟨g3, 3, none⟩ = some (.int .u32 B) := (blk_cell H119.out.gt2 3).trans rfl
        have hc5 : w118.cell? ⟨g5, 3, none⟩ = some (.slice A3 t.length c3) := (blk_cell H119.out.gt0 3).trans rfl
        go_wp2_with (first | ((with_reducible refine gate_callee (f := 78) rfl ?_); refine Aside0.out ?_))
        refine Aside0.mk ?_
        refine goesW (some 26) rfl ?hw21 Try.func78 (by kernel_rfl) rfl #[.slice A0_1 u.length c0_1, .int .i64 A] rfl (by (try simp only [List.map_toArray, List.map_cons, List.map_nil]); first | done | rfl) ?_
        case hw21 => rfl
        refine (spec_l5Holds.calls _ _ _ u A _ _ (Kd.C_below HR1.out H119.out.below) HC1.out HKU.out).mono ?_
        rintro e w121 ⟨rfl, hd_⟩
        refine ⟨_, rfl, ?_⟩
        have hb_ := hd_.below
        clear hd_
        clear hc0 hc1 hc2 hc3 hf1 hf2 hf3 hc5
        have H122 := Aside0.mk (H119.out.step hb_)
        have n23_ := Aside0.mk (St.below HSx.out hb_)
        clear HSx
        have HSx := n23_
        clear n23_
        clear hb_ H119
        by_cases mU : A ∈ u
        · have MU := Aside0.mk mU
          rw [decide_eq_true mU]
          clear mU
          have hc0 : w121.cell? ⟨g2, 0, none⟩ = some (.slice A0_0 d.length c0_0) := (blk_cell H122.out.gt3 0).trans rfl
          have hc1 : w121.cell? ⟨g2, 1, none⟩ = some (.slice A0_1 u.length c0_1) := (blk_cell H122.out.gt3 1).trans rfl
          have hc2 : w121.cell? ⟨g2, 2, none⟩ = some (.int .i64 a) := (blk_cell H122.out.gt3 2).trans rfl
          have hc3 : w121.cell? ⟨g2, 3, none⟩ = some (.slice A0_3 t.length c0_3) := (blk_cell H122.out.gt3 3).trans rfl
          have hf1 : w121.cell? ⟨g3, 1, none⟩ = some (.int .i64 1) := (blk_cell H122.out.gt2 1).trans rfl
          have hf2 : w121.cell? ⟨g3, 2, none⟩ = some (.int .u32 A) := (blk_cell H122.out.gt2 2).trans rfl
          have hf3 : w121.cell? ⟨g3, 3, none⟩ = some (.int .u32 B) := (blk_cell H122.out.gt2 3).trans rfl
          have hc5 : w121.cell? ⟨g5, 3, none⟩ = some (.slice A3 t.length c3) := (blk_cell H122.out.gt0 3).trans rfl
          have hr_ : P.applyS d u a t 1 A B = (false, [], [], 0, []) := P.applyS_none (by unfold P.takeS; rw [if_pos rfl, if_pos (.inr (.inl MU.out))])
          have h := H.out
          rw [hr_] at h
          clear H hr_
          simp only [Prod.mk.injEq] at h
          obtain ⟨rfl, rfl, rfl, rfl, rfl⟩ := h
          go_wp2_with (first | ((with_reducible refine gate_store (t := 64) (p := 4) rfl ?_); refine Aside0.out ?_))
          refine Aside0.mk ?_
          refine st_all ?hw24 ?hN24 rfl ?hp24 (cs := #[.bool false, .slice none 0 0, .slice none 0 0, .int .i64 0, .slice none 0 0]) ?hx24 H122.out.gt1 (by kernel_rfl) rfl (by simp [Value.oneCell']) ?_
          case hw24 => rfl
          case hN24 => rfl
          case hp24 => rfl
          case hx24 => first | rfl | (go_simp; rfl)
          intro w124 hb24 hS24
          have H125 := Aside0.mk (H122.out.wr1 (cs' := #[.bool false, .slice none 0 0, .slice none 0 0, .int .i64 0, .slice none 0 0]) hb24 hS24)
          have n26_ := Aside0.mk (St.other HSx.out H122.out.gt1 (by decide) hS24)
          clear HSx
          have HSx := n26_
          clear n26_
          clear hb24 hS24 H122
          go_wp2
          refine bodyPost_ret (results_cell_row rfl _ _ g4 64 #[.bool false, .slice none 0 0, .slice none 0 0, .int .i64 0, .slice none 0 0] (0, 0) _ rfl H125.out.gt1 Try.underlying64 rfl (by kernel_rfl)) rfl ?_
          exact ⟨_, _, _, rfl, Kd.R_nil _ _ _ _ _, Kd.R_nil _ _ _ _ _, Kd.R_nil _ _ _ _ _, H125.out.below⟩
        · have MU := Aside0.mk mU
          rw [decide_eq_false mU]
          clear mU
          have hc0 : w121.cell? ⟨g2, 0, none⟩ = some (.slice A0_0 d.length c0_0) := (blk_cell H122.out.gt3 0).trans rfl
          have hc1 : w121.cell? ⟨g2, 1, none⟩ = some (.slice A0_1 u.length c0_1) := (blk_cell H122.out.gt3 1).trans rfl
          have hc2 : w121.cell? ⟨g2, 2, none⟩ = some (.int .i64 a) := (blk_cell H122.out.gt3 2).trans rfl
          have hc3 : w121.cell? ⟨g2, 3, none⟩ = some (.slice A0_3 t.length c0_3) := (blk_cell H122.out.gt3 3).trans rfl
          have hf1 : w121.cell? ⟨g3, 1, none⟩ = some (.int .i64 1) := (blk_cell H122.out.gt2 1).trans rfl
          have hf2 : w121.cell? ⟨g3, 2, none⟩ = some (.int .u32 A) := (blk_cell H122.out.gt2 2).trans rfl
          have hf3 : w121.cell? ⟨g3, 3, none⟩ = some (.int .u32 B) := (blk_cell H122.out.gt2 3).trans rfl
          have hc5 : w121.cell? ⟨g5, 3, none⟩ = some (.slice A3 t.length c3) := (blk_cell H122.out.gt0 3).trans rfl
          go_wp2_with (first | ((with_reducible refine gate_callee (f := 78) rfl ?_); refine Aside0.out ?_))
          refine Aside0.mk ?_
          refine goesW (some 32) rfl ?hw27 Try.func78 (by kernel_rfl) rfl #[.slice A0_0 d.length c0_0, .int .i64 A] rfl (by (try simp only [List.map_toArray, List.map_cons, List.map_nil]); first | done | rfl) ?_
          case hw27 => rfl
          refine (spec_l5Holds.calls _ _ _ d A _ _ (Kd.C_below HR0.out H122.out.below) HC0.out HKD.out).mono ?_
          rintro e w127 ⟨rfl, hd_⟩
          refine ⟨_, rfl, ?_⟩
          have hb_ := hd_.below
          clear hd_
          clear hc0 hc1 hc2 hc3 hf1 hf2 hf3 hc5
          have H128 := Aside0.mk (H122.out.step hb_)
          have n29_ := Aside0.mk (St.below HSx.out hb_)
          clear HSx
          have HSx := n29_
          clear n29_
          clear hb_ H122
          by_cases mD : A ∈ d
          · have MD := Aside0.mk mD
            rw [decide_eq_true mD]
            clear mD
            have hc0 : w127.cell? ⟨g2, 0, none⟩ = some (.slice A0_0 d.length c0_0) := (blk_cell H128.out.gt3 0).trans rfl
            have hc1 : w127.cell? ⟨g2, 1, none⟩ = some (.slice A0_1 u.length c0_1) := (blk_cell H128.out.gt3 1).trans rfl
            have hc2 : w127.cell? ⟨g2, 2, none⟩ = some (.int .i64 a) := (blk_cell H128.out.gt3 2).trans rfl
            have hc3 : w127.cell? ⟨g2, 3, none⟩ = some (.slice A0_3 t.length c0_3) := (blk_cell H128.out.gt3 3).trans rfl
            have hf1 : w127.cell? ⟨g3, 1, none⟩ = some (.int .i64 1) := (blk_cell H128.out.gt2 1).trans rfl
            have hf2 : w127.cell? ⟨g3, 2, none⟩ = some (.int .u32 A) := (blk_cell H128.out.gt2 2).trans rfl
            have hf3 : w127.cell? ⟨g3, 3, none⟩ = some (.int .u32 B) := (blk_cell H128.out.gt2 3).trans rfl
            have hc5 : w127.cell? ⟨g5, 3, none⟩ = some (.slice A3 t.length c3) := (blk_cell H128.out.gt0 3).trans rfl
            have hr_ : P.applyS d u a t 1 A B = (false, [], [], 0, []) := P.applyS_none (by unfold P.takeS; rw [if_pos rfl, if_pos (.inr (.inr MD.out))])
            have h := H.out
            rw [hr_] at h
            clear H hr_
            simp only [Prod.mk.injEq] at h
            obtain ⟨rfl, rfl, rfl, rfl, rfl⟩ := h
            go_wp2_with (first | ((with_reducible refine gate_store (t := 64) (p := 4) rfl ?_); refine Aside0.out ?_))
            refine Aside0.mk ?_
            refine st_all ?hw30 ?hN30 rfl ?hp30 (cs := #[.bool false, .slice none 0 0, .slice none 0 0, .int .i64 0, .slice none 0 0]) ?hx30 H128.out.gt1 (by kernel_rfl) rfl (by simp [Value.oneCell']) ?_
            case hw30 => rfl
            case hN30 => rfl
            case hp30 => rfl
            case hx30 => first | rfl | (go_simp; rfl)
            intro w130 hb30 hS30
            have H131 := Aside0.mk (H128.out.wr1 (cs' := #[.bool false, .slice none 0 0, .slice none 0 0, .int .i64 0, .slice none 0 0]) hb30 hS30)
            have n32_ := Aside0.mk (St.other HSx.out H128.out.gt1 (by decide) hS30)
            clear HSx
            have HSx := n32_
            clear n32_
            clear hb30 hS30 H128
            go_wp2
            refine bodyPost_ret (results_cell_row rfl _ _ g4 64 #[.bool false, .slice none 0 0, .slice none 0 0, .int .i64 0, .slice none 0 0] (0, 0) _ rfl H131.out.gt1 Try.underlying64 rfl (by kernel_rfl)) rfl ?_
            exact ⟨_, _, _, rfl, Kd.R_nil _ _ _ _ _, Kd.R_nil _ _ _ _ _, Kd.R_nil _ _ _ _ _, H131.out.below⟩
          · have MD := Aside0.mk mD
            rw [decide_eq_false mD]
            clear mD
            have hc0 : w127.cell? ⟨g2, 0, none⟩ = some (.slice A0_0 d.length c0_0) := (blk_cell H128.out.gt3 0).trans rfl
            have hc1 : w127.cell? ⟨g2, 1, none⟩ = some (.slice A0_1 u.length c0_1) := (blk_cell H128.out.gt3 1).trans rfl
            have hc2 : w127.cell? ⟨g2, 2, none⟩ = some (.int .i64 a) := (blk_cell H128.out.gt3 2).trans rfl
            have hc3 : w127.cell? ⟨g2, 3, none⟩ = some (.slice A0_3 t.length c0_3) := (blk_cell H128.out.gt3 3).trans rfl
            have hf1 : w127.cell? ⟨g3, 1, none⟩ = some (.int .i64 1) := (blk_cell H128.out.gt2 1).trans rfl
            have hf2 : w127.cell? ⟨g3, 2, none⟩ = some (.int .u32 A) := (blk_cell H128.out.gt2 2).trans rfl
            have hf3 : w127.cell? ⟨g3, 3, none⟩ = some (.int .u32 B) := (blk_cell H128.out.gt2 3).trans rfl
            have hc5 : w127.cell? ⟨g5, 3, none⟩ = some (.slice A3 t.length c3) := (blk_cell H128.out.gt0 3).trans rfl
            go_wp2_with (first | ((with_reducible refine gate_callee (f := 79) rfl ?_); refine Aside0.out ?_))
            refine Aside0.mk ?_
            refine goesW (some 38) rfl ?hw33 Try.func79 (by kernel_rfl) rfl #[.slice A0_1 u.length c0_1, .int .i64 A] rfl (by (try simp only [List.map_toArray, List.map_cons, List.map_nil]); first | done | rfl) ?_
            case hw33 => rfl
            refine (spec_l5With.calls _ _ _ u A _ _ (Kd.C_below HR1.out H128.out.below) HC1.out HKWu.out).mono ?_
            rintro e w133 ⟨v9, rfl, hr_, hb_⟩
            refine ⟨_, rfl, ?_⟩
            clear hc0 hc1 hc2 hc3 hf1 hf2 hf3 hc5
            obtain ⟨A4, c4, e4⟩ := Kd.R_slice hr_
            subst e4
            have HS2_ := Aside0.mk (St.newU HSx.out H128.out.below.size hr_ hb_)
            clear HSx hr_
            have HSx := HS2_
            clear HS2_
            have H134 := Aside0.mk (H128.out.step hb_)
            clear hb_ H128
            go_wp2_with (first | ((with_reducible refine gate_store (t := 39) (p := 39) rfl ?_); refine Aside0.out ?_))
            refine Aside0.mk ?_
            refine st (o' := 1) (u := .slice A4 (P.withS u A).length c4) (seg := [.slice A4 (P.withS u A).length c4]) ?hw35 ?hN35 rfl ?hp35 ?hx35 rfl H134.out.gt0 (by kernel_rfl) ?hf35 (by simp [Value.oneCell']) ?_
            case hw35 => rfl
            case hN35 => rfl
            case hp35 => rfl
            case hx35 => rfl
            case hf35 => show 1 + 1 ≤ 4; decide
            intro w135 hb35 hS35
            have H136 := Aside0.mk (H134.out.wr0 (cs' := #[.slice A0 d.length c0, .slice A4 (P.withS u A).length c4, .int .i64 a, .slice A3 t.length c3]) hb35 hS35)
            have n37_ := Aside0.mk (St.other HSx.out H134.out.gt0 (by decide) hS35)
            clear HSx
            have HSx := n37_
            clear n37_
            clear hb35 hS35 H134
            have hc0 : w135.cell? ⟨g2, 0, none⟩ = some (.slice A0_0 d.length c0_0) := (blk_cell H136.out.gt3 0).trans rfl
            have hc1 : w135.cell? ⟨g2, 1, none⟩ = some (.slice A0_1 u.length c0_1) := (blk_cell H136.out.gt3 1).trans rfl
            have hc2 : w135.cell? ⟨g2, 2, none⟩ = some (.int .i64 a) := (blk_cell H136.out.gt3 2).trans rfl
            have hc3 : w135.cell? ⟨g2, 3, none⟩ = some (.slice A0_3 t.length c0_3) := (blk_cell H136.out.gt3 3).trans rfl
            have hf1 : w135.cell? ⟨g3, 1, none⟩ = some (.int .i64 1) := (blk_cell H136.out.gt2 1).trans rfl
            have hf2 : w135.cell? ⟨g3, 2, none⟩ = some (.int .u32 A) := (blk_cell H136.out.gt2 2).trans rfl
            have hf3 : w135.cell? ⟨g3, 3, none⟩ = some (.int .u32 B) := (blk_cell H136.out.gt2 3).trans rfl
            have hc5 : w135.cell? ⟨g5, 3, none⟩ = some (.slice A3 t.length c3) := (blk_cell H136.out.gt0 3).trans rfl
            go_wp2_with (first | ((with_reducible refine gate_builtin (b := .append) (xs := #[.tmp 41, .tmp 47]) rfl ?_); at_builtin; refine Aside0.out ?_))
            refine Aside0.mk ?_
            clear hc0 hc1 hc2 hc3 hf1 hf2 hf3 hc5
            refine Kd.R_append k111 (w0 := w) w.heap.size rfl (.tmp 41) (.tmp 47) 60 111 (.agg #[(.int .i64 0), (.int .i64 0)]) 16 rfl Try.underlying60 info111 rfl (by decide) (by omega) (.slice A3 t.length c3) t (⟨A, B⟩ : P.TR) [.int .i64 A, .int .i64 B] (fun _ => True) (fun _ => False) rfl rfl ?aP38 (fun _ hk => hk.elim) ?aF38 ?aO38 ?aB38 ?aS38 ?aL38 ?_
            case aP38 => exact k111_mkM _ _ _ ⟨A, B⟩
            case aB38 => exact H136.out.below
            case aF38 => exact fun _ _ => trivial
            case aO38 => exact HSx.out.t
            case aS38 => exact H136.out.below.size
            case aL38 => have := HV5.out; have := HLu.out; omega
            intro v8 w138 ho hb_ hg_ hat_
            obtain ⟨A8, c8, e8⟩ := Kd.R_slice ho
            subst e8
            have hst_ := Stp.grown (S := fun k => some k = (.slice A3 t.length c3 : Value).ownBlock) hg_ (fun k hk => hk.symm)
            clear hat_
            generalize hn8 : (t ++ [(⟨A, B⟩ : P.TR)]).length = n8 at ho ⊢
            clear hn8
            have H139 := Aside0.mk (H136.out.stp hst_ (fun k hk => Kd.R_base HSx.out.t k hk.symm) (fun b_ hb he => by
              obtain ⟨cells, hc⟩ := Kd.R_typed HSx.out.t b_.1 he.symm
              have h2 := (H136.out.at_ b_ hb).2
              rw [hc] at h2
              simp only [List.mem_cons, List.not_mem_nil, or_false] at hb
              rcases hb with rfl | rfl | rfl | rfl <;> cases h2))
            have HS2_ := Aside0.mk (St.onT HSx.out ho hg_)
            clear hst_ H136 HSx ho hb_ hg_
            have HSx := HS2_
            clear HS2_
            go_wp2_with (first | ((with_reducible refine gate_store (t := 60) (p := 49) rfl ?_); refine Aside0.out ?_))
            refine Aside0.mk ?_
            refine st (o' := 3) (u := .slice A8 n8 c8) (seg := [.slice A8 n8 c8]) ?hw40 ?hN40 rfl ?hp40 ?hx40 rfl H139.out.gt0 (by kernel_rfl) ?hf40 (by simp [Value.oneCell']) ?_
            case hw40 => rfl
            case hN40 => rfl
            case hp40 => rfl
            case hx40 => rfl
            case hf40 => show 3 + 1 ≤ 4; decide
            intro w140 hb40 hS40
            have H141 := Aside0.mk (H139.out.wr0 (cs' := #[.slice A0 d.length c0, .slice A4 (P.withS u A).length c4, .int .i64 a, .slice A8 n8 c8]) hb40 hS40)
            have n42_ := Aside0.mk (St.other HSx.out H139.out.gt0 (by decide) hS40)
            clear HSx
            have HSx := n42_
            clear n42_
            clear hb40 hS40 H139
            have hr_ : P.takeS d u a t 1 A B = some (d, P.withS u A, a, t ++ [⟨A, B⟩]) := by unfold P.takeS; rw [if_pos rfl, if_neg (by have := CA.out; rintro (h | h | h) <;> first | omega | exact MU.out h | exact MD.out h)]
            have hr2_ := P.applyS_some HV.out hr_
            have h := H.out
            rw [hr2_] at h
            clear H hr_ hr2_
            simp only [Prod.mk.injEq] at h
            obtain ⟨rfl, rfl, rfl, rfl, rfl⟩ := h
            go_wp2_with (first | ((with_reducible refine gate_dst (N := 50) rfl ?_); refine Aside0.out ?_))
            refine Aside0.mk ?_
            refine ld ?hw43 rfl ?hx43 H141.out.gt0 Try.underlying62 rfl (by kernel_rfl) ?_
            case hw43 => rfl
            case hx43 => rfl
            go_wp2_with (first | ((with_reducible refine gate_store (t := 64) (p := 4) rfl ?_); refine Aside0.out ?_))
            refine Aside0.mk ?_
            refine st_all ?hw44 ?hN44 rfl ?hp44 (cs := #[.bool true, .slice A0 d.length c0, .slice A4 (P.withS u A).length c4, .int .i64 a, .slice A8 n8 c8]) ?hx44 H141.out.gt1 (by kernel_rfl) rfl (by simp [Value.oneCell']) ?_
            case hw44 => rfl
            case hN44 => rfl
            case hp44 => rfl
            case hx44 => first | rfl | (go_simp; rfl)
            intro w144 hb44 hS44
            have H145 := Aside0.mk (H141.out.wr1 (cs' := #[.bool true, .slice A0 d.length c0, .slice A4 (P.withS u A).length c4, .int .i64 a, .slice A8 n8 c8]) hb44 hS44)
            have n46_ := Aside0.mk (St.other HSx.out H141.out.gt1 (by decide) hS44)
            clear HSx
            have HSx := n46_
            clear n46_
            clear hb44 hS44 H141
            go_wp2
            refine bodyPost_ret (results_cell_row rfl _ _ g4 64 #[.bool true, .slice A0 d.length c0, .slice A4 (P.withS u A).length c4, .int .i64 a, .slice A8 n8 c8] (0, 0) _ rfl H145.out.gt1 Try.underlying64 rfl (by kernel_rfl)) rfl ?_
            exact ⟨_, _, _, rfl, HSx.out.d, HSx.out.u, HSx.out.t, H145.out.below⟩
      · have cAb : decide (256 ≤ A) = true := decide_eq_true (by omega)
        have CA := Aside0.mk cA
        clear cA
        have hc0 : w118.cell? ⟨g2, 0, none⟩ = some (.slice A0_0 d.length c0_0) := (blk_cell H119.out.gt3 0).trans rfl
        have hc1 : w118.cell? ⟨g2, 1, none⟩ = some (.slice A0_1 u.length c0_1) := (blk_cell H119.out.gt3 1).trans rfl
        have hc2 : w118.cell? ⟨g2, 2, none⟩ = some (.int .i64 a) := (blk_cell H119.out.gt3 2).trans rfl
        have hc3 : w118.cell? ⟨g2, 3, none⟩ = some (.slice A0_3 t.length c0_3) := (blk_cell H119.out.gt3 3).trans rfl
        have hf1 : w118.cell? ⟨g3, 1, none⟩ = some (.int .i64 1) := (blk_cell H119.out.gt2 1).trans rfl
        have hf2 : w118.cell? ⟨g3, 2, none⟩ = some (.int .u32 A) := (blk_cell H119.out.gt2 2).trans rfl
        have hf3 : w118.cell? ⟨g3, 3, none⟩ = some (.int .u32 B) := (blk_cell H119.out.gt2 3).trans rfl
        have hc5 : w118.cell? ⟨g5, 3, none⟩ = some (.slice A3 t.length c3) := (blk_cell H119.out.gt0 3).trans rfl
        have hr_ : P.applyS d u a t 1 A B = (false, [], [], 0, []) := P.applyS_none (by unfold P.takeS; rw [if_pos rfl, if_pos (.inl (by have := CA.out; omega))])
        have h := H.out
        rw [hr_] at h
        clear H hr_
        simp only [Prod.mk.injEq] at h
        obtain ⟨rfl, rfl, rfl, rfl, rfl⟩ := h
        go_wp2_with (first | ((with_reducible refine gate_store (t := 64) (p := 4) rfl ?_); refine Aside0.out ?_))
        refine Aside0.mk ?_
        refine st_all ?hw47 ?hN47 rfl ?hp47 (cs := #[.bool false, .slice none 0 0, .slice none 0 0, .int .i64 0, .slice none 0 0]) ?hx47 H119.out.gt1 (by kernel_rfl) rfl (by simp [Value.oneCell']) ?_
        case hw47 => rfl
        case hN47 => rfl
        case hp47 => rfl
        case hx47 => first | rfl | (go_simp; rfl)
        intro w147 hb47 hS47
        have H148 := Aside0.mk (H119.out.wr1 (cs' := #[.bool false, .slice none 0 0, .slice none 0 0, .int .i64 0, .slice none 0 0]) hb47 hS47)
        have n49_ := Aside0.mk (St.other HSx.out H119.out.gt1 (by decide) hS47)
        clear HSx
        have HSx := n49_
        clear n49_
        clear hb47 hS47 H119
        go_wp2
        refine bodyPost_ret (results_cell_row rfl _ _ g4 64 #[.bool false, .slice none 0 0, .slice none 0 0, .int .i64 0, .slice none 0 0] (0, 0) _ rfl H148.out.gt1 Try.underlying64 rfl (by kernel_rfl)) rfl ?_
        exact ⟨_, _, _, rfl, Kd.R_nil _ _ _ _ _, Kd.R_nil _ _ _ _ _, Kd.R_nil _ _ _ _ _, H148.out.below⟩
    · by_cases k2 : kd = 2
      · subst k2
        clear k1
        by_cases cB : B = 1
        · have cBb : (B == 1) = true := beq_iff_eq.mpr cB
          have cB0 : (B == 0) = false := beq_eq_false_iff_ne.mpr (by omega)
          have CB := Aside0.mk cB
          clear cB
          by_cases cA : A < 256
          · have cAb : decide (A < 256) = true := decide_eq_true cA
            have CA := Aside0.mk cA
            clear cA
            have hc0 : w118.cell? ⟨g2, 0, none⟩ = some (.slice A0_0 d.length c0_0) := (blk_cell H119.out.gt3 0).trans rfl
            have hc1 : w118.cell? ⟨g2, 1, none⟩ = some (.slice A0_1 u.length c0_1) := (blk_cell H119.out.gt3 1).trans rfl
            have hc2 : w118.cell? ⟨g2, 2, none⟩ = some (.int .i64 a) := (blk_cell H119.out.gt3 2).trans rfl
            have hc3 : w118.cell? ⟨g2, 3, none⟩ = some (.slice A0_3 t.length c0_3) := (blk_cell H119.out.gt3 3).trans rfl
            have hf1 : w118.cell? ⟨g3, 1, none⟩ = some (.int .i64 2) := (blk_cell H119.out.gt2 1).trans rfl
            have hf2 : w118.cell? ⟨g3, 2, none⟩ = some (.int .u32 A) := (blk_cell H119.out.gt2 2).trans rfl
            have hf3 : w118.cell? ⟨g3, 3, none⟩ = some (.int .u32 B) := (blk_cell H119.out.gt2 3).trans rfl
            have hc5 : w118.cell? ⟨g5, 3, none⟩ = some (.slice A3 t.length c3) := (blk_cell H119.out.gt0 3).trans rfl
            go_wp2_with (first | ((with_reducible refine gate_callee (f := 78) rfl ?_); refine Aside0.out ?_))
            refine Aside0.mk ?_
            refine goesW (some 65) rfl ?hw50 Try.func78 (by kernel_rfl) rfl #[.slice A0_0 d.length c0_0, .int .i64 A] rfl (by (try simp only [List.map_toArray, List.map_cons, List.map_nil]); first | done | rfl) ?_
            case hw50 => rfl
            refine (spec_l5Holds.calls _ _ _ d A _ _ (Kd.C_below HR0.out H119.out.below) HC0.out HKD.out).mono ?_
            rintro e w150 ⟨rfl, hd_⟩
            refine ⟨_, rfl, ?_⟩
            have hb_ := hd_.below
            clear hd_
            clear hc0 hc1 hc2 hc3 hf1 hf2 hf3 hc5
            have H151 := Aside0.mk (H119.out.step hb_)
            have n52_ := Aside0.mk (St.below HSx.out hb_)
            clear HSx
            have HSx := n52_
            clear n52_
            clear hb_ H119
            by_cases mD : A ∈ d
            · have MD := Aside0.mk mD
              rw [decide_eq_true mD]
              clear mD
              have hc0 : w150.cell? ⟨g2, 0, none⟩ = some (.slice A0_0 d.length c0_0) := (blk_cell H151.out.gt3 0).trans rfl
              have hc1 : w150.cell? ⟨g2, 1, none⟩ = some (.slice A0_1 u.length c0_1) := (blk_cell H151.out.gt3 1).trans rfl
              have hc2 : w150.cell? ⟨g2, 2, none⟩ = some (.int .i64 a) := (blk_cell H151.out.gt3 2).trans rfl
              have hc3 : w150.cell? ⟨g2, 3, none⟩ = some (.slice A0_3 t.length c0_3) := (blk_cell H151.out.gt3 3).trans rfl
              have hf1 : w150.cell? ⟨g3, 1, none⟩ = some (.int .i64 2) := (blk_cell H151.out.gt2 1).trans rfl
              have hf2 : w150.cell? ⟨g3, 2, none⟩ = some (.int .u32 A) := (blk_cell H151.out.gt2 2).trans rfl
              have hf3 : w150.cell? ⟨g3, 3, none⟩ = some (.int .u32 B) := (blk_cell H151.out.gt2 3).trans rfl
              have hc5 : w150.cell? ⟨g5, 3, none⟩ = some (.slice A3 t.length c3) := (blk_cell H151.out.gt0 3).trans rfl
              have hr_ : P.applyS d u a t 2 A B = (false, [], [], 0, []) := P.applyS_none (by unfold P.takeS; rw [if_neg (by decide), if_pos rfl, if_neg (by rintro ⟨-, -, h, -⟩; exact h MD.out), if_neg (by rintro ⟨h, -⟩; have := CB.out; omega)])
              have h := H.out
              rw [hr_] at h
              clear H hr_
              simp only [Prod.mk.injEq] at h
              obtain ⟨rfl, rfl, rfl, rfl, rfl⟩ := h
              go_wp2_with (first | ((with_reducible refine gate_store (t := 64) (p := 4) rfl ?_); refine Aside0.out ?_))
              refine Aside0.mk ?_
              refine st_all ?hw53 ?hN53 rfl ?hp53 (cs := #[.bool false, .slice none 0 0, .slice none 0 0, .int .i64 0, .slice none 0 0]) ?hx53 H151.out.gt1 (by kernel_rfl) rfl (by simp [Value.oneCell']) ?_
              case hw53 => rfl
              case hN53 => rfl
              case hp53 => rfl
              case hx53 => first | rfl | (go_simp; rfl)
              intro w153 hb53 hS53
              have H154 := Aside0.mk (H151.out.wr1 (cs' := #[.bool false, .slice none 0 0, .slice none 0 0, .int .i64 0, .slice none 0 0]) hb53 hS53)
              have n55_ := Aside0.mk (St.other HSx.out H151.out.gt1 (by decide) hS53)
              clear HSx
              have HSx := n55_
              clear n55_
              clear hb53 hS53 H151
              go_wp2
              refine bodyPost_ret (results_cell_row rfl _ _ g4 64 #[.bool false, .slice none 0 0, .slice none 0 0, .int .i64 0, .slice none 0 0] (0, 0) _ rfl H154.out.gt1 Try.underlying64 rfl (by kernel_rfl)) rfl ?_
              exact ⟨_, _, _, rfl, Kd.R_nil _ _ _ _ _, Kd.R_nil _ _ _ _ _, Kd.R_nil _ _ _ _ _, H154.out.below⟩
            · have MD := Aside0.mk mD
              rw [decide_eq_false mD]
              clear mD
              by_cases cL : d.length < 16
              · have cLb : decide ((d.length : Int) < 16) = true := decide_eq_true (by omega)
                have CL := Aside0.mk cL
                clear cL
                have hc0 : w150.cell? ⟨g2, 0, none⟩ = some (.slice A0_0 d.length c0_0) := (blk_cell H151.out.gt3 0).trans rfl
                have hc1 : w150.cell? ⟨g2, 1, none⟩ = some (.slice A0_1 u.length c0_1) := (blk_cell H151.out.gt3 1).trans rfl
                have hc2 : w150.cell? ⟨g2, 2, none⟩ = some (.int .i64 a) := (blk_cell H151.out.gt3 2).trans rfl
                have hc3 : w150.cell? ⟨g2, 3, none⟩ = some (.slice A0_3 t.length c0_3) := (blk_cell H151.out.gt3 3).trans rfl
                have hf1 : w150.cell? ⟨g3, 1, none⟩ = some (.int .i64 2) := (blk_cell H151.out.gt2 1).trans rfl
                have hf2 : w150.cell? ⟨g3, 2, none⟩ = some (.int .u32 A) := (blk_cell H151.out.gt2 2).trans rfl
                have hf3 : w150.cell? ⟨g3, 3, none⟩ = some (.int .u32 B) := (blk_cell H151.out.gt2 3).trans rfl
                have hc5 : w150.cell? ⟨g5, 3, none⟩ = some (.slice A3 t.length c3) := (blk_cell H151.out.gt0 3).trans rfl
                go_wp2_with (first | ((with_reducible refine gate_callee (f := 79) rfl ?_); refine Aside0.out ?_))
                refine Aside0.mk ?_
                refine goesW (some 77) rfl ?hw56 Try.func79 (by kernel_rfl) rfl #[.slice A0_0 d.length c0_0, .int .i64 A] rfl (by (try simp only [List.map_toArray, List.map_cons, List.map_nil]); first | done | rfl) ?_
                case hw56 => rfl
                refine (spec_l5With.calls _ _ _ d A _ _ (Kd.C_below HR0.out H151.out.below) HC0.out HKWd.out).mono ?_
                rintro e w156 ⟨v9, rfl, hr_, hb_⟩
                refine ⟨_, rfl, ?_⟩
                clear hc0 hc1 hc2 hc3 hf1 hf2 hf3 hc5
                obtain ⟨A4, c4, e4⟩ := Kd.R_slice hr_
                subst e4
                have HS2_ := Aside0.mk (St.newD HSx.out H151.out.below.size hr_ hb_)
                clear HSx hr_
                have HSx := HS2_
                clear HS2_
                have H157 := Aside0.mk (H151.out.step hb_)
                clear hb_ H151
                go_wp2_with (first | ((with_reducible refine gate_store (t := 39) (p := 78) rfl ?_); refine Aside0.out ?_))
                refine Aside0.mk ?_
                refine st (o' := 0) (u := .slice A4 (P.withS d A).length c4) (seg := [.slice A4 (P.withS d A).length c4]) ?hw58 ?hN58 rfl ?hp58 ?hx58 rfl H157.out.gt0 (by kernel_rfl) ?hf58 (by simp [Value.oneCell']) ?_
                case hw58 => rfl
                case hN58 => rfl
                case hp58 => rfl
                case hx58 => rfl
                case hf58 => show 0 + 1 ≤ 4; decide
                intro w158 hb58 hS58
                have H159 := Aside0.mk (H157.out.wr0 (cs' := #[.slice A4 (P.withS d A).length c4, .slice A1 u.length c1, .int .i64 a, .slice A3 t.length c3]) hb58 hS58)
                have n60_ := Aside0.mk (St.other HSx.out H157.out.gt0 (by decide) hS58)
                clear HSx
                have HSx := n60_
                clear n60_
                clear hb58 hS58 H157
                have hr_ : P.takeS d u a t 2 A B = some (P.withS d A, u, a, t) := by unfold P.takeS; rw [if_neg (by decide), if_pos rfl, if_pos ⟨CB.out, CA.out, MD.out, CL.out⟩]
                have hr2_ := P.applyS_some HV.out hr_
                have h := H.out
                rw [hr2_] at h
                clear H hr_ hr2_
                simp only [Prod.mk.injEq] at h
                obtain ⟨rfl, rfl, rfl, rfl, rfl⟩ := h
                go_wp2_with (first | ((with_reducible refine gate_dst (N := 79) rfl ?_); refine Aside0.out ?_))
                refine Aside0.mk ?_
                refine ld ?hw61 rfl ?hx61 H159.out.gt0 Try.underlying62 rfl (by kernel_rfl) ?_
                case hw61 => rfl
                case hx61 => rfl
                go_wp2_with (first | ((with_reducible refine gate_store (t := 64) (p := 4) rfl ?_); refine Aside0.out ?_))
                refine Aside0.mk ?_
                refine st_all ?hw62 ?hN62 rfl ?hp62 (cs := #[.bool true, .slice A4 (P.withS d A).length c4, .slice A1 u.length c1, .int .i64 a, .slice A3 t.length c3]) ?hx62 H159.out.gt1 (by kernel_rfl) rfl (by simp [Value.oneCell']) ?_
                case hw62 => rfl
                case hN62 => rfl
                case hp62 => rfl
                case hx62 => first | rfl | (go_simp; rfl)
                intro w162 hb62 hS62
                have H163 := Aside0.mk (H159.out.wr1 (cs' := #[.bool true, .slice A4 (P.withS d A).length c4, .slice A1 u.length c1, .int .i64 a, .slice A3 t.length c3]) hb62 hS62)
                have n64_ := Aside0.mk (St.other HSx.out H159.out.gt1 (by decide) hS62)
                clear HSx
                have HSx := n64_
                clear n64_
                clear hb62 hS62 H159
                go_wp2
                refine bodyPost_ret (results_cell_row rfl _ _ g4 64 #[.bool true, .slice A4 (P.withS d A).length c4, .slice A1 u.length c1, .int .i64 a, .slice A3 t.length c3] (0, 0) _ rfl H163.out.gt1 Try.underlying64 rfl (by kernel_rfl)) rfl ?_
                exact ⟨_, _, _, rfl, HSx.out.d, HSx.out.u, HSx.out.t, H163.out.below⟩
              · have cLb : decide ((d.length : Int) < 16) = false := decide_eq_false (by omega)
                have CL := Aside0.mk cL
                clear cL
                have hc0 : w150.cell? ⟨g2, 0, none⟩ = some (.slice A0_0 d.length c0_0) := (blk_cell H151.out.gt3 0).trans rfl
                have hc1 : w150.cell? ⟨g2, 1, none⟩ = some (.slice A0_1 u.length c0_1) := (blk_cell H151.out.gt3 1).trans rfl
                have hc2 : w150.cell? ⟨g2, 2, none⟩ = some (.int .i64 a) := (blk_cell H151.out.gt3 2).trans rfl
                have hc3 : w150.cell? ⟨g2, 3, none⟩ = some (.slice A0_3 t.length c0_3) := (blk_cell H151.out.gt3 3).trans rfl
                have hf1 : w150.cell? ⟨g3, 1, none⟩ = some (.int .i64 2) := (blk_cell H151.out.gt2 1).trans rfl
                have hf2 : w150.cell? ⟨g3, 2, none⟩ = some (.int .u32 A) := (blk_cell H151.out.gt2 2).trans rfl
                have hf3 : w150.cell? ⟨g3, 3, none⟩ = some (.int .u32 B) := (blk_cell H151.out.gt2 3).trans rfl
                have hc5 : w150.cell? ⟨g5, 3, none⟩ = some (.slice A3 t.length c3) := (blk_cell H151.out.gt0 3).trans rfl
                have hr_ : P.applyS d u a t 2 A B = (false, [], [], 0, []) := P.applyS_none (by unfold P.takeS; rw [if_neg (by decide), if_pos rfl, if_neg (by rintro ⟨-, -, -, h⟩; have := CL.out; omega), if_neg (by rintro ⟨h, -⟩; have := CB.out; omega)])
                have h := H.out
                rw [hr_] at h
                clear H hr_
                simp only [Prod.mk.injEq] at h
                obtain ⟨rfl, rfl, rfl, rfl, rfl⟩ := h
                go_wp2_with (first | ((with_reducible refine gate_store (t := 64) (p := 4) rfl ?_); refine Aside0.out ?_))
                refine Aside0.mk ?_
                refine st_all ?hw65 ?hN65 rfl ?hp65 (cs := #[.bool false, .slice none 0 0, .slice none 0 0, .int .i64 0, .slice none 0 0]) ?hx65 H151.out.gt1 (by kernel_rfl) rfl (by simp [Value.oneCell']) ?_
                case hw65 => rfl
                case hN65 => rfl
                case hp65 => rfl
                case hx65 => first | rfl | (go_simp; rfl)
                intro w165 hb65 hS65
                have H166 := Aside0.mk (H151.out.wr1 (cs' := #[.bool false, .slice none 0 0, .slice none 0 0, .int .i64 0, .slice none 0 0]) hb65 hS65)
                have n67_ := Aside0.mk (St.other HSx.out H151.out.gt1 (by decide) hS65)
                clear HSx
                have HSx := n67_
                clear n67_
                clear hb65 hS65 H151
                go_wp2
                refine bodyPost_ret (results_cell_row rfl _ _ g4 64 #[.bool false, .slice none 0 0, .slice none 0 0, .int .i64 0, .slice none 0 0] (0, 0) _ rfl H166.out.gt1 Try.underlying64 rfl (by kernel_rfl)) rfl ?_
                exact ⟨_, _, _, rfl, Kd.R_nil _ _ _ _ _, Kd.R_nil _ _ _ _ _, Kd.R_nil _ _ _ _ _, H166.out.below⟩
          · have cAb : decide (A < 256) = false := decide_eq_false cA
            have CA := Aside0.mk cA
            clear cA
            have hc0 : w118.cell? ⟨g2, 0, none⟩ = some (.slice A0_0 d.length c0_0) := (blk_cell H119.out.gt3 0).trans rfl
            have hc1 : w118.cell? ⟨g2, 1, none⟩ = some (.slice A0_1 u.length c0_1) := (blk_cell H119.out.gt3 1).trans rfl
            have hc2 : w118.cell? ⟨g2, 2, none⟩ = some (.int .i64 a) := (blk_cell H119.out.gt3 2).trans rfl
            have hc3 : w118.cell? ⟨g2, 3, none⟩ = some (.slice A0_3 t.length c0_3) := (blk_cell H119.out.gt3 3).trans rfl
            have hf1 : w118.cell? ⟨g3, 1, none⟩ = some (.int .i64 2) := (blk_cell H119.out.gt2 1).trans rfl
            have hf2 : w118.cell? ⟨g3, 2, none⟩ = some (.int .u32 A) := (blk_cell H119.out.gt2 2).trans rfl
            have hf3 : w118.cell? ⟨g3, 3, none⟩ = some (.int .u32 B) := (blk_cell H119.out.gt2 3).trans rfl
            have hc5 : w118.cell? ⟨g5, 3, none⟩ = some (.slice A3 t.length c3) := (blk_cell H119.out.gt0 3).trans rfl
            have hr_ : P.applyS d u a t 2 A B = (false, [], [], 0, []) := P.applyS_none (by unfold P.takeS; rw [if_neg (by decide), if_pos rfl, if_neg (by rintro ⟨-, h, -⟩; have := CA.out; omega), if_neg (by rintro ⟨h, -⟩; have := CB.out; omega)])
            have h := H.out
            rw [hr_] at h
            clear H hr_
            simp only [Prod.mk.injEq] at h
            obtain ⟨rfl, rfl, rfl, rfl, rfl⟩ := h
            go_wp2_with (first | ((with_reducible refine gate_store (t := 64) (p := 4) rfl ?_); refine Aside0.out ?_))
            refine Aside0.mk ?_
            refine st_all ?hw68 ?hN68 rfl ?hp68 (cs := #[.bool false, .slice none 0 0, .slice none 0 0, .int .i64 0, .slice none 0 0]) ?hx68 H119.out.gt1 (by kernel_rfl) rfl (by simp [Value.oneCell']) ?_
            case hw68 => rfl
            case hN68 => rfl
            case hp68 => rfl
            case hx68 => first | rfl | (go_simp; rfl)
            intro w168 hb68 hS68
            have H169 := Aside0.mk (H119.out.wr1 (cs' := #[.bool false, .slice none 0 0, .slice none 0 0, .int .i64 0, .slice none 0 0]) hb68 hS68)
            have n70_ := Aside0.mk (St.other HSx.out H119.out.gt1 (by decide) hS68)
            clear HSx
            have HSx := n70_
            clear n70_
            clear hb68 hS68 H119
            go_wp2
            refine bodyPost_ret (results_cell_row rfl _ _ g4 64 #[.bool false, .slice none 0 0, .slice none 0 0, .int .i64 0, .slice none 0 0] (0, 0) _ rfl H169.out.gt1 Try.underlying64 rfl (by kernel_rfl)) rfl ?_
            exact ⟨_, _, _, rfl, Kd.R_nil _ _ _ _ _, Kd.R_nil _ _ _ _ _, Kd.R_nil _ _ _ _ _, H169.out.below⟩
        · have cBb : (B == 1) = false := beq_eq_false_iff_ne.mpr cB
          have CB := Aside0.mk cB
          clear cB
          by_cases cZ : B = 0
          · have cB0 : (B == 0) = true := beq_iff_eq.mpr cZ
            have CZ := Aside0.mk cZ
            clear cZ
            have hc0 : w118.cell? ⟨g2, 0, none⟩ = some (.slice A0_0 d.length c0_0) := (blk_cell H119.out.gt3 0).trans rfl
            have hc1 : w118.cell? ⟨g2, 1, none⟩ = some (.slice A0_1 u.length c0_1) := (blk_cell H119.out.gt3 1).trans rfl
            have hc2 : w118.cell? ⟨g2, 2, none⟩ = some (.int .i64 a) := (blk_cell H119.out.gt3 2).trans rfl
            have hc3 : w118.cell? ⟨g2, 3, none⟩ = some (.slice A0_3 t.length c0_3) := (blk_cell H119.out.gt3 3).trans rfl
            have hf1 : w118.cell? ⟨g3, 1, none⟩ = some (.int .i64 2) := (blk_cell H119.out.gt2 1).trans rfl
            have hf2 : w118.cell? ⟨g3, 2, none⟩ = some (.int .u32 A) := (blk_cell H119.out.gt2 2).trans rfl
            have hf3 : w118.cell? ⟨g3, 3, none⟩ = some (.int .u32 B) := (blk_cell H119.out.gt2 3).trans rfl
            have hc5 : w118.cell? ⟨g5, 3, none⟩ = some (.slice A3 t.length c3) := (blk_cell H119.out.gt0 3).trans rfl
            go_wp2_with (first | ((with_reducible refine gate_callee (f := 78) rfl ?_); refine Aside0.out ?_))
            refine Aside0.mk ?_
            refine goesW (some 88) rfl ?hw71 Try.func78 (by kernel_rfl) rfl #[.slice A0_0 d.length c0_0, .int .i64 A] rfl (by (try simp only [List.map_toArray, List.map_cons, List.map_nil]); first | done | rfl) ?_
            case hw71 => rfl
            refine (spec_l5Holds.calls _ _ _ d A _ _ (Kd.C_below HR0.out H119.out.below) HC0.out HKD.out).mono ?_
            rintro e w171 ⟨rfl, hd_⟩
            refine ⟨_, rfl, ?_⟩
            have hb_ := hd_.below
            clear hd_
            clear hc0 hc1 hc2 hc3 hf1 hf2 hf3 hc5
            have H172 := Aside0.mk (H119.out.step hb_)
            have n73_ := Aside0.mk (St.below HSx.out hb_)
            clear HSx
            have HSx := n73_
            clear n73_
            clear hb_ H119
            by_cases mD : A ∈ d
            · have MD := Aside0.mk mD
              rw [decide_eq_true mD]
              clear mD
              have hc0 : w171.cell? ⟨g2, 0, none⟩ = some (.slice A0_0 d.length c0_0) := (blk_cell H172.out.gt3 0).trans rfl
              have hc1 : w171.cell? ⟨g2, 1, none⟩ = some (.slice A0_1 u.length c0_1) := (blk_cell H172.out.gt3 1).trans rfl
              have hc2 : w171.cell? ⟨g2, 2, none⟩ = some (.int .i64 a) := (blk_cell H172.out.gt3 2).trans rfl
              have hc3 : w171.cell? ⟨g2, 3, none⟩ = some (.slice A0_3 t.length c0_3) := (blk_cell H172.out.gt3 3).trans rfl
              have hf1 : w171.cell? ⟨g3, 1, none⟩ = some (.int .i64 2) := (blk_cell H172.out.gt2 1).trans rfl
              have hf2 : w171.cell? ⟨g3, 2, none⟩ = some (.int .u32 A) := (blk_cell H172.out.gt2 2).trans rfl
              have hf3 : w171.cell? ⟨g3, 3, none⟩ = some (.int .u32 B) := (blk_cell H172.out.gt2 3).trans rfl
              have hc5 : w171.cell? ⟨g5, 3, none⟩ = some (.slice A3 t.length c3) := (blk_cell H172.out.gt0 3).trans rfl
              go_wp2_with (first | ((with_reducible refine gate_callee (f := 80) rfl ?_); refine Aside0.out ?_))
              refine Aside0.mk ?_
              refine goesW (some 93) rfl ?hw74 Try.func80 (by kernel_rfl) rfl #[.slice A0_0 d.length c0_0, .int .i64 A] rfl (by (try simp only [List.map_toArray, List.map_cons, List.map_nil]); first | done | rfl) ?_
              case hw74 => rfl
              refine (spec_l5Without.calls _ _ _ d A _ _ (Kd.C_below HR0.out H172.out.below) HC0.out HKOd.out).mono ?_
              rintro e w174 ⟨v9, rfl, hr_, hb_⟩
              refine ⟨_, rfl, ?_⟩
              clear hc0 hc1 hc2 hc3 hf1 hf2 hf3 hc5
              obtain ⟨A4, c4, e4⟩ := Kd.R_slice hr_
              subst e4
              have HS2_ := Aside0.mk (St.newD HSx.out H172.out.below.size hr_ hb_)
              clear HSx hr_
              have HSx := HS2_
              clear HS2_
              have H175 := Aside0.mk (H172.out.step hb_)
              clear hb_ H172
              go_wp2_with (first | ((with_reducible refine gate_store (t := 39) (p := 94) rfl ?_); refine Aside0.out ?_))
              refine Aside0.mk ?_
              refine st (o' := 0) (u := .slice A4 (P.outS d A).length c4) (seg := [.slice A4 (P.outS d A).length c4]) ?hw76 ?hN76 rfl ?hp76 ?hx76 rfl H175.out.gt0 (by kernel_rfl) ?hf76 (by simp [Value.oneCell']) ?_
              case hw76 => rfl
              case hN76 => rfl
              case hp76 => rfl
              case hx76 => rfl
              case hf76 => show 0 + 1 ≤ 4; decide
              intro w176 hb76 hS76
              have H177 := Aside0.mk (H175.out.wr0 (cs' := #[.slice A4 (P.outS d A).length c4, .slice A1 u.length c1, .int .i64 a, .slice A3 t.length c3]) hb76 hS76)
              have n78_ := Aside0.mk (St.other HSx.out H175.out.gt0 (by decide) hS76)
              clear HSx
              have HSx := n78_
              clear n78_
              clear hb76 hS76 H175
              have hr_ : P.takeS d u a t 2 A B = some (P.outS d A, u, a, t) := by unfold P.takeS; rw [if_neg (by decide), if_pos rfl, if_neg (by rintro ⟨h, -⟩; exact CB.out h), if_pos ⟨CZ.out, MD.out⟩]
              have hr2_ := P.applyS_some HV.out hr_
              have h := H.out
              rw [hr2_] at h
              clear H hr_ hr2_
              simp only [Prod.mk.injEq] at h
              obtain ⟨rfl, rfl, rfl, rfl, rfl⟩ := h
              go_wp2_with (first | ((with_reducible refine gate_dst (N := 95) rfl ?_); refine Aside0.out ?_))
              refine Aside0.mk ?_
              refine ld ?hw79 rfl ?hx79 H177.out.gt0 Try.underlying62 rfl (by kernel_rfl) ?_
              case hw79 => rfl
              case hx79 => rfl
              go_wp2_with (first | ((with_reducible refine gate_store (t := 64) (p := 4) rfl ?_); refine Aside0.out ?_))
              refine Aside0.mk ?_
              refine st_all ?hw80 ?hN80 rfl ?hp80 (cs := #[.bool true, .slice A4 (P.outS d A).length c4, .slice A1 u.length c1, .int .i64 a, .slice A3 t.length c3]) ?hx80 H177.out.gt1 (by kernel_rfl) rfl (by simp [Value.oneCell']) ?_
              case hw80 => rfl
              case hN80 => rfl
              case hp80 => rfl
              case hx80 => first | rfl | (go_simp; rfl)
              intro w180 hb80 hS80
              have H181 := Aside0.mk (H177.out.wr1 (cs' := #[.bool true, .slice A4 (P.outS d A).length c4, .slice A1 u.length c1, .int .i64 a, .slice A3 t.length c3]) hb80 hS80)
              have n82_ := Aside0.mk (St.other HSx.out H177.out.gt1 (by decide) hS80)
              clear HSx
              have HSx := n82_
              clear n82_
              clear hb80 hS80 H177
              go_wp2
              refine bodyPost_ret (results_cell_row rfl _ _ g4 64 #[.bool true, .slice A4 (P.outS d A).length c4, .slice A1 u.length c1, .int .i64 a, .slice A3 t.length c3] (0, 0) _ rfl H181.out.gt1 Try.underlying64 rfl (by kernel_rfl)) rfl ?_
              exact ⟨_, _, _, rfl, HSx.out.d, HSx.out.u, HSx.out.t, H181.out.below⟩
            · have MD := Aside0.mk mD
              rw [decide_eq_false mD]
              clear mD
              have hc0 : w171.cell? ⟨g2, 0, none⟩ = some (.slice A0_0 d.length c0_0) := (blk_cell H172.out.gt3 0).trans rfl
              have hc1 : w171.cell? ⟨g2, 1, none⟩ = some (.slice A0_1 u.length c0_1) := (blk_cell H172.out.gt3 1).trans rfl
              have hc2 : w171.cell? ⟨g2, 2, none⟩ = some (.int .i64 a) := (blk_cell H172.out.gt3 2).trans rfl
              have hc3 : w171.cell? ⟨g2, 3, none⟩ = some (.slice A0_3 t.length c0_3) := (blk_cell H172.out.gt3 3).trans rfl
              have hf1 : w171.cell? ⟨g3, 1, none⟩ = some (.int .i64 2) := (blk_cell H172.out.gt2 1).trans rfl
              have hf2 : w171.cell? ⟨g3, 2, none⟩ = some (.int .u32 A) := (blk_cell H172.out.gt2 2).trans rfl
              have hf3 : w171.cell? ⟨g3, 3, none⟩ = some (.int .u32 B) := (blk_cell H172.out.gt2 3).trans rfl
              have hc5 : w171.cell? ⟨g5, 3, none⟩ = some (.slice A3 t.length c3) := (blk_cell H172.out.gt0 3).trans rfl
              have hr_ : P.applyS d u a t 2 A B = (false, [], [], 0, []) := P.applyS_none (by unfold P.takeS; rw [if_neg (by decide), if_pos rfl, if_neg (by rintro ⟨h, -⟩; exact CB.out h), if_neg (by rintro ⟨-, h⟩; exact MD.out h)])
              have h := H.out
              rw [hr_] at h
              clear H hr_
              simp only [Prod.mk.injEq] at h
              obtain ⟨rfl, rfl, rfl, rfl, rfl⟩ := h
              go_wp2_with (first | ((with_reducible refine gate_store (t := 64) (p := 4) rfl ?_); refine Aside0.out ?_))
              refine Aside0.mk ?_
              refine st_all ?hw83 ?hN83 rfl ?hp83 (cs := #[.bool false, .slice none 0 0, .slice none 0 0, .int .i64 0, .slice none 0 0]) ?hx83 H172.out.gt1 (by kernel_rfl) rfl (by simp [Value.oneCell']) ?_
              case hw83 => rfl
              case hN83 => rfl
              case hp83 => rfl
              case hx83 => first | rfl | (go_simp; rfl)
              intro w183 hb83 hS83
              have H184 := Aside0.mk (H172.out.wr1 (cs' := #[.bool false, .slice none 0 0, .slice none 0 0, .int .i64 0, .slice none 0 0]) hb83 hS83)
              have n85_ := Aside0.mk (St.other HSx.out H172.out.gt1 (by decide) hS83)
              clear HSx
              have HSx := n85_
              clear n85_
              clear hb83 hS83 H172
              go_wp2
              refine bodyPost_ret (results_cell_row rfl _ _ g4 64 #[.bool false, .slice none 0 0, .slice none 0 0, .int .i64 0, .slice none 0 0] (0, 0) _ rfl H184.out.gt1 Try.underlying64 rfl (by kernel_rfl)) rfl ?_
              exact ⟨_, _, _, rfl, Kd.R_nil _ _ _ _ _, Kd.R_nil _ _ _ _ _, Kd.R_nil _ _ _ _ _, H184.out.below⟩
          · have cB0 : (B == 0) = false := beq_eq_false_iff_ne.mpr cZ
            have CZ := Aside0.mk cZ
            clear cZ
            have hc0 : w118.cell? ⟨g2, 0, none⟩ = some (.slice A0_0 d.length c0_0) := (blk_cell H119.out.gt3 0).trans rfl
            have hc1 : w118.cell? ⟨g2, 1, none⟩ = some (.slice A0_1 u.length c0_1) := (blk_cell H119.out.gt3 1).trans rfl
            have hc2 : w118.cell? ⟨g2, 2, none⟩ = some (.int .i64 a) := (blk_cell H119.out.gt3 2).trans rfl
            have hc3 : w118.cell? ⟨g2, 3, none⟩ = some (.slice A0_3 t.length c0_3) := (blk_cell H119.out.gt3 3).trans rfl
            have hf1 : w118.cell? ⟨g3, 1, none⟩ = some (.int .i64 2) := (blk_cell H119.out.gt2 1).trans rfl
            have hf2 : w118.cell? ⟨g3, 2, none⟩ = some (.int .u32 A) := (blk_cell H119.out.gt2 2).trans rfl
            have hf3 : w118.cell? ⟨g3, 3, none⟩ = some (.int .u32 B) := (blk_cell H119.out.gt2 3).trans rfl
            have hc5 : w118.cell? ⟨g5, 3, none⟩ = some (.slice A3 t.length c3) := (blk_cell H119.out.gt0 3).trans rfl
            have hr_ : P.applyS d u a t 2 A B = (false, [], [], 0, []) := P.applyS_none (by unfold P.takeS; rw [if_neg (by decide), if_pos rfl, if_neg (by rintro ⟨h, -⟩; exact CB.out h), if_neg (by rintro ⟨h, -⟩; exact CZ.out h)])
            have h := H.out
            rw [hr_] at h
            clear H hr_
            simp only [Prod.mk.injEq] at h
            obtain ⟨rfl, rfl, rfl, rfl, rfl⟩ := h
            go_wp2_with (first | ((with_reducible refine gate_store (t := 64) (p := 4) rfl ?_); refine Aside0.out ?_))
            refine Aside0.mk ?_
            refine st_all ?hw86 ?hN86 rfl ?hp86 (cs := #[.bool false, .slice none 0 0, .slice none 0 0, .int .i64 0, .slice none 0 0]) ?hx86 H119.out.gt1 (by kernel_rfl) rfl (by simp [Value.oneCell']) ?_
            case hw86 => rfl
            case hN86 => rfl
            case hp86 => rfl
            case hx86 => first | rfl | (go_simp; rfl)
            intro w186 hb86 hS86
            have H187 := Aside0.mk (H119.out.wr1 (cs' := #[.bool false, .slice none 0 0, .slice none 0 0, .int .i64 0, .slice none 0 0]) hb86 hS86)
            have n88_ := Aside0.mk (St.other HSx.out H119.out.gt1 (by decide) hS86)
            clear HSx
            have HSx := n88_
            clear n88_
            clear hb86 hS86 H119
            go_wp2
            refine bodyPost_ret (results_cell_row rfl _ _ g4 64 #[.bool false, .slice none 0 0, .slice none 0 0, .int .i64 0, .slice none 0 0] (0, 0) _ rfl H187.out.gt1 Try.underlying64 rfl (by kernel_rfl)) rfl ?_
            exact ⟨_, _, _, rfl, Kd.R_nil _ _ _ _ _, Kd.R_nil _ _ _ _ _, Kd.R_nil _ _ _ _ _, H187.out.below⟩
      · by_cases k3 : kd = 3
        · subst k3
          clear k1 k2
          by_cases cB : B ≠ 0
          · have cBb : (B == 0) = false := beq_eq_false_iff_ne.mpr cB
            have CB := Aside0.mk cB
            clear cB
            have hc0 : w118.cell? ⟨g2, 0, none⟩ = some (.slice A0_0 d.length c0_0) := (blk_cell H119.out.gt3 0).trans rfl
            have hc1 : w118.cell? ⟨g2, 1, none⟩ = some (.slice A0_1 u.length c0_1) := (blk_cell H119.out.gt3 1).trans rfl
            have hc2 : w118.cell? ⟨g2, 2, none⟩ = some (.int .i64 a) := (blk_cell H119.out.gt3 2).trans rfl
            have hc3 : w118.cell? ⟨g2, 3, none⟩ = some (.slice A0_3 t.length c0_3) := (blk_cell H119.out.gt3 3).trans rfl
            have hf1 : w118.cell? ⟨g3, 1, none⟩ = some (.int .i64 3) := (blk_cell H119.out.gt2 1).trans rfl
            have hf2 : w118.cell? ⟨g3, 2, none⟩ = some (.int .u32 A) := (blk_cell H119.out.gt2 2).trans rfl
            have hf3 : w118.cell? ⟨g3, 3, none⟩ = some (.int .u32 B) := (blk_cell H119.out.gt2 3).trans rfl
            have hc5 : w118.cell? ⟨g5, 3, none⟩ = some (.slice A3 t.length c3) := (blk_cell H119.out.gt0 3).trans rfl
            have hr_ : P.applyS d u a t 3 A B = (false, [], [], 0, []) := P.applyS_none (by unfold P.takeS; rw [if_neg (by decide), if_neg (by decide), if_pos rfl, if_pos (.inl CB.out)])
            have h := H.out
            rw [hr_] at h
            clear H hr_
            simp only [Prod.mk.injEq] at h
            obtain ⟨rfl, rfl, rfl, rfl, rfl⟩ := h
            go_wp2_with (first | ((with_reducible refine gate_store (t := 64) (p := 4) rfl ?_); refine Aside0.out ?_))
            refine Aside0.mk ?_
            refine st_all ?hw89 ?hN89 rfl ?hp89 (cs := #[.bool false, .slice none 0 0, .slice none 0 0, .int .i64 0, .slice none 0 0]) ?hx89 H119.out.gt1 (by kernel_rfl) rfl (by simp [Value.oneCell']) ?_
            case hw89 => rfl
            case hN89 => rfl
            case hp89 => rfl
            case hx89 => first | rfl | (go_simp; rfl)
            intro w189 hb89 hS89
            have H190 := Aside0.mk (H119.out.wr1 (cs' := #[.bool false, .slice none 0 0, .slice none 0 0, .int .i64 0, .slice none 0 0]) hb89 hS89)
            have n91_ := Aside0.mk (St.other HSx.out H119.out.gt1 (by decide) hS89)
            clear HSx
            have HSx := n91_
            clear n91_
            clear hb89 hS89 H119
            go_wp2
            refine bodyPost_ret (results_cell_row rfl _ _ g4 64 #[.bool false, .slice none 0 0, .slice none 0 0, .int .i64 0, .slice none 0 0] (0, 0) _ rfl H190.out.gt1 Try.underlying64 rfl (by kernel_rfl)) rfl ?_
            exact ⟨_, _, _, rfl, Kd.R_nil _ _ _ _ _, Kd.R_nil _ _ _ _ _, Kd.R_nil _ _ _ _ _, H190.out.below⟩
          · have cBb : (B == 0) = true := beq_iff_eq.mpr (by omega)
            have CB := Aside0.mk cB
            clear cB
            by_cases cU : (u.length : Int) < A
            · have cUb : decide (A ≤ (u.length : Int)) = false := decide_eq_false (by omega)
              have CU := Aside0.mk cU
              clear cU
              have hc0 : w118.cell? ⟨g2, 0, none⟩ = some (.slice A0_0 d.length c0_0) := (blk_cell H119.out.gt3 0).trans rfl
              have hc1 : w118.cell? ⟨g2, 1, none⟩ = some (.slice A0_1 u.length c0_1) := (blk_cell H119.out.gt3 1).trans rfl
              have hc2 : w118.cell? ⟨g2, 2, none⟩ = some (.int .i64 a) := (blk_cell H119.out.gt3 2).trans rfl
              have hc3 : w118.cell? ⟨g2, 3, none⟩ = some (.slice A0_3 t.length c0_3) := (blk_cell H119.out.gt3 3).trans rfl
              have hf1 : w118.cell? ⟨g3, 1, none⟩ = some (.int .i64 3) := (blk_cell H119.out.gt2 1).trans rfl
              have hf2 : w118.cell? ⟨g3, 2, none⟩ = some (.int .u32 A) := (blk_cell H119.out.gt2 2).trans rfl
              have hf3 : w118.cell? ⟨g3, 3, none⟩ = some (.int .u32 B) := (blk_cell H119.out.gt2 3).trans rfl
              have hc5 : w118.cell? ⟨g5, 3, none⟩ = some (.slice A3 t.length c3) := (blk_cell H119.out.gt0 3).trans rfl
              have hr_ : P.applyS d u a t 3 A B = (false, [], [], 0, []) := P.applyS_none (by unfold P.takeS; rw [if_neg (by decide), if_neg (by decide), if_pos rfl, if_pos (.inr CU.out)])
              have h := H.out
              rw [hr_] at h
              clear H hr_
              simp only [Prod.mk.injEq] at h
              obtain ⟨rfl, rfl, rfl, rfl, rfl⟩ := h
              go_wp2_with (first | ((with_reducible refine gate_store (t := 64) (p := 4) rfl ?_); refine Aside0.out ?_))
              refine Aside0.mk ?_
              refine st_all ?hw92 ?hN92 rfl ?hp92 (cs := #[.bool false, .slice none 0 0, .slice none 0 0, .int .i64 0, .slice none 0 0]) ?hx92 H119.out.gt1 (by kernel_rfl) rfl (by simp [Value.oneCell']) ?_
              case hw92 => rfl
              case hN92 => rfl
              case hp92 => rfl
              case hx92 => first | rfl | (go_simp; rfl)
              intro w192 hb92 hS92
              have H193 := Aside0.mk (H119.out.wr1 (cs' := #[.bool false, .slice none 0 0, .slice none 0 0, .int .i64 0, .slice none 0 0]) hb92 hS92)
              have n94_ := Aside0.mk (St.other HSx.out H119.out.gt1 (by decide) hS92)
              clear HSx
              have HSx := n94_
              clear n94_
              clear hb92 hS92 H119
              go_wp2
              refine bodyPost_ret (results_cell_row rfl _ _ g4 64 #[.bool false, .slice none 0 0, .slice none 0 0, .int .i64 0, .slice none 0 0] (0, 0) _ rfl H193.out.gt1 Try.underlying64 rfl (by kernel_rfl)) rfl ?_
              exact ⟨_, _, _, rfl, Kd.R_nil _ _ _ _ _, Kd.R_nil _ _ _ _ _, Kd.R_nil _ _ _ _ _, H193.out.below⟩
            · have cUb : decide (A ≤ (u.length : Int)) = true := decide_eq_true (by omega)
              have CU := Aside0.mk cU
              clear cU
              by_cases cG : a < A
              · have cGb : decide (a < A) = true := decide_eq_true cG
                have CG := Aside0.mk cG
                clear cG
                obtain ⟨m, hm⟩ : ∃ m : Nat, m = (A - a).toNat := ⟨_, rfl⟩
                have HM := Aside0.mk (show A - a = (m : Int) ∧ m ≤ t.length from by have := CG.out; have := CU.out; have := HV5.out; omega)
                have hm2 := HM.out
                have jS : IntKind.i64.wrap (A - a) = (m : Int) := by have := HLu.out; have := CU.out; have := HV5.out; rw [IntKind.wrap_i64]; omega
                clear hm
                obtain ⟨i5, hi5, _, hsz5, _⟩ := info_parts info111
                obtain ⟨A9, hA9⟩ : ∃ A9, A9 = (if c0_3 = m then A0_3 else A0_3.map (·.add (m * 2))) := ⟨_, rfl⟩
                have hcut : ∀ W, (Instr.slice 60 (.slice A0_3 t.length c0_3) (some (.int .i64 (m : Int))) none none).run Try.prog W = .ok (.slice A9 (t.length - m) (c0_3 - m)) W := fun W => by rw [hA9]; exact cut_from (P := Try.prog) 60 111 .i64 Try.underlying60 hi5 2 hsz5 A0_3 t.length c0_3 (m : Int) (by omega) (by omega) W
                have HA9 := Aside0.mk hA9
                clear hA9 hi5 hsz5 hm2
                have hc0 : w118.cell? ⟨g2, 0, none⟩ = some (.slice A0_0 d.length c0_0) := (blk_cell H119.out.gt3 0).trans rfl
                have hc1 : w118.cell? ⟨g2, 1, none⟩ = some (.slice A0_1 u.length c0_1) := (blk_cell H119.out.gt3 1).trans rfl
                have hc2 : w118.cell? ⟨g2, 2, none⟩ = some (.int .i64 a) := (blk_cell H119.out.gt3 2).trans rfl
                have hc3 : w118.cell? ⟨g2, 3, none⟩ = some (.slice A0_3 t.length c0_3) := (blk_cell H119.out.gt3 3).trans rfl
                have hf1 : w118.cell? ⟨g3, 1, none⟩ = some (.int .i64 3) := (blk_cell H119.out.gt2 1).trans rfl
                have hf2 : w118.cell? ⟨g3, 2, none⟩ = some (.int .u32 A) := (blk_cell H119.out.gt2 2).trans rfl
                have hf3 : w118.cell? ⟨g3, 3, none⟩ = some (.int .u32 B) := (blk_cell H119.out.gt2 3).trans rfl
                have hc5 : w118.cell? ⟨g5, 3, none⟩ = some (.slice A3 t.length c3) := (blk_cell H119.out.gt0 3).trans rfl
                go_wp2_with (first | ((with_reducible refine gate_dst (N := 116) rfl ?_); refine Aside0.out ?_))
                refine Aside0.mk ?_
                refine Kd.R_lit k111 _ 111 ?hg95 (N := 116) ?hd95 (xs := ([] : List P.TR)) (inner := []) (ok := fun _ => True) (okp := fun _ => True) ?hr95 ?hp95 (fun _ hk => hk) trivial (Below.refl _ _) (Nat.le_refl _) (by simp) ?_
                case hd95 => rfl
                case hg95 => rfl
                case hr95 => first | (go_simp; done) | (go_simp; rfl)
                case hp95 => exact Reps.none _ _
                intro v7 w195 ho hb_ hg_ hnew_
                clear hg_ hnew_
                clear hc0 hc1 hc2 hc3 hf1 hf2 hf3 hc5
                have HSn_ := Aside0.mk (St.newT HSx.out H119.out.below.size ho hb_)
                have HL7 := Aside0.mk (Kd.R_lower ho H119.out.below.size)
                clear ho HSx
                have HSx := HSn_
                clear HSn_
                have H196 := Aside0.mk (H119.out.step hb_)
                clear hb_ H119
                have hc0 : w195.cell? ⟨g2, 0, none⟩ = some (.slice A0_0 d.length c0_0) := (blk_cell H196.out.gt3 0).trans rfl
                have hc1 : w195.cell? ⟨g2, 1, none⟩ = some (.slice A0_1 u.length c0_1) := (blk_cell H196.out.gt3 1).trans rfl
                have hc2 : w195.cell? ⟨g2, 2, none⟩ = some (.int .i64 a) := (blk_cell H196.out.gt3 2).trans rfl
                have hc3 : w195.cell? ⟨g2, 3, none⟩ = some (.slice A0_3 t.length c0_3) := (blk_cell H196.out.gt3 3).trans rfl
                have hf1 : w195.cell? ⟨g3, 1, none⟩ = some (.int .i64 3) := (blk_cell H196.out.gt2 1).trans rfl
                have hf2 : w195.cell? ⟨g3, 2, none⟩ = some (.int .u32 A) := (blk_cell H196.out.gt2 2).trans rfl
                have hf3 : w195.cell? ⟨g3, 3, none⟩ = some (.int .u32 B) := (blk_cell H196.out.gt2 3).trans rfl
                have hc5 : w195.cell? ⟨g5, 3, none⟩ = some (.slice A3 t.length c3) := (blk_cell H196.out.gt0 3).trans rfl
                go_wp2_with (first | ((with_reducible refine gate_builtin (b := .append) (xs := #[.tmp 116, .tmp 123]) rfl ?_); at_builtin; refine Aside0.out ?_))
                refine Aside0.mk ?_
                clear hc0 hc1 hc2 hc3 hf1 hf2 hf3 hc5
                refine Kd.R_append_rows k111 (w0 := w) w.heap.size rfl (.tmp 116) (.tmp 123) 60 111 (.agg #[(.int .i64 0), (.int .i64 0)]) 16 rfl Try.underlying60 info111 rfl (by decide) (by omega) v7 [] (t.drop m) A9 (t.length - m) (c0_3 - m) (fun _ => True) (fun _ => False) rfl rfl ?aO97 ?aR97 (fun _ _ h => h) (fun _ h => h.elim) ?aF97 ?aB97 ?aS97 ?aL97 ?_
                case aR97 => exact C_len (List.length_drop ..) (by rw [HA9.out]; exact Kd.C_drop (Kd.C_below HR3.out H196.out.below) HM.out.2 HC3.out)
                case aB97 => exact H196.out.below
                case aF97 => exact fun _ _ => trivial
                case aO97 => exact HL7.out
                case aS97 => exact H196.out.below.size
                case aL97 => have := HV5.out; have := HLu.out; rw [List.length_nil]; omega
                intro v8 w197 ho hb_ hg_ hat_
                rw [List.nil_append] at ho
                clear HL7
                obtain ⟨A8, c8, e8⟩ := Kd.R_slice ho
                subst e8
                have hst_ := Stp.grown (S := fun k => some k = (v7 : Value).ownBlock) hg_ (fun k hk => hk.symm)
                clear hat_
                generalize hn8 : (t.drop m).length = n8 at ho ⊢
                clear hn8
                have H198 := Aside0.mk (H196.out.stp hst_ (fun k hk => Kd.R_base HSx.out.t k hk.symm) (fun b_ hb he => by
                  obtain ⟨cells, hc⟩ := Kd.R_typed HSx.out.t b_.1 he.symm
                  have h2 := (H196.out.at_ b_ hb).2
                  rw [hc] at h2
                  simp only [List.mem_cons, List.not_mem_nil, or_false] at hb
                  rcases hb with rfl | rfl | rfl | rfl <;> cases h2))
                have HS2_ := Aside0.mk (St.onT HSx.out ho hg_)
                clear hst_ H196 HSx ho hb_ hg_
                have HSx := HS2_
                clear HS2_
                go_wp2_with (first | ((with_reducible refine gate_store (t := 60) (p := 125) rfl ?_); refine Aside0.out ?_))
                refine Aside0.mk ?_
                refine st (o' := 3) (u := .slice A8 n8 c8) (seg := [.slice A8 n8 c8]) ?hw99 ?hN99 rfl ?hp99 ?hx99 rfl H198.out.gt0 (by kernel_rfl) ?hf99 (by simp [Value.oneCell']) ?_
                case hw99 => rfl
                case hN99 => rfl
                case hp99 => rfl
                case hx99 => rfl
                case hf99 => show 3 + 1 ≤ 4; decide
                intro w199 hb99 hS99
                have H200 := Aside0.mk (H198.out.wr0 (cs' := #[.slice A0 d.length c0, .slice A1 u.length c1, .int .i64 a, .slice A8 n8 c8]) hb99 hS99)
                have n101_ := Aside0.mk (St.other HSx.out H198.out.gt0 (by decide) hS99)
                clear HSx
                have HSx := n101_
                clear n101_
                clear hb99 hS99 H198
                go_wp2_with (first | ((with_reducible refine gate_store (t := 2) (p := 127) rfl ?_); refine Aside0.out ?_))
                refine Aside0.mk ?_
                refine st (o' := 2) (u := .int .i64 A) (seg := [.int .i64 A]) ?hw102 ?hN102 rfl ?hp102 ?hx102 rfl H200.out.gt0 (by kernel_rfl) ?hf102 (by simp [Value.oneCell']) ?_
                case hw102 => rfl
                case hN102 => rfl
                case hp102 => rfl
                case hx102 => rfl
                case hf102 => show 2 + 1 ≤ 4; decide
                intro w202 hb102 hS102
                have H203 := Aside0.mk (H200.out.wr0 (cs' := #[.slice A0 d.length c0, .slice A1 u.length c1, .int .i64 A, .slice A8 n8 c8]) hb102 hS102)
                have n104_ := Aside0.mk (St.other HSx.out H200.out.gt0 (by decide) hS102)
                clear HSx
                have HSx := n104_
                clear n104_
                clear hb102 hS102 H200
                have hr_ : P.takeS d u a t 3 A B = some (d, u, A, t.drop m) := by unfold P.takeS; rw [if_neg (by decide), if_neg (by decide), if_pos rfl, if_neg (by rintro (h | h); exact h (by have := CB.out; omega); have := CU.out; omega), if_pos CG.out, show (A - a).toNat = m from by have := HM.out; omega]
                have hr2_ := P.applyS_some HV.out hr_
                have h := H.out
                rw [hr2_] at h
                clear H hr_ hr2_
                simp only [Prod.mk.injEq] at h
                obtain ⟨rfl, rfl, rfl, rfl, rfl⟩ := h
                go_wp2_with (first | ((with_reducible refine gate_dst (N := 128) rfl ?_); refine Aside0.out ?_))
                refine Aside0.mk ?_
                refine ld ?hw105 rfl ?hx105 H203.out.gt0 Try.underlying62 rfl (by kernel_rfl) ?_
                case hw105 => rfl
                case hx105 => rfl
                go_wp2_with (first | ((with_reducible refine gate_store (t := 64) (p := 4) rfl ?_); refine Aside0.out ?_))
                refine Aside0.mk ?_
                refine st_all ?hw106 ?hN106 rfl ?hp106 (cs := #[.bool true, .slice A0 d.length c0, .slice A1 u.length c1, .int .i64 A, .slice A8 n8 c8]) ?hx106 H203.out.gt1 (by kernel_rfl) rfl (by simp [Value.oneCell']) ?_
                case hw106 => rfl
                case hN106 => rfl
                case hp106 => rfl
                case hx106 => first | rfl | (go_simp; rfl)
                intro w206 hb106 hS106
                have H207 := Aside0.mk (H203.out.wr1 (cs' := #[.bool true, .slice A0 d.length c0, .slice A1 u.length c1, .int .i64 A, .slice A8 n8 c8]) hb106 hS106)
                have n108_ := Aside0.mk (St.other HSx.out H203.out.gt1 (by decide) hS106)
                clear HSx
                have HSx := n108_
                clear n108_
                clear hb106 hS106 H203
                go_wp2
                refine bodyPost_ret (results_cell_row rfl _ _ g4 64 #[.bool true, .slice A0 d.length c0, .slice A1 u.length c1, .int .i64 A, .slice A8 n8 c8] (0, 0) _ rfl H207.out.gt1 Try.underlying64 rfl (by kernel_rfl)) rfl ?_
                exact ⟨_, _, _, rfl, HSx.out.d, HSx.out.u, HSx.out.t, H207.out.below⟩
              · have cGb : decide (a < A) = false := decide_eq_false cG
                have CG := Aside0.mk cG
                clear cG
                have hc0 : w118.cell? ⟨g2, 0, none⟩ = some (.slice A0_0 d.length c0_0) := (blk_cell H119.out.gt3 0).trans rfl
                have hc1 : w118.cell? ⟨g2, 1, none⟩ = some (.slice A0_1 u.length c0_1) := (blk_cell H119.out.gt3 1).trans rfl
                have hc2 : w118.cell? ⟨g2, 2, none⟩ = some (.int .i64 a) := (blk_cell H119.out.gt3 2).trans rfl
                have hc3 : w118.cell? ⟨g2, 3, none⟩ = some (.slice A0_3 t.length c0_3) := (blk_cell H119.out.gt3 3).trans rfl
                have hf1 : w118.cell? ⟨g3, 1, none⟩ = some (.int .i64 3) := (blk_cell H119.out.gt2 1).trans rfl
                have hf2 : w118.cell? ⟨g3, 2, none⟩ = some (.int .u32 A) := (blk_cell H119.out.gt2 2).trans rfl
                have hf3 : w118.cell? ⟨g3, 3, none⟩ = some (.int .u32 B) := (blk_cell H119.out.gt2 3).trans rfl
                have hc5 : w118.cell? ⟨g5, 3, none⟩ = some (.slice A3 t.length c3) := (blk_cell H119.out.gt0 3).trans rfl
                have hr_ : P.takeS d u a t 3 A B = some (d, u, a, t) := by unfold P.takeS; rw [if_neg (by decide), if_neg (by decide), if_pos rfl, if_neg (by rintro (h | h); exact h (by have := CB.out; omega); have := CU.out; omega), if_neg (by have := CG.out; omega)]
                have hr2_ := P.applyS_some HV.out hr_
                have h := H.out
                rw [hr2_] at h
                clear H hr_ hr2_
                simp only [Prod.mk.injEq] at h
                obtain ⟨rfl, rfl, rfl, rfl, rfl⟩ := h
                go_wp2_with (first | ((with_reducible refine gate_dst (N := 128) rfl ?_); refine Aside0.out ?_))
                refine Aside0.mk ?_
                refine ld ?hw109 rfl ?hx109 H119.out.gt0 Try.underlying62 rfl (by kernel_rfl) ?_
                case hw109 => rfl
                case hx109 => rfl
                go_wp2_with (first | ((with_reducible refine gate_store (t := 64) (p := 4) rfl ?_); refine Aside0.out ?_))
                refine Aside0.mk ?_
                refine st_all ?hw110 ?hN110 rfl ?hp110 (cs := #[.bool true, .slice A0 d.length c0, .slice A1 u.length c1, .int .i64 a, .slice A3 t.length c3]) ?hx110 H119.out.gt1 (by kernel_rfl) rfl (by simp [Value.oneCell']) ?_
                case hw110 => rfl
                case hN110 => rfl
                case hp110 => rfl
                case hx110 => first | rfl | (go_simp; rfl)
                intro w210 hb110 hS110
                have H211 := Aside0.mk (H119.out.wr1 (cs' := #[.bool true, .slice A0 d.length c0, .slice A1 u.length c1, .int .i64 a, .slice A3 t.length c3]) hb110 hS110)
                have n112_ := Aside0.mk (St.other HSx.out H119.out.gt1 (by decide) hS110)
                clear HSx
                have HSx := n112_
                clear n112_
                clear hb110 hS110 H119
                go_wp2
                refine bodyPost_ret (results_cell_row rfl _ _ g4 64 #[.bool true, .slice A0 d.length c0, .slice A1 u.length c1, .int .i64 a, .slice A3 t.length c3] (0, 0) _ rfl H211.out.gt1 Try.underlying64 rfl (by kernel_rfl)) rfl ?_
                exact ⟨_, _, _, rfl, HSx.out.d, HSx.out.u, HSx.out.t, H211.out.below⟩
        · have kb1 : (kd == 1) = false := beq_eq_false_iff_ne.mpr k1
          have kb2 : (kd == 2) = false := beq_eq_false_iff_ne.mpr k2
          have kb3 : (kd == 3) = false := beq_eq_false_iff_ne.mpr k3
          have K1 := Aside0.mk k1
          have K2 := Aside0.mk k2
          have K3 := Aside0.mk k3
          clear k1 k2 k3
          have hc0 : w118.cell? ⟨g2, 0, none⟩ = some (.slice A0_0 d.length c0_0) := (blk_cell H119.out.gt3 0).trans rfl
          have hc1 : w118.cell? ⟨g2, 1, none⟩ = some (.slice A0_1 u.length c0_1) := (blk_cell H119.out.gt3 1).trans rfl
          have hc2 : w118.cell? ⟨g2, 2, none⟩ = some (.int .i64 a) := (blk_cell H119.out.gt3 2).trans rfl
          have hc3 : w118.cell? ⟨g2, 3, none⟩ = some (.slice A0_3 t.length c0_3) := (blk_cell H119.out.gt3 3).trans rfl
          have hf1 : w118.cell? ⟨g3, 1, none⟩ = some (.int .i64 kd) := (blk_cell H119.out.gt2 1).trans rfl
          have hf2 : w118.cell? ⟨g3, 2, none⟩ = some (.int .u32 A) := (blk_cell H119.out.gt2 2).trans rfl
          have hf3 : w118.cell? ⟨g3, 3, none⟩ = some (.int .u32 B) := (blk_cell H119.out.gt2 3).trans rfl
          have hc5 : w118.cell? ⟨g5, 3, none⟩ = some (.slice A3 t.length c3) := (blk_cell H119.out.gt0 3).trans rfl
          have hr_ : P.applyS d u a t kd A B = (false, [], [], 0, []) := P.applyS_none (by unfold P.takeS; rw [if_neg K1.out, if_neg K2.out, if_neg K3.out])
          have h := H.out
          rw [hr_] at h
          clear H hr_
          simp only [Prod.mk.injEq] at h
          obtain ⟨rfl, rfl, rfl, rfl, rfl⟩ := h
          go_wp2_with (first | ((with_reducible refine gate_store (t := 64) (p := 4) rfl ?_); refine Aside0.out ?_))
          refine Aside0.mk ?_
          refine st_all ?hw113 ?hN113 rfl ?hp113 (cs := #[.bool false, .slice none 0 0, .slice none 0 0, .int .i64 0, .slice none 0 0]) ?hx113 H119.out.gt1 (by kernel_rfl) rfl (by simp [Value.oneCell']) ?_
          case hw113 => rfl
          case hN113 => rfl
          case hp113 => rfl
          case hx113 => first | rfl | (go_simp; rfl)
          intro w213 hb113 hS113
          have H214 := Aside0.mk (H119.out.wr1 (cs' := #[.bool false, .slice none 0 0, .slice none 0 0, .int .i64 0, .slice none 0 0]) hb113 hS113)
          have n115_ := Aside0.mk (St.other HSx.out H119.out.gt1 (by decide) hS113)
          clear HSx
          have HSx := n115_
          clear n115_
          clear hb113 hS113 H119
          go_wp2
          refine bodyPost_ret (results_cell_row rfl _ _ g4 64 #[.bool false, .slice none 0 0, .slice none 0 0, .int .i64 0, .slice none 0 0] (0, 0) _ rfl H214.out.gt1 Try.underlying64 rfl (by kernel_rfl)) rfl ?_
          exact ⟨_, _, _, rfl, Kd.R_nil _ _ _ _ _, Kd.R_nil _ _ _ _ _, Kd.R_nil _ _ _ _ _, H214.out.below⟩
end Go.Proofs.Ytgfadfahbhcllaa.Q
end
section
namespace Go.Proofs.Ytgfadfahbhcllaa.Q
open Go.RowKit Go.Proofs.YtgfadfahbhcllaaW.PrintWords Go.Proofs.YtgfadfahbhcllaaW.PrintLast Go.Proofs.YtgfadfahbhcllaaW.PrintMore Go.Proofs.Ytgfadfahbhcllaa.LK
set_option linter.unusedVariables false
theorem mk_laws_markApplyRes {k b : Nat} {P0 P1 P3 : Nat → Prop} {a : Bool} {a2 : Int} {A0 A1 A3 : Option Addr} {n0 n1 n3 c0 c1 c3 : Nat} {l0 l0' l1 l1' : List Int} {l3 l3' : List S111} {m m' : Int} {w : World} (hbw : b ≤ w.heap.size)
    (hR : Kd.R (Kd.int .i64) 2 w b P0 (.slice A0 n0 c0) l0) (hS : Kd.R (Kd.int .i64) 2 w b P1 (.slice A1 n1 c1) l1) (hT : Kd.R k111 111 w b P3 (.slice A3 n3 c3) l3) (hne : ∀ q, P1 q → some q ≠ (Value.slice A0 n0 c0).ownBlock) (hn3 : ∀ q, P3 q → True) (h : laws_markApplyRes.f k a l0 l1 a2 l3 m = some (m', l0', l1', l3')) :
    Calls Try.prog 45 #[.agg #[.bool a, .slice A0 n0 c0, .slice A1 n1 c1, .int .i64 a2, .slice A3 n3 c3], .int .i64 m] w fun e w' => e = .returned (.int .i64 m') ∧ Kd.R (Kd.int .i64) 2 w' b P0 (.slice A0 n0 c0) l0' ∧ Kd.R (Kd.int .i64) 2 w' b P1 (.slice A1 n1 c1) l1' ∧ Kd.R k111 111 w' b P3 (.slice A3 n3 c3) l3' ∧ Stp (fun q => P0 q ∨ P1 q ∨ P3 q) w w' := by
  have hs := trunc_size hbw
  have hb := trunc_below hbw
  have t0 : Kd.R (Kd.int .i64) 2 w b (fun q => some q = (Value.slice A0 n0 c0).ownBlock) (.slice A0 n0 c0) l0 := Kd.R_tight rfl hR
  have t1 : Kd.R (Kd.int .i64) 2 w b (fun q => some q = (Value.slice A1 n1 c1).ownBlock) (.slice A1 n1 c1) l1 := Kd.R_tight rfl hS
  have t3 : Kd.R k111 111 w b (fun q => some q = (Value.slice A3 n3 c3).ownBlock) (.slice A3 n3 c3) l3 := Kd.R_tight rfl hT
  refine (laws_markApplyRes.calls k a (fun q => some q = (Value.slice A0 n0 c0).ownBlock) _ l0 (fun q => some q = (Value.slice A1 n1 c1).ownBlock) _ l1 a2 (fun q => some q = (Value.slice A3 n3 c3).ownBlock) _ l3 m m' l0' l1' l3' (trunc w b) w (by rw [hs]; exact hb) (by rw [hs]; exact t0) (fun q h0 h1 => hne q (hS.1 q h1.symm) h0) (by rw [hs]; exact t1) (fun q h1 h0 => hne q (hS.1 q h1.symm) h0) (by rw [hs]; exact t3) h).mono ?_
  rintro e w' ⟨rfl, hr', hs', ht', hb', hk⟩
  rw [hs] at hr' hs' ht' hb'
  exact ⟨rfl, Kd.R_mono (Kd.R_tight rfl hr') (fun q hq => hR.1 q hq.symm), Kd.R_mono (Kd.R_tight rfl hs') (fun q hq => hS.1 q hq.symm), Kd.R_mono (Kd.R_tight rfl ht') (fun q hq => hT.1 q hq.symm), ⟨hb'.os.trans hb.os.symm, hb'.tape.trans hb.tape.symm, hb'.output.trans hb.output.symm, hk.1, fun i hi hn => hk.2 i hi (fun h => hn (h.elim (fun h => .inl (hR.1 i h.symm)) (fun h => h.elim (fun h => .inr (.inl (hS.1 i h.symm))) (fun h => .inr (.inr (hT.1 i h.symm))))))⟩⟩
end Go.Proofs.Ytgfadfahbhcllaa.Q
end
section
namespace Go.Proofs.Ytgfadfahbhcllaa.Q
open Go.RowKit Go.Proofs.YtgfadfahbhcllaaW.PrintWords Go.Proofs.YtgfadfahbhcllaaW.PrintLast Go.Proofs.YtgfadfahbhcllaaW.PrintMore Go.Proofs.Ytgfadfahbhcllaa.LK
set_option linter.unusedVariables false
theorem mk_laws_markState {k b : Nat} {P0 P1 P3 : Nat → Prop} {a2 : Int} {A0 A1 A3 : Option Addr} {n0 n1 n3 c0 c1 c3 : Nat} {l0 l0' l1 l1' : List Int} {l3 l3' : List S111} {m m' : Int} {w : World} (hbw : b ≤ w.heap.size)
    (hR : Kd.R (Kd.int .i64) 2 w b P0 (.slice A0 n0 c0) l0) (hS : Kd.R (Kd.int .i64) 2 w b P1 (.slice A1 n1 c1) l1) (hT : Kd.R k111 111 w b P3 (.slice A3 n3 c3) l3) (hne : ∀ q, P1 q → some q ≠ (Value.slice A0 n0 c0).ownBlock) (hn3 : ∀ q, P3 q → True) (h : laws_markState.f k l0 l1 a2 l3 m = some (m', l0', l1', l3')) :
    Calls Try.prog 44 #[.agg #[.slice A0 n0 c0, .slice A1 n1 c1, .int .i64 a2, .slice A3 n3 c3], .int .i64 m] w fun e w' => e = .returned (.int .i64 m') ∧ Kd.R (Kd.int .i64) 2 w' b P0 (.slice A0 n0 c0) l0' ∧ Kd.R (Kd.int .i64) 2 w' b P1 (.slice A1 n1 c1) l1' ∧ Kd.R k111 111 w' b P3 (.slice A3 n3 c3) l3' ∧ Stp (fun q => P0 q ∨ P1 q ∨ P3 q) w w' := by
  have hs := trunc_size hbw
  have hb := trunc_below hbw
  have t0 : Kd.R (Kd.int .i64) 2 w b (fun q => some q = (Value.slice A0 n0 c0).ownBlock) (.slice A0 n0 c0) l0 := Kd.R_tight rfl hR
  have t1 : Kd.R (Kd.int .i64) 2 w b (fun q => some q = (Value.slice A1 n1 c1).ownBlock) (.slice A1 n1 c1) l1 := Kd.R_tight rfl hS
  have t3 : Kd.R k111 111 w b (fun q => some q = (Value.slice A3 n3 c3).ownBlock) (.slice A3 n3 c3) l3 := Kd.R_tight rfl hT
  refine (laws_markState.calls k (fun q => some q = (Value.slice A0 n0 c0).ownBlock) _ l0 (fun q => some q = (Value.slice A1 n1 c1).ownBlock) _ l1 a2 (fun q => some q = (Value.slice A3 n3 c3).ownBlock) _ l3 m m' l0' l1' l3' (trunc w b) w (by rw [hs]; exact hb) (by rw [hs]; exact t0) (fun q h0 h1 => hne q (hS.1 q h1.symm) h0) (by rw [hs]; exact t1) (fun q h1 h0 => hne q (hS.1 q h1.symm) h0) (by rw [hs]; exact t3) h).mono ?_
  rintro e w' ⟨rfl, hr', hs', ht', hb', hk⟩
  rw [hs] at hr' hs' ht' hb'
  exact ⟨rfl, Kd.R_mono (Kd.R_tight rfl hr') (fun q hq => hR.1 q hq.symm), Kd.R_mono (Kd.R_tight rfl hs') (fun q hq => hS.1 q hq.symm), Kd.R_mono (Kd.R_tight rfl ht') (fun q hq => hT.1 q hq.symm), ⟨hb'.os.trans hb.os.symm, hb'.tape.trans hb.tape.symm, hb'.output.trans hb.output.symm, hk.1, fun i hi hn => hk.2 i hi (fun h => hn (h.elim (fun h => .inl (hR.1 i h.symm)) (fun h => h.elim (fun h => .inr (.inl (hS.1 i h.symm))) (fun h => .inr (.inr (hT.1 i h.symm))))))⟩⟩
end Go.Proofs.Ytgfadfahbhcllaa.Q
end
