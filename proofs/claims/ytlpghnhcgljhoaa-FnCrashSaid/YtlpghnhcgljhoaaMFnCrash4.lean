/- Part 4 of 5 of the proof that the law FnCrash returns true at every input. No further condition. -/
import Derived.Test.YtlpghnhcgljhoaaMFnCrash3
section
namespace Go.Proofs.Ytlpghnhcgljhoaa.Q
open Go.RowKit Go.Proofs.YtlpghnhcgljhoaaW.PrintWords Go.Proofs.YtlpghnhcgljhoaaW.PrintLast Go.Proofs.YtlpghnhcgljhoaaW.PrintMore Go.Proofs.Ytlpghnhcgljhoaa.LK
attribute [local go_sem] max2_int min2_int max_two min_two max_three min_three max_four min_four
set_option linter.unusedVariables false
set_option linter.unusedSimpArgs false
def crashN (keep : List Bool) (tear at_ : Int) (i : Nat) : Nat := if (i : Int) = tear then (min (max at_ 0) 64).toNat else if keep.getD i false = true then 64 else 0
def crashTo (l : List Int) (ps : List S43) (keep : List Bool) (tear at_ : Int) : Nat → List Int
  | 0 => l
  | n + 1 => match ps[n]? with
    | some p => splice (crashTo l ps keep tear at_ n) (p.f0 * 64).toNat (p.f1.take (crashN keep tear at_ n))
    | none => crashTo l ps keep tear at_ n
theorem crashTo_length (l : List Int) (ps : List S43) (keep : List Bool) (tear at_ : Int) (h : ∀ p ∈ ps, 0 ≤ p.f0 ∧ p.f0 * 64 + p.f1.length ≤ l.length) : ∀ n, (crashTo l ps keep tear at_ n).length = l.length
  | 0 => rfl
  | n + 1 => by
    have ih := crashTo_length l ps keep tear at_ h n
    unfold crashTo
    cases hp : ps[n]? with
    | none => exact ih
    | some p =>
      have h1 := h p (List.mem_of_getElem? hp)
      show (splice _ _ _).length = _
      rw [length_splice _ _ _ (by rw [ih, List.length_take]; omega), ih]
def sizesC (l0 : List Int) (l1 : List S43) (keep : List Bool) : Prop := l0.length ≤ 2097152 ∧ l1.length ≤ 2097152 ∧ (∀ p ∈ l1, p.f1.length ≤ 2097152) ∧ keep.length ≤ 2097152
instance (l0 : List Int) (l1 : List S43) (keep : List Bool) : Decidable (sizesC l0 l1 keep) := by unfold sizesC; infer_instance
def devCrashed (l0 : List Int) (l1 : List S43) (a2 : Int) (keep : List Bool) (tear at_ : Int) : List Int × List S43 × Int × Bool := if P.validDev l0 l1 a2 = true then (crashTo l0 l1 keep tear at_ l1.length, [], -1, false) else ([], [], 0, false)
def impl_DevCrash.f (l0_0 : List Int) (l0_1 : List S43) (a0_2 : Int) (a0_3 : Bool) (l1_0 : List Bool) (a1_1 : Int) (a1_2 : Int) : Option (List Int × List S43 × Int × Bool) :=
  if sizesC l0_0 l0_1 l1_0 then some (devCrashed l0_0 l0_1 a0_2 l1_0 a1_1 a1_2) else none
set_option maxHeartbeats 8000000 in
set_option maxRecDepth 100000 in
theorem impl_DevCrash.calls (A0_0 : Option Addr) (c0_0 : Nat) (l0_0 : List Int) (A0_1 : Option Addr) (c0_1 : Nat) (l0_1 : List S43) (a0_2 : Int) (a0_3 : Bool) (A1_0 : Option Addr) (c1_0 : Nat) (l1_0 : List Bool) (a1_1 : Int) (a1_2 : Int) (r1 : List Int) (r2 : List S43) (r3 : Int) (r4 : Bool) (w : World)
    (hr0_0 : Kd.C (Kd.int .u8) w A0_0 l0_0.length l0_0) (hc0_0 : l0_0.length ≤ c0_0) (hr0_1 : Kd.C k43 w A0_1 l0_1.length l0_1) (hc0_1 : l0_1.length ≤ c0_1) (hr1_0 : Kd.C Kd.bool w A1_0 l1_0.length l1_0) (hc1_0 : l1_0.length ≤ c1_0) (h : impl_DevCrash.f l0_0 l0_1 a0_2 a0_3 l1_0 a1_1 a1_2 = some (r1, r2, r3, r4)) :
    Calls Try.prog 6 #[.agg #[.slice A0_0 l0_0.length c0_0, .slice A0_1 l0_1.length c0_1, .int .i64 a0_2, .bool a0_3], .agg #[.slice A1_0 l1_0.length c1_0, .int .i64 a1_1, .int .i64 a1_2]] w fun e w' => ∃ v0_ v1_ : Value, e = .returned (.agg #[v0_, v1_, .int .i64 r3, .bool r4]) ∧ Kd.R (Kd.int .u8) 5 w' w.heap.size (fun _ => True) v0_ r1 ∧ Kd.S k43 43 w' w.heap.size (fun k_ => some k_ ≠ (v0_ : Value).ownBlock) v1_ r2 ∧ Below w.heap.size w w' := by
  unfold impl_DevCrash.f at h
  by_cases hsz : sizesC l0_0 l0_1 l1_0
  case neg => rw [if_neg hsz] at h; cases h
  rw [if_pos hsz] at h
  have h := Option.some.inj h
  obtain ⟨k, hv⟩ := (P.impl_ValidDev_ev l0_0 l0_1 a0_2 a0_3 (Nat.le_trans hsz.1 (by decide)) (Nat.le_trans hsz.2.1 (by decide)) (fun p hp => Nat.le_trans (hsz.2.2.1 p hp) (by decide))).ex
  have HV := Aside0.mk hv
  have HR0 := Aside0.mk hr0_0
  have HR1 := Aside0.mk hr0_1
  have HRK := Aside0.mk hr1_0
  have HC0 := Aside0.mk hc0_0
  have HC1 := Aside0.mk hc0_1
  have H := Aside0.mk h
  have HSz := Aside0.mk hsz
  have H0 := Aside0.mk (Bx.refl w)
  clear hr0_0 hr0_1 hr1_0 hc0_0 hc0_1 hc1_0 hv h hsz
  go_enter Try.func6, Try.ntmps6
  go_wp2_with (first | ((with_reducible refine gate_dst (N := 2) rfl ?_); refine Aside0.out ?_))
  refine Aside0.mk ?_
  refine mk ?hw1 (N := 2) ?hd1 (cs := #[.slice A0_0 l0_0.length c0_0, .slice A0_1 l0_1.length c0_1, .int .i64 a0_2, .bool a0_3]) (t := 25) ?hr1 ?_
  case hd1 => rfl
  case hw1 => rfl
  case hr1 => first | (go_simp; done) | (go_simp; rfl)
  intro g2 hg2_ w101 hb1 hB1
  have H102 := Aside0.mk (H0.out.new hg2_ hb1 hB1)
  clear hg2_ hb1 hB1 H0
  go_wp2_with (first | ((with_reducible refine gate_dst (N := 3) rfl ?_); refine Aside0.out ?_))
  refine Aside0.mk ?_
  refine mk ?hw3 (N := 3) ?hd3 (cs := #[.slice A1_0 l1_0.length c1_0, .int .i64 a1_1, .int .i64 a1_2]) (t := 28) ?hr3 ?_
  case hd3 => rfl
  case hw3 => rfl
  case hr3 => first | (go_simp; done) | (go_simp; rfl)
  intro g3 hg3_ w103 hb3 hB3
  have H104 := Aside0.mk (H102.out.new hg3_ hb3 hB3)
  clear hg3_ hb3 hB3 H102
  go_wp2_with (first | ((with_reducible refine gate_dst (N := 4) rfl ?_); refine Aside0.out ?_))
  refine Aside0.mk ?_
  refine mk ?hw5 (N := 4) ?hd5 (cs := #[.slice none 0 0, .slice none 0 0, .int .i64 0, .bool false]) (t := 25) ?hr5 ?_
  case hd5 => rfl
  case hw5 => rfl
  case hr5 => first | (go_simp; done) | (go_simp; rfl)
  intro g4 hg4_ w105 hb5 hB5
  have H106 := Aside0.mk (H104.out.new hg4_ hb5 hB5)
  clear hg4_ hb5 hB5 H104
  go_wp2_with (first | ((with_reducible refine gate_dst (N := 9) rfl ?_); refine Aside0.out ?_))
  refine Aside0.mk ?_
  refine ld ?hw7 rfl ?hx7 H106.out.gt2 Try.underlying25 rfl (by kernel_rfl) ?_
  case hw7 => rfl
  case hx7 => rfl
  go_wp2_with (first | ((with_reducible refine gate_callee (f := 7) rfl ?_); refine Aside0.out ?_))
  refine Aside0.mk ?_
  refine goesW (some 10) rfl ?hw8 Try.func7 (by kernel_rfl) rfl #[.agg #[.slice A0_0 l0_0.length c0_0, .slice A0_1 l0_1.length c0_1, .int .i64 a0_2, .bool a0_3]] rfl (by (try simp only [List.map_toArray, List.map_cons, List.map_nil]); first | done | rfl) ?_
  case hw8 => rfl
  refine (impl_ValidDev.calls k _ _ l0_0 _ _ l0_1 a0_2 a0_3 _ _ (Kd.C_below HR0.out H106.out.below) HC0.out (Kd.C_below HR1.out H106.out.below) HC1.out HV.out).mono ?_
  rintro e w108 ⟨rfl, hb_⟩
  refine ⟨_, rfl, ?_⟩
  have H109 := Aside0.mk (H106.out.step hb_)
  clear hb_ H106
  by_cases hval : P.validDev l0_0 l0_1 a0_2 = true
  case neg =>
    rw [Bool.eq_false_iff.mpr hval]
    have HNV := Aside0.mk hval
    clear hval
    go_wp2_with (first | ((with_reducible refine gate_store (t := 25) (p := 4) rfl ?_); refine Aside0.out ?_))
    refine Aside0.mk ?_
    refine st_all ?hw10 ?hN10 rfl ?hp10 (cs := #[.slice none 0 0, .slice none 0 0, .int .i64 0, .bool false]) ?hx10 H109.out.gt0 (by kernel_rfl) rfl (by simp [Value.oneCell']) ?_
    case hw10 => rfl
    case hN10 => rfl
    case hp10 => rfl
    case hx10 => first | rfl | (go_simp; rfl)
    intro w110 hb10 hS10
    have H111 := Aside0.mk (H109.out.wr0 (cs' := #[.slice none 0 0, .slice none 0 0, .int .i64 0, .bool false]) hb10 hS10)
    clear hb10 hS10 H109
    go_wp2
    refine bodyPost_ret (results_cell_row rfl _ _ g4 25 #[.slice none 0 0, .slice none 0 0, .int .i64 0, .bool false] (0, 0) _ rfl H111.out.gt0 Try.underlying25 rfl (by kernel_rfl)) rfl ?_
    have h := H.out
    unfold devCrashed at h
    rw [if_neg HNV.out] at h
    cases h
    exact ⟨_, _, rfl, Kd.R_nil _ _ _ _ _, Kd.S_nil _ _ _ _ _, H111.out.below⟩
  rw [hval]
  have h := H.out
  unfold devCrashed at h
  rw [if_pos hval] at h
  have HF := Aside0.mk h
  have hdv := P.validDev_is.1 hval
  unfold P.headDev at hdv
  have HPs := Aside0.mk hdv.2
  have HHd := Aside0.mk hdv.1
  clear h hval hdv H
  have hd0 : w108.cell? ⟨g2, 0, none⟩ = some (.slice A0_0 l0_0.length c0_0) := (blk_cell H109.out.gt2 0).trans rfl
  go_wp2_with (first | ((with_reducible refine gate_dst (N := 15) rfl ?_); refine Aside0.out ?_))
  refine Aside0.mk ?_
  refine Kd.R_append_rows (Kd.int .u8) (w0 := w108) w108.heap.size rfl (.const (.slice none 0 0)) (.tmp 14) 22 5 (.int .u8 0) 1 rfl Try.underlying22 info5 rfl (by decide) (by omega) (.slice none 0 0) ([] : List Int) l0_0 _ _ _ (fun k_ => w108.heap.size ≤ k_) (fun _ => False) rfl rfl ?aO ?aR (fun _ _ h => h) (fun _ h => h.elim) ?aF ?aB ?aS ?aL ?_
  case aR => exact Kd.C_below HR0.out H109.out.below
  case aF => exact fun _ h => h
  case aB => exact Below.refl _ _
  case aO => exact Kd.R_nil _ _ _ _ _
  case aS => exact Nat.le_refl _
  case aL => have := HSz.out.1; simp only [List.length_nil]; omega
  intro v15 w112 ho hb hg hat
  have hb_ : Below w108.heap.size w108 w112 := ⟨hg.os, hg.tape, hg.output, hg.size, fun i hi => hg.block i hi (by simp [Value.ownBlock])⟩
  rw [List.nil_append] at ho
  obtain ⟨A15, c15, e15⟩ := Kd.R_slice ho
  subst e15
  obtain ⟨B, tl, eA, -, ed, hB1, -, hB2, hB3, hB4⟩ := R_block ho (by have := HHd.out; omega)
  subst eA ed
  have HBmax := Aside0.mk hB4
  have hltg4 := blk_lt H109.out.gt0
  have hltg3 := blk_lt H109.out.gt1
  have hltg2 := blk_lt H109.out.gt2
  have H113 := Aside0.mk (H109.out.step hb_)
  have H114 := Aside0.mk (Bx_add H113.out (B := B) (Nat.le_trans H109.out.below.size hB1) hB3 (by intro b hb; simp only [List.mem_cons, List.not_mem_nil, or_false] at hb; rcases hb with rfl | rfl | rfl <;> (dsimp only; omega)))
  clear H109 H113 ho hb hg hat hb_ hB1 hB2 hB3 hB4 hltg4 hltg3 hltg2 hd0
  go_wp2_with (first | ((with_reducible refine gate_dst (N := 5) rfl ?_); refine Aside0.out ?_))
  refine Aside0.mk ?_
  refine mk ?hw15 (N := 5) ?hd15 (cs := #[.slice none 0 0, .slice none 0 0, .int .i64 0, .bool false]) (t := 25) ?hr15 ?_
  case hd15 => rfl
  case hw15 => rfl
  case hr15 => first | (go_simp; done) | (go_simp; rfl)
  intro g5 hg5_ w115 hb15 hB15
  have H116 := Aside0.mk (H114.out.new hg5_ hb15 hB15)
  clear hg5_ hb15 hB15 H114
  go_wp2_with (first | ((with_reducible refine gate_store (t := 25) (p := 5) rfl ?_); refine Aside0.out ?_))
  refine Aside0.mk ?_
  refine st_all ?hw17 ?hN17 rfl ?hp17 (cs := #[.slice (some ⟨B, 0, none⟩) l0_0.length (l0_0.length + tl.length), .slice none 0 0, .int .i64 (-1), .bool false]) ?hx17 H116.out.gt0 (by kernel_rfl) rfl (by simp [Value.oneCell']) ?_
  case hw17 => rfl
  case hN17 => rfl
  case hp17 => rfl
  case hx17 => first | rfl | (go_simp; rfl)
  intro w117 hb17 hS17
  have H118 := Aside0.mk (H116.out.wr0 (cs' := #[.slice (some ⟨B, 0, none⟩) l0_0.length (l0_0.length + tl.length), .slice none 0 0, .int .i64 (-1), .bool false]) hb17 hS17)
  clear hb17 hS17 H116
  have hd1 : w117.cell? ⟨g2, 1, none⟩ = some (.slice A0_1 l0_1.length c0_1) := (blk_cell H118.out.gt4 1).trans rfl
  go_wp2
  go_loopg [20] (l0_1.length + 1) (fun kq v20 w' => ∃ (i : Nat) (x : Int) (wl : World), v20 = .int .i64 x ∧ Aside0 (wl = w') ∧ Aside0 (x = (i : Int)) ∧ Aside0 (kq + i = l0_1.length + 1) ∧ Aside0 (i ≤ l0_1.length) ∧ Aside0 (Bx w [(g5, #[.slice (some ⟨B, 0, none⟩) l0_0.length (l0_0.length + tl.length), .slice none 0 0, .int .i64 (-1), .bool false], 25), (B, (bytesV (crashTo l0_0 l0_1 l1_0 a1_1 a1_2 i) ++ tl).toArray, 5), (g4, #[.slice none 0 0, .slice none 0 0, .int .i64 0, .bool false], 25), (g3, #[.slice A1_0 l1_0.length c1_0, .int .i64 a1_1, .int .i64 a1_2], 28), (g2, #[.slice A0_0 l0_0.length c0_0, .slice A0_1 l0_1.length c0_1, .int .i64 a0_2, .bool a0_3], 25)] w'))
  case atStart => exact ⟨0, 0, _, rfl, ⟨rfl⟩, ⟨rfl⟩, ⟨by omega⟩, ⟨Nat.zero_le _⟩, H118⟩
  case round =>
    clear H118 hd1
    obtain ⟨i, x, wl, rfl, hwl, HE, HK, HI, HX⟩ := hrel
    obtain ⟨hwl⟩ := hwl
    subst hwl
    have he := HE.out
    cases gk with
    | zero => exact absurd HK.out (by have := HI.out; omega)
    | succ k1 =>
      by_cases c3 : i < l0_1.length
      · have C3 := Aside0.mk c3
        have c3b : decide (x < (l0_1.length : Int)) = true := decide_eq_true (by omega)
        have p5 : (0 ≤ x) = True := eq_true (by omega)
        have q5 : (x < (l0_1.length : Int)) = True := eq_true (by omega)
        have jn : IntKind.i64.wrap (x + 1) = x + 1 := by have := HSz.out.2.1; rw [IntKind.wrap_i64]; omega
        obtain ⟨ad, Ap, cp, eA, hcf0, hcf1, hcp, hCp⟩ := at_T43 HR1.out x (by omega) (by omega)
        subst eA
        replace hcf0 := pw_cell_below HX.out.below hcf0
        replace hcf1 := pw_cell_below HX.out.below hcf1
        have hat : l0_1[i]? = some (rd_T43 l0_1 x) := by rw [he, P.rdP_at (List.getElem?_eq_getElem c3)]; exact List.getElem?_eq_getElem c3
        obtain ⟨p, hp⟩ : ∃ p, p = rd_T43 l0_1 x := ⟨_, rfl⟩
        rw [← hp] at hcf0 hcf1 hcp hCp hat
        have HAt := Aside0.mk hat
        have HCp := Aside0.mk hCp
        have HCpl := Aside0.mk hcp
        have hq := HPs.out p (List.mem_of_getElem? hat)
        have HQ := Aside0.mk hq
        have HHd2 := HHd.out
        have j6 : IntKind.i64.wrap (p.f0 * 64) = p.f0 * 64 := by rw [IntKind.wrap_i64]; omega
        obtain ⟨i5, hi5, _, hsz5, _⟩ := info_parts info5
        have hcut := fun W => cut_block (P := Try.prog) (t := 22) (e := 5) .i64 Try.underlying22 hi5 hsz5 B l0_0.length (l0_0.length + tl.length) (p.f0 * 64) (by omega) (by omega) (by omega) W
        have HLen := Aside0.mk (crashTo_length l0_0 l0_1 l1_0 a1_1 a1_2 (fun q hq => by have h1 := HPs.out q hq; have h2 := HHd.out; omega) i)
        have HStep := Aside0.mk (show crashTo l0_0 l0_1 l1_0 a1_1 a1_2 (i + 1) = splice (crashTo l0_0 l0_1 l1_0 a1_1 a1_2 i) (p.f0 * 64).toNat (p.f1.take (crashN l1_0 a1_1 a1_2 i)) from by rw [crashTo, HAt.out])
        clear c3 hcp hCp hat he hp hq HHd2
        go_wp2_with (first | ((with_reducible refine gate_dst (N := 7) rfl ?_); refine Aside0.out ?_))
        refine Aside0.mk ?_
        refine mk ?hw19 (N := 7) ?hd19 (cs := #[.int .i64 0, .slice none 0 0]) (t := 43) ?hr19 ?_
        case hd19 => rfl
        case hw19 => rfl
        case hr19 => first | (go_simp; done) | (go_simp; rfl)
        intro g7 hg7_ w119 hb19 hB19
        have H120 := Aside0.mk (HX.out.new hg7_ hb19 hB19)
        clear hg7_ hb19 hB19 HX
        clear hcf0 hcf1
        go_wp2_with (first | ((with_reducible refine gate_store (t := 43) (p := 7) rfl ?_); refine Aside0.out ?_))
        refine Aside0.mk ?_
        refine st_all ?hw21 ?hN21 rfl ?hp21 (cs := #[.int .i64 p.f0, .slice Ap p.f1.length cp]) ?hx21 H120.out.gt0 (by kernel_rfl) (rfl) (by simp [Value.oneCell']) ?_
        case hw21 => rfl
        case hN21 => rfl
        case hp21 => rfl
        case hx21 => rfl
        intro w121 hb21 hS21
        have H122 := Aside0.mk (H120.out.wr0 (cs' := #[.int .i64 p.f0, .slice Ap p.f1.length cp]) hb21 hS21)
        clear hb21 hS21 H120
        have hk0 : w121.cell? ⟨g3, 0, none⟩ = some (.slice A1_0 l1_0.length c1_0) := (blk_cell H122.out.gt4 0).trans rfl
        have hk1 : w121.cell? ⟨g3, 1, none⟩ = some (.int .i64 a1_1) := (blk_cell H122.out.gt4 1).trans rfl
        have hk2 : w121.cell? ⟨g3, 2, none⟩ = some (.int .i64 a1_2) := (blk_cell H122.out.gt4 2).trans rfl
        obtain ⟨n, hn⟩ : ∃ n, n = crashN l1_0 a1_1 a1_2 i := ⟨_, rfl⟩
        have hK : (decide (x < (l1_0.length : Int)) = true ∧ ((x < (l1_0.length : Int)) = True) ∧ (∃ ak, A1_0 = some ak ∧ w121.cell? (ak.add x.toNat) = some (.bool true)) ∧ Aside0 (l1_0.getD i false = true)) ∨ (decide (x < (l1_0.length : Int)) = true ∧ ((x < (l1_0.length : Int)) = True) ∧ (∃ ak, A1_0 = some ak ∧ w121.cell? (ak.add x.toNat) = some (.bool false)) ∧ Aside0 (l1_0.getD i false = false)) ∨ (decide (x < (l1_0.length : Int)) = false ∧ Aside0 (l1_0.getD i false = false)) := by
          have he := HE.out
          by_cases c4 : i < l1_0.length
          · obtain ⟨-, -, hkr⟩ := Kd.reads_of_C (enc := Value.bool) (d := false) (h1 := fun _ => rfl) HRK.out
            obtain ⟨ak, eAk, hkc⟩ := hkr (by omega)
            have hck := pw_cell_below H122.out.below (hkc i c4)
            have hxi : x.toNat = i := by omega
            rw [← hxi] at hck
            have c4b : decide (x < (l1_0.length : Int)) = true := decide_eq_true (by omega)
            have c4q : (x < (l1_0.length : Int)) = True := eq_true (by omega)
            cases hkb : l1_0.getD i false with
            | true =>
              rw [hxi, hkb, ← hxi] at hck
              exact .inl ⟨c4b, c4q, ⟨ak, eAk, hck⟩, ⟨rfl⟩⟩
            | false =>
              rw [hxi, hkb, ← hxi] at hck
              exact .inr (.inl ⟨c4b, c4q, ⟨ak, eAk, hck⟩, ⟨rfl⟩⟩)
          · exact .inr (.inr ⟨decide_eq_false (by omega), ⟨by rw [List.getD_eq_getElem?_getD, List.getElem?_eq_none (by omega)]; rfl⟩⟩)
        have hT : ((x == a1_1) = false ∧ Aside0 (n = if l1_0.getD i false = true then 64 else 0)) ∨ ((x == a1_1) = true ∧ ((a1_2 < 0) = True) ∧ Aside0 (n = 0)) ∨ ((x == a1_1) = true ∧ ((a1_2 < 0) = False) ∧ ((64 < a1_2) = True) ∧ Aside0 (n = 64)) ∨ ((x == a1_1) = true ∧ ((a1_2 < 0) = False) ∧ ((64 < a1_2) = False) ∧ Aside0 (n = a1_2.toNat ∧ 0 ≤ a1_2 ∧ a1_2 ≤ 64)) := by
          have he := HE.out
          rw [hn]
          unfold crashN
          by_cases c6 : x = a1_1
          · have c6b : (x == a1_1) = true := beq_iff_eq.mpr c6
            rw [if_pos (by omega)]
            by_cases m1 : a1_2 < 0
            · exact .inr (.inl ⟨c6b, eq_true m1, ⟨by omega⟩⟩)
            · by_cases m2 : 64 < a1_2
              · exact .inr (.inr (.inl ⟨c6b, eq_false m1, eq_true m2, ⟨by omega⟩⟩))
              · exact .inr (.inr (.inr ⟨c6b, eq_false m1, eq_false m2, ⟨⟨by omega, by omega, by omega⟩⟩⟩))
          · rw [if_neg (by omega)]
            exact .inl ⟨beq_eq_false_iff_ne.mpr c6, ⟨rfl⟩⟩
        have HNn := Aside0.mk hn
        have HN64 := Aside0.mk (show n ≤ 64 from by
          rcases hT with ⟨-, h⟩ | ⟨-, -, h⟩ | ⟨-, -, -, h⟩ | ⟨-, -, -, h⟩
          · have := h.out; rw [this]; split <;> omega
          · have := h.out; omega
          · have := h.out; omega
          · have := h.out; omega)
        clear hn
        rcases hK with ⟨c4b, c4q, ⟨ak, eAk, hck⟩, HKV⟩ | ⟨c4b, c4q, ⟨ak, eAk, hck⟩, HKV⟩ | ⟨c4b, HKV⟩
        all_goals rcases hT with ⟨c6b, HT⟩ | ⟨c6b, m1, HT⟩ | ⟨c6b, m1, m2, HT⟩ | ⟨c6b, m1, m2, HT⟩
        all_goals
          try subst eAk
          first
            | have HEq := Aside0.mk (show n = 64 from by have h1 := HT.out; rw [HKV.out] at h1; exact h1)
            | have HEq := Aside0.mk (show n = 0 from by have h1 := HT.out; rw [HKV.out] at h1; exact h1)
            | have HEq := HT
          obtain ⟨-, htr, htl⟩ := print_take_of (P := Try.prog) (Value.int .u8) 0 22 5 .i64 Try.underlying22 hi5 hsz5 Ap cp p.f1 (n : Int) (by omega) (by have := HQ.out; have := HN64.out; omega) HCpl.out
          have HTr := Aside0.mk (Kd.C_of_reads (h1 := fun _ => rfl) (htr _ (Kd.reads_of_C HCp.out)))
          clear htr htl hi5
          go_wp2
          clear hk0 hk1 hk2
          have H124 := Aside0.mk H122.out.drew
          refine start_ (n := 11) (S := fun w' => w'.cell? ⟨g5, 0, none⟩ = some (.slice (some ⟨B, 0, none⟩) l0_0.length (l0_0.length + tl.length)) ∧ w'.cell? ⟨g7, 0, none⟩ = some (.int .i64 p.f0) ∧ w'.cell? ⟨g7, 1, none⟩ = some (.slice Ap p.f1.length cp)) (ds := [10]) #[false, false, false, false, false, false, false, false, false, false, false] (by kernel_rfl) rfl rfl ⟨(blk_cell H124.out.gt1 0).trans rfl, (blk_cell H124.out.gt0 0).trans rfl, (blk_cell H124.out.gt0 1).trans rfl⟩ (fun hHeld => ?_)
          clear H122
          generalize w121.drew = w123 at H124 hHeld ⊢
          refine pure_ (i := 0) (N := some 45) (v := ?_) (a' := ?_) #[true, false, false, false, false, false, false, false, false, false, false] rfl rfl (by kernel_rfl) (fun _ _ _ h => h) (Or.inl ⟨by rfl, ?_⟩) ?_ ?_
          rotate_left
          · intro w'
            go_simp
            with_reducible rfl
          rotate_left
          · simp only [Act.put, List.setIfInBounds_toArray, List.set_cons_zero, List.set_cons_succ, i64_w, i32_w]
            rfl
          refine pure_ (i := 2) (N := some 47) (v := ?_) (a' := ?_) #[true, false, true, false, false, false, false, false, false, false, false] rfl rfl (by kernel_rfl) (fun _ _ _ h => h) (Or.inl ⟨by rfl, ?_⟩) ?_ ?_
          rotate_left
          · intro w'
            go_simp
            with_reducible rfl
          rotate_left
          · simp only [Act.put, List.setIfInBounds_toArray, List.set_cons_zero, List.set_cons_succ, i64_w, i32_w]
            rfl
          refine pure_ (i := 6) (N := some 51) (v := ?_) (a' := ?_) #[true, false, true, false, false, false, true, false, false, false, false] rfl rfl (by kernel_rfl) (fun _ _ _ h => h) (Or.inl ⟨by rfl, ?_⟩) ?_ ?_
          rotate_left
          · intro w'
            go_simp
            with_reducible rfl
          rotate_left
          · simp only [Act.put, List.setIfInBounds_toArray, List.set_cons_zero, List.set_cons_succ, i64_w, i32_w]
            rfl
          refine pure_ (i := 8) (N := some 53) (v := ?_) (a' := ?_) #[true, false, true, false, false, false, true, false, true, false, false] rfl rfl (by kernel_rfl) (fun _ _ _ h => h) (Or.inl ⟨by rfl, ?_⟩) ?_ ?_
          rotate_left
          · intro w'
            go_simp
            with_reducible rfl
          rotate_left
          · simp only [Act.put, List.setIfInBounds_toArray, List.set_cons_zero, List.set_cons_succ, i64_w, i32_w]
            rfl
          refine take_ (i := 1) (N := some 46) (v := ?_) (a' := ?_) #[true, true, true, false, false, false, true, false, true, false, false] rfl rfl (by kernel_rfl) (fun _ _ _ h => h) (Or.inl ⟨by rfl, ?_⟩) hHeld ?_ ?_
          rotate_left
          · rintro w' ⟨s0, s1, s2⟩
            go_simp
            with_reducible rfl
          rotate_left
          · simp only [Act.put, List.setIfInBounds_toArray, List.set_cons_zero, List.set_cons_succ, i64_w, i32_w]
            rfl
          refine take_ (i := 3) (N := some 48) (v := ?_) (a' := ?_) #[true, true, true, true, false, false, true, false, true, false, false] rfl rfl (by kernel_rfl) (fun _ _ _ h => h) (Or.inl ⟨by rfl, ?_⟩) hHeld ?_ ?_
          rotate_left
          · rintro w' ⟨s0, s1, s2⟩
            go_simp
            with_reducible rfl
          rotate_left
          · simp only [Act.put, List.setIfInBounds_toArray, List.set_cons_zero, List.set_cons_succ, i64_w, i32_w]
            rfl
          refine take_ (i := 7) (N := some 52) (v := ?_) (a' := ?_) #[true, true, true, true, false, false, true, true, true, false, false] rfl rfl (by kernel_rfl) (fun _ _ _ h => h) (Or.inl ⟨by rfl, ?_⟩) hHeld ?_ ?_
          rotate_left
          · rintro w' ⟨s0, s1, s2⟩
            go_simp
            with_reducible rfl
          rotate_left
          · simp only [Act.put, List.setIfInBounds_toArray, List.set_cons_zero, List.set_cons_succ, i64_w, i32_w]
            rfl
          refine pure_ (i := 4) (N := some 49) (v := ?_) (a' := ?_) #[true, true, true, true, true, false, true, true, true, false, false] rfl rfl (by kernel_rfl) (fun _ _ _ h => h) (Or.inl ⟨by rfl, ?_⟩) ?_ ?_
          rotate_left
          · intro w'
            go_simp
            with_reducible rfl
          rotate_left
          · simp only [Act.put, List.setIfInBounds_toArray, List.set_cons_zero, List.set_cons_succ, i64_w, i32_w]
            rfl
          refine pure_ (i := 5) (N := some 50) (v := ?_) (a' := ?_) #[true, true, true, true, true, true, true, true, true, false, false] rfl rfl (by kernel_rfl) (fun _ _ _ h => h) (Or.inl ⟨by rfl, ?_⟩) ?_ ?_
          rotate_left
          · intro w'
            go_simp
            first | exact hcut w' | with_reducible rfl | rfl
          rotate_left
          · simp only [Act.put, List.setIfInBounds_toArray, List.set_cons_zero, List.set_cons_succ, i64_w, i32_w]
            rfl
          refine pure_ (i := 9) (N := some 54) (v := ?_) (a' := ?_) #[true, true, true, true, true, true, true, true, true, true, false] rfl rfl (by kernel_rfl) (fun _ _ _ h => h) (Or.inl ⟨by rfl, ?_⟩) ?_ ?_
          rotate_left
          · intro w'
            go_simp
            first | with_reducible rfl | ((repeat rw [if_pos (by have h1 := HEq.out; have h2 := HQ.out; have h3 := HCpl.out; omega)]); try (first | with_reducible rfl | rfl))
          rotate_left
          · simp only [Act.put, List.setIfInBounds_toArray, List.set_cons_zero, List.set_cons_succ, i64_w, i32_w]
            rfl
          refine last_ (i := 10) (N := some 55) #[true, true, true, true, true, true, true, true, true, true, true] rfl rfl (by kernel_rfl) (by decide) (fun K hK => ?_)
          refine copy_step (by rfl) rfl (.tmp 50) (.tmp 54) 22 22 rfl 5 Try.underlying22 (by kernel_rfl) _ _ _ _ _ _ rfl rfl B (p.f0 * 64).toNat (bytesV (crashTo l0_0 l0_1 l1_0 a1_1 a1_2 i) ++ tl) 5 H124.out.gt2 (bytesV (p.f1.take n)) ?cn ?cp ?cf (bytesV_one _) ?_
          case cn => have h0 := HEq.out; have h1 := HQ.out; have h2 := HHd.out; have h3 := HN64.out; rw [bytesV_length, List.length_take]; show _ = min _ _; omega
          case cp =>
            intro hpos
            rw [bytesV_length] at hpos
            obtain ⟨ad2, e2, hc2⟩ := bytes_at (Kd.C_below HTr.out H124.out.below) hpos
            exact ⟨rfl, ad2, e2, hc2⟩
          case cf => have h1 := HQ.out; have h2 := HHd.out; have h3 := HLen.out; rw [List.length_append, bytesV_length, bytesV_length, h3, List.length_take]; omega
          intro w125 hb25 hS25
          replace hb25 := hb25.trans (congrArg (fun z : List Value => some (Obj.cells z.toArray 5 (0, 0))) (bytesV_splice _ _ tl _ (by have h1 := HQ.out; have h2 := HHd.out; have h3 := HLen.out; rw [h3, List.length_take]; omega)))
          rw [show splice (crashTo l0_0 l0_1 l1_0 a1_1 a1_2 i) (p.f0 * 64).toNat (p.f1.take n) = crashTo l0_0 l0_1 l1_0 a1_1 a1_2 (i + 1) from by rw [HStep.out, HNn.out]] at hb25
          have H126 := Aside0.mk (H124.out.wr2 (cs' := (bytesV (crashTo l0_0 l0_1 l1_0 a1_1 a1_2 (i + 1)) ++ tl).toArray) hb25 hS25)
          clear hb25 hS25 H124
          refine hK.out _ _ ?_
          clear hK K
          refine done_ (by kernel_rfl) ?_
          have HZ := Aside0.mk H126.out.tail
          clear H126
          go_wp2
          go_roundg k1
          case measure => omega
          case rel => exact ⟨i + 1, x + 1, _, rfl, ⟨rfl⟩, ⟨by rw [HE.out]; rfl⟩, ⟨by have := HK.out; omega⟩, ⟨by have := C3.out; omega⟩, HZ⟩
      · have c3b : decide (x < (l0_1.length : Int)) = false := decide_eq_false (by omega)
        obtain rfl : i = l0_1.length := by have := HI.out; omega
        go_wp2_with (first | ((with_reducible refine gate_dst (N := 57) rfl ?_); refine Aside0.out ?_))
        refine Aside0.mk ?_
        refine ld ?hw27 rfl ?hx27 HX.out.gt0 Try.underlying25 rfl (by kernel_rfl) ?_
        case hw27 => rfl
        case hx27 => rfl
        go_wp2_with (first | ((with_reducible refine gate_store (t := 25) (p := 4) rfl ?_); refine Aside0.out ?_))
        refine Aside0.mk ?_
        refine st_all ?hw28 ?hN28 rfl ?hp28 (cs := #[.slice (some ⟨B, 0, none⟩) l0_0.length (l0_0.length + tl.length), .slice none 0 0, .int .i64 (-1), .bool false]) ?hx28 HX.out.gt2 (by kernel_rfl) rfl (by simp [Value.oneCell']) ?_
        case hw28 => rfl
        case hN28 => rfl
        case hp28 => rfl
        case hx28 => first | rfl | (go_simp; rfl)
        intro w128 hb28 hS28
        have H129 := Aside0.mk (HX.out.wr2 (cs' := #[.slice (some ⟨B, 0, none⟩) l0_0.length (l0_0.length + tl.length), .slice none 0 0, .int .i64 (-1), .bool false]) hb28 hS28)
        clear hb28 hS28 HX
        go_wp2
        refine bodyPost_ret (results_cell_row rfl _ _ g4 25 #[.slice (some ⟨B, 0, none⟩) l0_0.length (l0_0.length + tl.length), .slice none 0 0, .int .i64 (-1), .bool false] (0, 0) _ rfl H129.out.gt2 Try.underlying25 rfl (by kernel_rfl)) rfl ?_
        have hlen : (crashTo l0_0 l0_1 l1_0 a1_1 a1_2 l0_1.length).length = l0_0.length := crashTo_length _ _ _ _ _ (fun p hp => by have h1 := HPs.out p hp; have h2 := HHd.out; omega) _
        have hR := R_of_block H129.out.gt1 (H129.out.at_ _ (List.mem_cons_of_mem _ (List.mem_cons_self ..))).1 (by rw [hlen]; exact HBmax.out)
        rw [hlen] at hR
        have h := HF.out
        cases h
        exact ⟨_, _, rfl, Kd.R_mono hR (fun _ _ => trivial), Kd.S_nil _ _ _ _ _, H129.out.below⟩
end Go.Proofs.Ytlpghnhcgljhoaa.Q
end
section
namespace Go.Proofs.Ytlpghnhcgljhoaa.Q
open Go.RowKit Go.Proofs.YtlpghnhcgljhoaaW.PrintWords Go.Proofs.YtlpghnhcgljhoaaW.PrintLast Go.Proofs.Ytlpghnhcgljhoaa.LK Go.Proofs.YtlpghnhcgljhoaaW.PrintMore Go.Proofs.Ytlpghnhcgljhoaa.SP
set_option linter.unusedVariables false
instance impl_DevCrash.con {A0 : Option Addr} {n0 c0 : Nat} {l0 : List Int} {A1 : Option Addr} {n1 c1 : Nat} {l1 : List S43} {a2 : Int} {a3 : Bool} {A2 : Option Addr} {n2 c2 : Nat} {l2 : List Bool} {b1 b2 : Int} {rr : List Int × List S43 × Int × Bool} : Con Try.prog 6 (impl_DevCrash.f l0 l1 a2 a3 l2 b1 b2) rr #[.agg #[.slice A0 n0 c0, .slice A1 n1 c1, .int .i64 a2, .bool a3], .agg #[.slice A2 n2 c2, .int .i64 b1, .int .i64 b2]] (fun w => Kd.C (Kd.int .u8) w A0 n0 l0 ∧ l0.length ≤ c0 ∧ Kd.C k43 w A1 n1 l1 ∧ l1.length ≤ c1 ∧ Kd.C Kd.bool w A2 n2 l2 ∧ l2.length ≤ c2) (fun q => .agg #[.slice (q 0).1 rr.1.length (q 0).2, .slice (q 1).1 rr.2.1.length (q 1).2, .int .i64 rr.2.2.1, .bool rr.2.2.2]) (fun q => [row (Kd.int .u8) 5 (.slice (q 0).1 rr.1.length (q 0).2) rr.1, row k43 43 (.slice (q 1).1 rr.2.1.length (q 1).2) rr.2.1]) := ⟨fun w ⟨p0, p1, p2, p3, p4, p5⟩ E => by
  obtain rfl := p0.1
  obtain rfl := p2.1
  obtain rfl := p4.1
  exact ofR2 (F := fun x y => .agg #[x, y, .int .i64 rr.2.2.1, .bool rr.2.2.2]) (impl_DevCrash.calls _ _ _ _ _ _ _ _ _ _ _ _ _ _ _ _ _ w p0 p1 p2 p3 p4 p5 E)⟩
end Go.Proofs.Ytlpghnhcgljhoaa.Q
end
section
namespace Go.Proofs.Ytlpghnhcgljhoaa.Q
open Go.RowKit Go.Proofs.YtlpghnhcgljhoaaW.PrintWords Go.Proofs.YtlpghnhcgljhoaaW.PrintLast Go.Proofs.Ytlpghnhcgljhoaa.LK Go.Proofs.YtlpghnhcgljhoaaW.PrintMore Go.Proofs.Ytlpghnhcgljhoaa.SP
set_option linter.unusedVariables false
theorem impl_Dev_has.calls (A0_0 : Option Addr) (c0_0 : Nat) (l0_0 : List Int) (A0_1 : Option Addr) (c0_1 : Nat) (l0_1 : List (S43)) (a0_2 : Int) (a0_3 : Bool) (a1 : Int) (r : Bool) (w : World) (hr0_0 : Kd.C (Kd.int .u8) w A0_0 l0_0.length l0_0) (hc0_0 : l0_0.length ≤ c0_0) (hr0_1 : Kd.C k43 w A0_1 l0_1.length l0_1) (hc0_1 : l0_1.length ≤ c0_1) (h : impl_Dev_has.f l0_0 l0_1 a0_2 a0_3 a1 = some r) :
    Calls Try.prog 18 #[.agg #[.slice A0_0 l0_0.length c0_0, .slice A0_1 l0_1.length c0_1, .int .i64 a0_2, .bool a0_3], .int .i64 a1] w fun e w' => e = .returned (.bool r) ∧ Below w.heap.size w w' := by
  refine Calls.mono (Con.c w ?_ h) ?_
  · (repeat' (first | exact trivial | assumption | apply And.intro))
  rintro e w' ⟨q, he, H⟩
  exact ⟨he, H.below⟩
end Go.Proofs.Ytlpghnhcgljhoaa.Q
end
section
namespace Go.Proofs.Ytlpghnhcgljhoaa.Q
open Go.RowKit Go.Proofs.YtlpghnhcgljhoaaW.PrintWords Go.Proofs.YtlpghnhcgljhoaaW.PrintLast Go.Proofs.YtlpghnhcgljhoaaW.PrintMore Go.Proofs.Ytlpghnhcgljhoaa.LK
set_option linter.unusedVariables false
set_option linter.unusedSimpArgs false
def impl_sectorOf.f (l : List Int) : Option (List Int) := if l.length = 64 then some l else none
set_option maxHeartbeats 8000000 in
set_option maxRecDepth 100000 in
theorem impl_sectorOf.calls {A : Option Addr} {c : Nat} {l r : List Int} {w : World} (hr : Kd.C (Kd.int .u8) w A l.length l) (h : impl_sectorOf.f l = some r) :
    Calls Try.prog 27 #[.slice A l.length c] w fun e w' => e = .returned (.agg (bytesV r).toArray) ∧ Below w.heap.size w w' := by
  have hl : l.length = 64 := by
    unfold impl_sectorOf.f at h
    by_cases h1 : l.length = 64
    · exact h1
    · rw [if_neg h1] at h; cases h
  unfold impl_sectorOf.f at h
  rw [if_pos hl] at h
  cases h
  have HL := Aside0.mk hl
  have HR := Aside0.mk hr
  clear hl hr
  go_enter Try.func27, Try.ntmps27
  go_wp2_with (first | ((with_reducible refine gate_dst (N := 2) rfl ?_); refine Aside0.out ?_))
  refine Aside0.mk ?_
  refine mk ?hw (N := 2) ?hd (cs := (List.replicate 64 (Value.int .u8 0)).toArray) (t := 48) ?hr ?_
  case hd => rfl
  case hw => rfl
  case hr => first | (go_simp; done) | (go_simp; rfl)
  intro g2 hg2 w1 hb2 hB2
  have H1 := Aside0.mk hB2
  have B2 := Aside0.mk hb2
  have G2 := Aside0.mk hg2
  clear hg2 hb2 hB2
  go_wp2_with (first | ((with_reducible refine gate_dst (N := 3) rfl ?_); refine Aside0.out ?_))
  refine Aside0.mk ?_
  refine mk ?hw3 (N := 3) ?hd3 (cs := (List.replicate 64 (Value.int .u8 0)).toArray) (t := 48) ?hr3 ?_
  case hd3 => rfl
  case hw3 => rfl
  case hr3 => first | (go_simp; done) | (go_simp; rfl)
  intro g3 hg3 w2 hb3 hB3
  have H2 := Aside0.mk (below_step H1.out hB3)
  have B2' := Aside0.mk ((hB3.block g2 (blk_lt B2.out)).trans B2.out)
  have B3 := Aside0.mk hb3
  have G3 := Aside0.mk (show g2 < g3 from hg3 ▸ blk_lt B2.out)
  clear hg3 hb3 hB3 B2 H1
  go_wp2_with (first | ((with_reducible refine gate_builtin (b := .copy) (xs := #[.tmp 4, .tmp 5]) rfl ?_); refine Aside0.out ?_))
  refine Aside0.mk ?_
  refine wpList_copy_splice rfl (.tmp 4) (.tmp 5) 22 22 rfl 5 Try.underlying22 (by kernel_rfl) _ _ 64 64 l.length c rfl rfl g3 0 (List.replicate 64 (Value.int .u8 0)) 48 B3.out (bytesV l) ?hn ?hpos ?hfit (bytesV_one l) g3 w2 (Below.refl _ _) (Nat.le_refl _) ?_
  case hn => rw [bytesV_length]; show _ = min _ _; rw [HL.out]; rfl
  case hpos =>
    intro hp
    rw [bytesV_length] at hp
    obtain ⟨ad, e, hc⟩ := bytes_at HR.out hp
    exact ⟨rfl, ad, e, fun j v hv => pw_cell_below H2.out (hc j v hv)⟩
  case hfit => rw [bytesV_length, HL.out]; simp
  intro w3 hb3 hB3
  have e : splice (List.replicate 64 (Value.int .u8 0)) 0 (bytesV l) = bytesV l := by
    unfold splice
    rw [List.drop_of_length_le (by rw [bytesV_length, HL.out]; simp)]
    simp
  have HB3 := Aside0.mk (show w3.heap[g3]? = some (.cells (bytesV l).toArray 48 (0, 0)) from e ▸ hb3)
  have H3 := Aside0.mk (show Below w.heap.size w w3 from ⟨hB3.os.trans H2.out.os, hB3.tape.trans H2.out.tape, hB3.output.trans H2.out.output, Nat.le_trans H2.out.size hB3.size, fun i hi => (hB3.block i (by have := G2.out; have := G3.out; omega)).trans (H2.out.block i hi)⟩)
  have B4 := Aside0.mk ((hB3.block g2 G3.out).trans B2'.out)
  clear hb3 hB3 e
  go_wp2_with (first | ((with_reducible refine gate_dst (N := 7) rfl ?_); refine Aside0.out ?_))
  refine Aside0.mk ?_
  refine ld ?hw7 rfl ?hx7 HB3.out Try.underlying48 rfl ?hi7 ?_
  case hi7 => rw [List.size_toArray, bytesV_length, HL.out]; kernel_rfl
  case hw7 => rfl
  case hx7 => rfl
  go_wp2_with (first | ((with_reducible refine gate_store (t := 48) (p := 2) rfl ?_); refine Aside0.out ?_))
  refine Aside0.mk ?_
  refine st_all ?hw8 ?hN8 rfl ?hp8 (cs := (bytesV l).toArray) ?hx8 B4.out ?ht8 ?hs8 ?h18 ?_
  case hw8 => rfl
  case hN8 => rfl
  case hp8 => rfl
  case hx8 => rfl
  case ht8 => rw [List.size_toArray, bytesV_length, HL.out]; kernel_rfl
  case hs8 => rw [List.size_toArray, bytesV_length, HL.out]; rfl
  case h18 => exact bytesV_one l
  intro w4 hb4 hS4
  have B5 := Aside0.mk hb4
  have H5 := Aside0.mk (show Below w.heap.size w w4 from ⟨hS4.os.trans H3.out.os, hS4.tape.trans H3.out.tape, hS4.output.trans H3.out.output, Nat.le_trans H3.out.size hS4.size, fun i hi => (hS4.block i (Nat.lt_of_lt_of_le hi H3.out.size) (by have := G2.out; omega)).trans (H3.out.block i hi)⟩)
  clear hb4 hS4
  go_wp2
  refine bodyPost_ret (results_cell_row rfl _ _ g2 48 (bytesV l).toArray (0, 0) _ rfl B5.out Try.underlying48 rfl ?hi9) rfl ?_
  case hi9 => rw [List.size_toArray, bytesV_length, HL.out]; kernel_rfl
  exact ⟨rfl, H5.out⟩
def secAt (l0 : List Int) (l1 : List S43) (s : Int) : List Int := l1.foldl (fun out p => if p.f0 = s then p.f1 else out) ((l0.take ((s + 1) * 64).toNat).drop (s * 64).toNat)
theorem foldl_length {s : Int} : ∀ (l1 : List S43) (y : List Int), y.length = 64 → (∀ p ∈ l1, p.f1.length = 64) → (l1.foldl (fun out p => if p.f0 = s then p.f1 else out) y).length = 64
  | [], _, h, _ => h
  | p :: ps, y, h, hp => by
    refine foldl_length ps _ ?_ (fun q hq => hp q (List.mem_cons_of_mem _ hq))
    show (if p.f0 = s then p.f1 else y).length = 64
    split
    · exact hp p (List.mem_cons_self ..)
    · exact h
theorem cut_length {l0 : List Int} {s : Int} (hs : 0 ≤ s) (hs2 : (s + 1) * 64 ≤ l0.length) : ((l0.take ((s + 1) * 64).toNat).drop (s * 64).toNat).length = 64 := by
  rw [List.length_drop, List.length_take]
  omega
theorem secAt_length {l0 : List Int} {l1 : List S43} {s : Int} (hs : 0 ≤ s) (hs2 : (s + 1) * 64 ≤ l0.length) (hp : ∀ p ∈ l1, p.f1.length = 64) : (secAt l0 l1 s).length = 64 := foldl_length l1 _ (cut_length hs hs2) hp
set_option maxHeartbeats 8000000 in
set_option maxRecDepth 100000 in
theorem read_calls {A0 A1 : Option Addr} {c0 c1 : Nat} {l0 : List Int} {l1 : List S43} {a2 s : Int} {a3 : Bool} {w : World} (hr0 : Kd.C (Kd.int .u8) w A0 l0.length l0) (hc0 : l0.length ≤ c0) (hr1 : Kd.C k43 w A1 l1.length l1) (hc1 : l1.length ≤ c1)
    (hs : 0 ≤ s) (hs1 : s ≤ 1048576) (hs2 : (s + 1) * 64 ≤ l0.length) (hn : l1.length ≤ 1048576) (hp : ∀ p ∈ l1, p.f1.length = 64) :
    Calls Try.prog 20 #[.agg #[.slice A0 l0.length c0, .slice A1 l1.length c1, .int .i64 a2, .bool a3], .int .i64 s] w fun e w' => e = .returned (.agg (bytesV (secAt l0 l1 s)).toArray) ∧ Below w.heap.size w w' := by
  have j1 : IntKind.i64.wrap (s * 64) = s * 64 := by rw [IntKind.wrap_i64]; omega
  have j2 : IntKind.i64.wrap (s + 1) = s + 1 := by rw [IntKind.wrap_i64]; omega
  have j3 : IntKind.i64.wrap ((s + 1) * 64) = (s + 1) * 64 := by rw [IntKind.wrap_i64]; omega
  obtain ⟨i5, hi5, _, hsz5, _⟩ := info_parts info5
  obtain ⟨Ac, hcut, hA, hC⟩ := print_mid_of (P := Try.prog) (Value.int .u8) 0 22 5 .i64 .i64 Try.underlying22 hi5 hsz5 A0 c0 l0 (s * 64) ((s + 1) * 64) (by omega) (by omega) hs2 hc0
  have HY := Aside0.mk (Kd.C_of_reads (h1 := fun _ => rfl) (hA _ (Kd.reads_of_C hr0)))
  have HL := Aside0.mk (cut_length hs hs2)
  obtain ⟨y, hy⟩ : ∃ y, y = (l0.take ((s + 1) * 64).toNat).drop (s * 64).toNat := ⟨_, rfl⟩
  have hsec : secAt l0 l1 s = l1.foldl (fun out p => if p.f0 = s then p.f1 else out) y := by rw [hy]; rfl
  rw [hsec]
  rw [← hy] at hcut HY HL
  clear hy hsec
  have HR1 := Aside0.mk hr1
  have HP := Aside0.mk hp
  have HN := Aside0.mk hn
  have H0 := Aside0.mk (Bx.refl w)
  clear hA hC hi5 hsz5 hr0 hr1 hp hn hs2 hs1 hs hc0
  go_enter Try.func20, Try.ntmps20
  go_wp2_with (first | ((with_reducible refine gate_dst (N := 2) rfl ?_); refine Aside0.out ?_))
  refine Aside0.mk ?_
  refine mk ?hw2 (N := 2) ?hd2 (cs := #[.slice A0 l0.length c0, .slice A1 l1.length c1, .int .i64 a2, .bool a3]) (t := 25) ?hr2 ?_
  case hd2 => rfl
  case hw2 => rfl
  case hr2 => first | (go_simp; done) | (go_simp; rfl)
  intro g2 hg2 w2 hb2 hB2
  have H1 := Aside0.mk (H0.out.new hg2 hb2 hB2)
  clear hg2 hb2 hB2 H0
  go_wp2_with (first | ((with_reducible refine gate_dst (N := 4) rfl ?_); refine Aside0.out ?_))
  refine Aside0.mk ?_
  refine mk ?hw4 (N := 4) ?hd4 (cs := (List.replicate 64 (Value.int .u8 0)).toArray) (t := 48) ?hr4 ?_
  case hd4 => rfl
  case hw4 => rfl
  case hr4 => first | (go_simp; done) | (go_simp; rfl)
  intro g4 hg4 w4 hb4 hB4
  have H2 := Aside0.mk (H1.out.new hg4 hb4 hB4)
  clear hg4 hb4 hB4 H1
  have hd0 : w4.cell? ⟨g2, 0, none⟩ = some (.slice A0 l0.length c0) := (blk_cell H2.out.gt1 0).trans rfl
  go_wp2_with (first | ((with_reducible refine gate_callee (f := 27) rfl ?_); refine Aside0.out ?_))
  refine Aside0.mk ?_
  refine goesW (some 16) rfl ?hw16 Try.func27 (by kernel_rfl) rfl #[.slice Ac y.length (c0 - (s * 64).toNat)] rfl (by (try simp only [List.map_toArray, List.map_cons, List.map_nil]); first | done | rfl | (simp only [List.length_drop, List.length_take]; rfl)) ?_
  case hw16 => rfl
  refine (impl_sectorOf.calls (Kd.C_below HY.out H2.out.below) (if_pos HL.out)).mono ?_
  rintro e w5 ⟨rfl, hb5⟩
  refine ⟨_, rfl, ?_⟩
  have H3 := Aside0.mk (H2.out.step hb5)
  clear hb5 H2 hd0
  go_wp2_with (first | ((with_reducible refine gate_dst (N := 5) rfl ?_); refine Aside0.out ?_))
  refine Aside0.mk ?_
  refine mk ?hw5 (N := 5) ?hd5 (cs := (List.replicate 64 (Value.int .u8 0)).toArray) (t := 48) ?hr5 ?_
  case hd5 => rfl
  case hw5 => rfl
  case hr5 => first | (go_simp; done) | (go_simp; rfl)
  intro g5 hg5 w6 hb6 hB6
  have H4 := Aside0.mk (H3.out.new hg5 hb6 hB6)
  clear hg5 hb6 hB6 H3
  go_wp2_with (first | ((with_reducible refine gate_store (t := 48) (p := 5) rfl ?_); refine Aside0.out ?_))
  refine Aside0.mk ?_
  refine st_all ?hw8 ?hN8 rfl ?hp8 (cs := (bytesV y).toArray) ?hx8 H4.out.gt0 ?ht8 ?hs8 ?h18 ?_
  case hw8 => rfl
  case hN8 => rfl
  case hp8 => rfl
  case hx8 => rfl
  case ht8 => rw [List.size_toArray, bytesV_length, HL.out]; kernel_rfl
  case hs8 => rw [List.size_toArray, bytesV_length, HL.out]; rfl
  case h18 => exact bytesV_one _
  intro w7 hb7 hS7
  have H5 := Aside0.mk (H4.out.wr0 hb7 hS7)
  clear hb7 hS7 H4
  have hd1 : w7.cell? ⟨g2, 1, none⟩ = some (.slice A1 l1.length c1) := (blk_cell H5.out.gt2 1).trans rfl
  go_wp2
  go_loopg [20] (l1.length + 1) (fun kq v20 w' => ∃ (i : Nat) (x : Int), v20 = .int .i64 x ∧ Aside0 (x = (i : Int)) ∧ Aside0 (kq + i = l1.length + 1) ∧ Aside0 (i ≤ l1.length) ∧ Aside0 (Bx w [(g5, (bytesV ((l1.take i).foldl (fun out p => if p.f0 = s then p.f1 else out) y)).toArray, 48), (g4, (List.replicate 64 (Value.int .u8 0)).toArray, 48), (g2, #[.slice A0 l0.length c0, .slice A1 l1.length c1, .int .i64 a2, .bool a3], 25)] w'))
  case atStart => exact ⟨0, 0, rfl, ⟨rfl⟩, ⟨by omega⟩, ⟨Nat.zero_le _⟩, H5⟩
  case round =>
    clear H5 hd1
    obtain ⟨i, x, rfl, HE, HK, HI, HX⟩ := hrel
    have he := HE.out
    cases gk with
    | zero => exact absurd HK.out (by have := HI.out; omega)
    | succ k1 =>
      by_cases c3 : i < l1.length
      · have C3 := Aside0.mk c3
        have c3b : decide (x < (l1.length : Int)) = true := decide_eq_true (by omega)
        have p5 : (0 ≤ x) = True := eq_true (by omega)
        have q5 : (x < (l1.length : Int)) = True := eq_true (by omega)
        have jn : IntKind.i64.wrap (x + 1) = x + 1 := by have := HN.out; rw [IntKind.wrap_i64]; omega
        obtain ⟨ad, Ap, cp, eA, hcf0, hcf1, hcp, hCp⟩ := at_T43 HR1.out x (by omega) (by omega)
        subst eA
        replace hcf0 := pw_cell_below HX.out.below hcf0
        replace hcf1 := pw_cell_below HX.out.below hcf1
        have hat : l1[i]? = some (rd_T43 l1 x) := by rw [he, P.rdP_at (List.getElem?_eq_getElem c3)]; exact List.getElem?_eq_getElem c3
        have HAt := Aside0.mk hat
        have HCp := Aside0.mk hCp
        clear c3 hcp hCp hat he
        go_wp2_with (first | ((with_reducible refine gate_dst (N := 7) rfl ?_); refine Aside0.out ?_))
        refine Aside0.mk ?_
        refine mk ?hw7 (N := 7) ?hd7 (cs := #[.int .i64 0, .slice none 0 0]) (t := 43) ?hr7 ?_
        case hd7 => rfl
        case hw7 => rfl
        case hr7 => first | (go_simp; done) | (go_simp; rfl)
        intro g7 hg7 w8 hb8 hB8
        have H6 := Aside0.mk (HX.out.new hg7 hb8 hB8)
        clear hg7 hb8 hB8 HX hcf0 hcf1
        go_wp2_with (first | ((with_reducible refine gate_store (t := 43) (p := 7) rfl ?_); refine Aside0.out ?_))
        refine Aside0.mk ?_
        refine st_all ?hw9 ?hN9 rfl ?hp9 (cs := #[.int .i64 (rd_T43 l1 x).f0, .slice Ap (rd_T43 l1 x).f1.length cp]) ?hx9 H6.out.gt0 (by kernel_rfl) rfl (by simp [Value.oneCell']) ?_
        case hw9 => rfl
        case hN9 => rfl
        case hp9 => rfl
        case hx9 => rfl
        intro w9 hb9 hS9
        have H7 := Aside0.mk (H6.out.wr0 hb9 hS9)
        clear hb9 hS9 H6
        have he0 : w9.cell? ⟨g7, 0, none⟩ = some (.int .i64 (rd_T43 l1 x).f0) := (blk_cell H7.out.gt0 0).trans rfl
        have he1 : w9.cell? ⟨g7, 1, none⟩ = some (.slice Ap (rd_T43 l1 x).f1.length cp) := (blk_cell H7.out.gt0 1).trans rfl
        have HF := Aside0.mk (show ∀ y : List Int, (l1.take (i + 1)).foldl (fun out p => if p.f0 = s then p.f1 else out) y = (if (rd_T43 l1 x).f0 = s then (rd_T43 l1 x).f1 else (l1.take i).foldl (fun out p => if p.f0 = s then p.f1 else out) y) by
          intro y
          rw [List.take_add_one, HAt.out]
          simp only [Option.toList_some, List.foldl_append, List.foldl_cons, List.foldl_nil])
        by_cases c5 : (rd_T43 l1 x).f0 = s
        · have c5b : ((rd_T43 l1 x).f0 == s) = true := beq_iff_eq.mpr c5
          go_wp2_with (first | ((with_reducible refine gate_callee (f := 27) rfl ?_); refine Aside0.out ?_))
          refine Aside0.mk ?_
          refine goesW (some 30) rfl ?hw30 Try.func27 (by kernel_rfl) rfl #[.slice Ap (rd_T43 l1 x).f1.length cp] rfl (by (try simp only [List.map_toArray, List.map_cons, List.map_nil]); first | done | rfl) ?_
          case hw30 => rfl
          refine (impl_sectorOf.calls (Kd.C_below HCp.out H7.out.below) (if_pos (HP.out _ (List.mem_of_getElem? HAt.out)))).mono ?_
          rintro e w10 ⟨rfl, hb10⟩
          refine ⟨_, rfl, ?_⟩
          have H8 := Aside0.mk (H7.out.step hb10)
          clear hb10 H7 he0 he1
          go_wp2_with (first | ((with_reducible refine gate_store (t := 48) (p := 5) rfl ?_); refine Aside0.out ?_))
          refine Aside0.mk ?_
          refine st_all ?hw11 ?hN11 rfl ?hp11 (cs := (bytesV (rd_T43 l1 x).f1).toArray) ?hx11 H8.out.gt1 ?ht11 ?hs11 ?h111 ?_
          case hw11 => rfl
          case hN11 => rfl
          case hp11 => rfl
          case hx11 => rfl
          case ht11 => rw [List.size_toArray, bytesV_length, HP.out _ (List.mem_of_getElem? HAt.out)]; kernel_rfl
          case hs11 => rw [List.size_toArray, List.size_toArray, bytesV_length, bytesV_length, HP.out _ (List.mem_of_getElem? HAt.out), foldl_length _ _ HL.out (fun q hq => HP.out q (List.mem_of_mem_take hq))]
          case h111 => exact bytesV_one _
          intro w11 hb11 hS11
          have H9 := Aside0.mk (H8.out.wr1 hb11 hS11).tail
          rw [← if_pos (c := (rd_T43 l1 x).f0 = s) (t := (rd_T43 l1 x).f1) (e := (l1.take i).foldl (fun out p => if p.f0 = s then p.f1 else out) y) c5, ← HF.out] at H9
          clear hb11 hS11 H8
          go_wp2
          go_roundg k1
          case measure => omega
          case rel => exact ⟨i + 1, x + 1, rfl, ⟨by rw [HE.out]; rfl⟩, ⟨by have := HK.out; omega⟩, ⟨by have := C3.out; omega⟩, H9⟩
        · have c5b : ((rd_T43 l1 x).f0 == s) = false := beq_eq_false_iff_ne.mpr c5
          have H9 := Aside0.mk H7.out.tail
          rw [← if_neg (c := (rd_T43 l1 x).f0 = s) (t := (rd_T43 l1 x).f1) (e := (l1.take i).foldl (fun out p => if p.f0 = s then p.f1 else out) y) c5, ← HF.out] at H9
          go_wp2
          go_roundg k1
          case measure => omega
          case rel => exact ⟨i + 1, x + 1, rfl, ⟨by rw [HE.out]; rfl⟩, ⟨by have := HK.out; omega⟩, ⟨by have := C3.out; omega⟩, H9⟩
      · have c3b : decide (x < (l1.length : Int)) = false := decide_eq_false (by omega)
        have ei : l1.take i = l1 := List.take_of_length_le (by omega)
        rw [ei] at HX
        go_wp2_with (first | ((with_reducible refine gate_dst (N := 32) rfl ?_); refine Aside0.out ?_))
        refine Aside0.mk ?_
        refine ld ?hw12 rfl ?hx12 HX.out.gt0 Try.underlying48 rfl ?hi12 ?_
        case hw12 => rfl
        case hx12 => rfl
        case hi12 => rw [List.size_toArray, bytesV_length, foldl_length _ _ HL.out HP.out]; kernel_rfl
        go_wp2_with (first | ((with_reducible refine gate_store (t := 48) (p := 4) rfl ?_); refine Aside0.out ?_))
        refine Aside0.mk ?_
        refine st_all ?hw13 ?hN13 rfl ?hp13 (cs := (bytesV (l1.foldl (fun out p => if p.f0 = s then p.f1 else out) y)).toArray) ?hx13 HX.out.gt1 ?ht13 ?hs13 ?h113 ?_
        case hw13 => rfl
        case hN13 => rfl
        case hp13 => rfl
        case hx13 => rfl
        case ht13 => rw [List.size_toArray, bytesV_length, show (l1.foldl (fun out p => if p.f0 = s then p.f1 else out) y).length = 64 from foldl_length _ _ HL.out HP.out]; kernel_rfl
        case hs13 => rw [List.size_toArray, bytesV_length, show (l1.foldl (fun out p => if p.f0 = s then p.f1 else out) y).length = 64 from foldl_length _ _ HL.out HP.out]; rfl
        case h113 => exact bytesV_one _
        intro w13 hb13 hS13
        have H9 := Aside0.mk (HX.out.wr1 hb13 hS13)
        clear hb13 hS13 HX
        go_wp2
        refine bodyPost_ret (results_cell_row rfl _ _ g4 48 (bytesV (l1.foldl (fun out p => if p.f0 = s then p.f1 else out) y)).toArray (0, 0) _ rfl H9.out.gt1 Try.underlying48 rfl ?hi14) rfl ?_
        case hi14 => rw [List.size_toArray, bytesV_length, show (l1.foldl (fun out p => if p.f0 = s then p.f1 else out) y).length = 64 from foldl_length _ _ HL.out HP.out]; kernel_rfl
        exact ⟨rfl, H9.out.below⟩
def impl_DevRead.f (l0_0 : List Int) (l0_1 : List S43) (a0_2 : Int) (_a0_3 : Bool) (a1 : Int) : Option (List Int) :=
  if l0_0.length ≤ 4611686018427387904 ∧ l0_1.length ≤ 4611686018427387904 ∧ ∀ p ∈ l0_1, p.f1.length ≤ 4611686018427387904 then (if P.validDev l0_0 l0_1 a0_2 = true ∧ 0 ≤ a1 ∧ a1 < ((l0_0.length / 64 : Nat) : Int) then some (secAt l0_0 l0_1 a1) else some []) else none
set_option maxHeartbeats 8000000 in
set_option maxRecDepth 100000 in
theorem impl_DevRead.calls (A0_0 : Option Addr) (c0_0 : Nat) (l0_0 : List Int) (A0_1 : Option Addr) (c0_1 : Nat) (l0_1 : List S43) (a0_2 : Int) (a0_3 : Bool) (a1 : Int) (r : List Int) (w : World) (hr0_0 : Kd.C (Kd.int .u8) w A0_0 l0_0.length l0_0) (hc0_0 : l0_0.length ≤ c0_0)
    (hr0_1 : Kd.C k43 w A0_1 l0_1.length l0_1) (hc0_1 : l0_1.length ≤ c0_1) (h : impl_DevRead.f l0_0 l0_1 a0_2 a0_3 a1 = some r) :
    Calls Try.prog 10 #[.agg #[.slice A0_0 l0_0.length c0_0, .slice A0_1 l0_1.length c0_1, .int .i64 a0_2, .bool a0_3], .int .i64 a1] w fun e w' => ∃ v0_ : Value, e = .returned (v0_) ∧ Kd.R (Kd.int .u8) 48 w' w.heap.size (fun _ => True) v0_ r ∧ Below w.heap.size w w' := by
  unfold impl_DevRead.f at h
  by_cases hsz : l0_0.length ≤ 4611686018427387904 ∧ l0_1.length ≤ 4611686018427387904 ∧ ∀ p ∈ l0_1, p.f1.length ≤ 4611686018427387904
  case neg => rw [if_neg hsz] at h; cases h
  rw [if_pos hsz] at h
  obtain ⟨k, hv⟩ := (P.impl_ValidDev_ev l0_0 l0_1 a0_2 a0_3 hsz.1 hsz.2.1 (fun p hp => Nat.le_trans (hsz.2.2 p hp) (by decide))).ex
  have hh := P.impl_has l0_0 l0_1 a0_2 a0_3 a1 hsz.1
  have HV := Aside0.mk hv
  have HH := Aside0.mk hh
  have HR0 := Aside0.mk hr0_0
  have HR1 := Aside0.mk hr0_1
  have HC0 := Aside0.mk hc0_0
  have HC1 := Aside0.mk hc0_1
  have H := Aside0.mk h
  have H0 := Aside0.mk (Bx.refl w)
  clear hr0_0 hr0_1 hc0_0 hc0_1 hv hh h hsz
  go_enter Try.func10, Try.ntmps10
  go_wp2_with (first | ((with_reducible refine gate_dst (N := 2) rfl ?_); refine Aside0.out ?_))
  refine Aside0.mk ?_
  refine mk ?hw2 (N := 2) ?hd2 (cs := #[.slice A0_0 l0_0.length c0_0, .slice A0_1 l0_1.length c0_1, .int .i64 a0_2, .bool a0_3]) (t := 25) ?hr2 ?_
  case hd2 => rfl
  case hw2 => rfl
  case hr2 => first | (go_simp; done) | (go_simp; rfl)
  intro g2 hg2 w2 hb2 hB2
  have H1 := Aside0.mk (H0.out.new hg2 hb2 hB2)
  clear hg2 hb2 hB2 H0
  go_wp2_with (first | ((with_reducible refine gate_dst (N := 6) rfl ?_); refine Aside0.out ?_))
  refine Aside0.mk ?_
  refine ld ?hw6 rfl ?hx6 H1.out.gt0 Try.underlying25 rfl (by kernel_rfl) ?_
  case hw6 => rfl
  case hx6 => rfl
  go_wp2_with (first | ((with_reducible refine gate_callee (f := 7) rfl ?_); refine Aside0.out ?_))
  refine Aside0.mk ?_
  refine goesW (some 7) rfl ?hw7 Try.func7 (by kernel_rfl) rfl #[.agg #[.slice A0_0 l0_0.length c0_0, .slice A0_1 l0_1.length c0_1, .int .i64 a0_2, .bool a0_3]] rfl (by (try simp only [List.map_toArray, List.map_cons, List.map_nil]); first | done | rfl) ?_
  case hw7 => rfl
  refine (impl_ValidDev.calls k _ _ l0_0 _ _ l0_1 a0_2 a0_3 _ _ (Kd.C_below HR0.out H1.out.below) HC0.out (Kd.C_below HR1.out H1.out.below) HC1.out HV.out).mono ?_
  rintro e w3 ⟨rfl, hb3⟩
  refine ⟨_, rfl, ?_⟩
  have H2 := Aside0.mk (H1.out.step hb3)
  clear hb3 H1
  by_cases hval : P.validDev l0_0 l0_1 a0_2 = true
  · rw [hval]
    go_wp2_with (first | ((with_reducible refine gate_dst (N := 10) rfl ?_); refine Aside0.out ?_))
    refine Aside0.mk ?_
    refine ld ?hw8 rfl ?hx8 H2.out.gt0 Try.underlying25 rfl (by kernel_rfl) ?_
    case hw8 => rfl
    case hx8 => rfl
    go_wp2_with (first | ((with_reducible refine gate_callee (f := 18) rfl ?_); refine Aside0.out ?_))
    refine Aside0.mk ?_
    refine goesW (some 12) rfl ?hw9 Try.func18 (by kernel_rfl) rfl #[.agg #[.slice A0_0 l0_0.length c0_0, .slice A0_1 l0_1.length c0_1, .int .i64 a0_2, .bool a0_3], .int .i64 a1] rfl (by (try simp only [List.map_toArray, List.map_cons, List.map_nil]); first | done | rfl) ?_
    case hw9 => rfl
    refine (impl_Dev_has.calls _ _ l0_0 _ _ l0_1 a0_2 a0_3 a1 _ _ (Kd.C_below HR0.out H2.out.below) HC0.out (Kd.C_below HR1.out H2.out.below) HC1.out HH.out).mono ?_
    rintro e w4 ⟨rfl, hb4⟩
    refine ⟨_, rfl, ?_⟩
    have H3 := Aside0.mk (H2.out.step hb4)
    clear hb4 H2
    by_cases hin : 0 ≤ a1 ∧ a1 < ((l0_0.length / 64 : Nat) : Int)
    · rw [decide_eq_true hin]
      have h := H.out
      rw [if_pos ⟨hval, hin⟩] at h
      cases h
      have HD := Aside0.mk (P.validDev_is.1 hval)
      have HIN := Aside0.mk hin
      go_wp2_with (first | ((with_reducible refine gate_dst (N := 15) rfl ?_); refine Aside0.out ?_))
      refine Aside0.mk ?_
      refine ld ?hw15 rfl ?hx15 H3.out.gt0 Try.underlying25 rfl (by kernel_rfl) ?_
      case hw15 => rfl
      case hx15 => rfl
      go_wp2_with (first | ((with_reducible refine gate_callee (f := 20) rfl ?_); refine Aside0.out ?_))
      refine Aside0.mk ?_
      refine goesW (some 17) rfl ?hw17 Try.func20 (by kernel_rfl) rfl #[.agg #[.slice A0_0 l0_0.length c0_0, .slice A0_1 l0_1.length c0_1, .int .i64 a0_2, .bool a0_3], .int .i64 a1] rfl (by (try simp only [List.map_toArray, List.map_cons, List.map_nil]); first | done | rfl) ?_
      case hw17 => rfl
      have hd := HD.out
      unfold P.headDev at hd
      have hsz : (a1 + 1) * 64 ≤ (l0_0.length : Int) := by have := HIN.out; omega
      have HS := Aside0.mk (secAt_length HIN.out.1 hsz (fun p hp => (hd.2 p hp).2.2))
      refine (read_calls (Kd.C_below HR0.out H3.out.below) HC0.out (Kd.C_below HR1.out H3.out.below) HC1.out HIN.out.1 (by have := HIN.out; omega) hsz (by omega) (fun p hp => (hd.2 p hp).2.2)).mono ?_
      clear hd hsz hin
      rintro e w5 ⟨rfl, hb5⟩
      refine ⟨_, rfl, ?_⟩
      have H4 := Aside0.mk (H3.out.step hb5)
      clear hb5 H3
      go_wp2_with (first | ((with_reducible refine gate_dst (N := 5) rfl ?_); refine Aside0.out ?_))
      refine Aside0.mk ?_
      refine mk ?hw5 (N := 5) ?hd5 (cs := (List.replicate 64 (Value.int .u8 0)).toArray) (t := 48) ?hr5 ?_
      case hd5 => rfl
      case hw5 => rfl
      case hr5 => first | (go_simp; done) | (go_simp; rfl)
      intro g5 hg5 w6 hb6 hB6
      have H5 := Aside0.mk (H4.out.new hg5 hb6 hB6)
      clear hg5 hb6 hB6 H4
      go_wp2_with (first | ((with_reducible refine gate_store (t := 48) (p := 5) rfl ?_); refine Aside0.out ?_))
      refine Aside0.mk ?_
      refine st_all ?hw13 ?hN13 rfl ?hp13 (cs := (bytesV (secAt l0_0 l0_1 a1)).toArray) ?hx13 H5.out.gt0 ?ht13 ?hs13 ?h113 ?_
      case hw13 => rfl
      case hN13 => rfl
      case hp13 => rfl
      case hx13 => rfl
      case ht13 => rw [List.size_toArray, bytesV_length, HS.out]; kernel_rfl
      case hs13 => rw [List.size_toArray, bytesV_length, HS.out]; rfl
      case h113 => exact bytesV_one _
      intro w13 hb13 hS13
      have H6 := Aside0.mk (H5.out.wr0 hb13 hS13)
      clear hb13 hS13 H5
      go_wp2
      go_ret
      have hR := R_arr H6.out.gt0 (H6.out.at_ _ (List.mem_cons_self ..)).1 (by rw [HS.out]; decide)
      rw [HS.out] at hR
      exact ⟨_, rfl, hR, H6.out.below⟩
    · rw [decide_eq_false hin]
      have h := H.out
      rw [if_neg (fun h => hin h.2)] at h
      cases h
      go_wp2
      go_ret
      exact ⟨_, rfl, Kd.R_nil _ _ _ _ _, H3.out.below⟩
  · rw [Bool.eq_false_iff.mpr hval]
    have h := H.out
    rw [if_neg (fun h => hval h.1)] at h
    cases h
    go_wp2
    go_ret
    exact ⟨_, rfl, Kd.R_nil _ _ _ _ _, H2.out.below⟩
end Go.Proofs.Ytlpghnhcgljhoaa.Q
end
section
namespace Go.Proofs.Ytlpghnhcgljhoaa.Q
open Go.RowKit Go.Proofs.YtlpghnhcgljhoaaW.PrintWords Go.Proofs.YtlpghnhcgljhoaaW.PrintLast Go.Proofs.Ytlpghnhcgljhoaa.LK Go.Proofs.YtlpghnhcgljhoaaW.PrintMore Go.Proofs.Ytlpghnhcgljhoaa.SP
set_option linter.unusedVariables false
instance impl_DevRead.con {A0 : Option Addr} {n0 c0 : Nat} {l0 : List Int} {A1 : Option Addr} {n1 c1 : Nat} {l1 : List S43} {a2 : Int} {a3 : Bool} {s : Int} {rr : List Int} : Con Try.prog 10 (impl_DevRead.f l0 l1 a2 a3 s) rr #[.agg #[.slice A0 n0 c0, .slice A1 n1 c1, .int .i64 a2, .bool a3], .int .i64 s] (fun w => Kd.C (Kd.int .u8) w A0 n0 l0 ∧ l0.length ≤ c0 ∧ Kd.C k43 w A1 n1 l1 ∧ l1.length ≤ c1) (fun q => .slice (q 0).1 rr.length (q 0).2) (fun q => [row (Kd.int .u8) 48 (.slice (q 0).1 rr.length (q 0).2) rr]) := ⟨fun w ⟨p0, p1, p2, p3⟩ E => by
  obtain rfl := p0.1
  obtain rfl := p2.1
  exact ofR1 (impl_DevRead.calls _ _ _ _ _ _ _ _ _ _ w p0 p1 p2 p3 E)⟩
end Go.Proofs.Ytlpghnhcgljhoaa.Q
end
section
namespace Go.Proofs.Ytlpghnhcgljhoaa.Q
open Go.RowKit Go.Proofs.YtlpghnhcgljhoaaW.PrintWords Go.Proofs.YtlpghnhcgljhoaaW.PrintLast Go.Proofs.YtlpghnhcgljhoaaW.PrintMore Go.Proofs.Ytlpghnhcgljhoaa.LK
set_option linter.unusedVariables false
set_option linter.unusedSimpArgs false
def fuelOf (f : Int) : Int := if f > 0 then f - 1 else f
def deadOf (f : Int) (d : Bool) : Bool := if f = 0 then true else d
set_option maxHeartbeats 8000000 in
set_option maxRecDepth 100000 in
theorem spend_calls {g : Nat} {v0 v1 : Value} {f : Int} {d : Bool} {w : World} (hb : w.heap[g]? = some (.cells #[v0, v1, .int .i64 f, .bool d] 25 (0, 0))) (hf : -1 ≤ f ∧ f ≤ 1000000) :
    Calls Try.prog 22 #[.pointer (some ⟨g, 0, none⟩)] w fun e w' => e = .returned (.bool (decide (f ≠ 0))) ∧ w'.heap[g]? = some (.cells #[v0, v1, .int .i64 (fuelOf f), .bool (deadOf f d)] 25 (0, 0)) ∧ Stp (fun k => k = g) w w' := by
  have HB := Aside0.mk hb
  have hc2 : w.cell? ⟨g, 2, none⟩ = some (.int .i64 f) := (blk_cell hb 2).trans rfl
  have jn : IntKind.i64.wrap (f - 1) = f - 1 := by rw [IntKind.wrap_i64]; omega
  have HF := Aside0.mk hf
  clear hb hf
  by_cases c0 : f = 0
  · have c0b : (f == 0) = true := beq_iff_eq.mpr c0
    go_enter Try.func22, Try.ntmps22
    go_wp2_with (first | ((with_reducible refine gate_store (t := 4) (p := 11) rfl ?_); refine Aside0.out ?_))
    refine Aside0.mk ?_
    refine st (o' := 3) (u := .bool true) (seg := [.bool true]) ?hw1 ?hN1 rfl ?hp1 ?hx1 rfl HB.out (by kernel_rfl) (by show 3 + 1 ≤ 4; omega) (by simp [Value.oneCell']) ?_
    case hw1 => rfl
    case hN1 => rfl
    case hp1 => rfl
    case hx1 => rfl
    intro w1 hb1 hS1
    have HB1 := Aside0.mk hb1
    have HS1 := Aside0.mk hS1
    clear hb1 hS1
    go_wp2
    go_ret
    refine ⟨by first | rfl | (rw [c0]; rfl), ?_, HS1.out⟩
    have := HB1.out
    simpa [fuelOf, deadOf, c0] using this
  · have c0b : (f == 0) = false := beq_eq_false_iff_ne.mpr c0
    by_cases c1 : f > 0
    · have c1b : decide (0 < f) = true := decide_eq_true c1
      go_enter Try.func22, Try.ntmps22
      go_wp2_with (first | ((with_reducible refine gate_store (t := 2) (p := 24) rfl ?_); refine Aside0.out ?_))
      refine Aside0.mk ?_
      refine st (o' := 2) (u := .int .i64 (f - 1)) (seg := [.int .i64 (f - 1)]) ?hw2 ?hN2 rfl ?hp2 ?hx2 rfl HB.out (by kernel_rfl) ?hf2 (by simp [Value.oneCell']) ?_
      case hw2 => rfl
      case hN2 => rfl
      case hp2 => rfl
      case hx2 => rfl
      case hf2 => show 2 + 1 ≤ 4; omega
      intro w1 hb1 hS1
      have HB1 := Aside0.mk hb1
      have HS1 := Aside0.mk hS1
      clear hb1 hS1
      go_wp2
      go_ret
      refine ⟨by first | rfl | (rw [decide_eq_true (show f ≠ 0 from c0)]; rfl) | (simp [c0]), ?_, HS1.out⟩
      have := HB1.out
      rw [show fuelOf f = f - 1 from if_pos (by omega), show deadOf f d = d from if_neg (by omega)]
      exact this
    · have c1b : decide (0 < f) = false := decide_eq_false c1
      go_enter Try.func22, Try.ntmps22
      go_wp2
      go_ret
      refine ⟨by first | rfl | (rw [decide_eq_true (show f ≠ 0 from c0)]; rfl) | (simp [c0]), ?_, Stp.refl _ _⟩
      rw [show fuelOf f = f from if_neg (by omega), show deadOf f d = d from if_neg (by omega)]
      exact HB.out
end Go.Proofs.Ytlpghnhcgljhoaa.Q
end
section
namespace Go.Proofs.Ytlpghnhcgljhoaa.Q
open Go.RowKit Go.Proofs.YtlpghnhcgljhoaaW.PrintWords Go.Proofs.YtlpghnhcgljhoaaW.PrintLast Go.Proofs.Ytlpghnhcgljhoaa.LK Go.Proofs.YtlpghnhcgljhoaaW.PrintMore
attribute [local go_sem] max2_int min2_int max_two min_two max_three min_three max_four min_four
set_option linter.unusedVariables false
set_option linter.unusedSimpArgs false
def impl_Dev_clone.l0 : Nat → List (S43) → Int → Int → List Int → List (S43) → Int → Bool → Option (List Int × (List (S43)) × Int × Bool)
  | 0, _, _, _, _, _, _, _ => none
  | k + 1, x18, x19, x20, x104000, x104001, x104002, x104003 => if x20 < x19 then (if 0 ≤ x20 then (if x20 < (x18.length : Int) then (if ([] : List Int).length + ((rd_T43 x18 x20).f1).length < 140737488355328 then (if x104001.length < 4398046511104 then (impl_Dev_clone.l0 k x18 x19 (wrap64 (x20 + 1)) x104000 (x104001 ++ [(⟨(rd_T43 x18 x20).f0, (([] : List Int) ++ ((rd_T43 x18 x20).f1))⟩ : S43)]) x104002 x104003) else (none)) else (none)) else (none)) else (none)) else (some (x104000, x104001, x104002, x104003))
def impl_Dev_clone.f (k : Nat) (l0_0 : List Int) (l0_1 : List (S43)) (a0_2 : Int) (a0_3 : Bool) : Option (List Int × (List (S43)) × Int × Bool) := if ([] : List Int).length + l0_0.length < 140737488355328 then (impl_Dev_clone.l0 k l0_1 (l0_1.length : Int) 0 (([] : List Int) ++ l0_0) ([] : List (S43)) a0_2 a0_3) else (none)
def impl_Dev_clone.T6 : Bool × List (List Nat × List Nat) := (true, [([], []), ([0], [0]), ([], []), ([2], [2]), ([], []), ([4], [4]), ([5], [5]), ([3, 6], [3, 6]), ([7], [7]), ([1, 8, 6], [1, 8]), ([0, 1, 2, 3, 4, 5, 6, 7, 8, 9], []), ([10, 9, 9, 0, 1, 2, 3, 4, 5, 6, 7, 8, 9], [9, 10])])
def impl_Dev_clone.B6 : List Nat := [0, 1, 0, 4, 0, 16, 48, 124, 252, 511, 1023, 2047]
theorem impl_Dev_clone.tab6 : rtab .any (opsOf Try.f21 6) = impl_Dev_clone.T6 := by kernel_rfl
theorem impl_Dev_clone.bits6 : waitsOk impl_Dev_clone.T6.2 impl_Dev_clone.B6 = true := by kernel_rfl
set_option maxHeartbeats 8000000 in
set_option maxRecDepth 100000 in
theorem impl_Dev_clone.calls (k : Nat) (A0_0 : Option Addr) (c0_0 : Nat) (l0_0 : List Int) (A0_1 : Option Addr) (c0_1 : Nat) (l0_1 : List (S43)) (a0_2 : Int) (a0_3 : Bool) (r1 : List Int) (r2 : List (S43)) (r3 : Int) (r4 : Bool) (w : World) (hr0_0 : Kd.C (Kd.int .u8) w A0_0 l0_0.length l0_0) (hc0_0 : l0_0.length ≤ c0_0) (hr0_1 : Kd.C k43 w A0_1 l0_1.length l0_1) (hc0_1 : l0_1.length ≤ c0_1) (h : impl_Dev_clone.f k l0_0 l0_1 a0_2 a0_3 = some (r1, r2, r3, r4)) :
    Calls Try.prog 21 #[.agg #[.slice A0_0 l0_0.length c0_0, .slice A0_1 l0_1.length c0_1, .int .i64 a0_2, .bool a0_3]] w fun e w' => ∃ v0_ v1_ : Value, e = .returned (.agg #[v0_, v1_, .int .i64 r3, .bool r4]) ∧ Kd.R (Kd.int .u8) 5 w' w.heap.size (fun _ => True) v0_ r1 ∧ Kd.S k43 43 w' w.heap.size (fun k_ => some k_ ≠ (v0_ : Value).ownBlock) v1_ r2 ∧ Below w.heap.size w w' := by
  have hu25 := Try.underlying25
  have hu43 := Try.underlying43
  have HR0_0 := Aside0.mk hr0_0
  have HC0_0 := Aside0.mk hc0_0
  clear hr0_0 hc0_0
  have HR0_1 := Aside0.mk hr0_1
  have HC0_1 := Aside0.mk hc0_1
  clear hr0_1 hc0_1
  have HB := Aside0.mk (Below.refl w.heap.size w)
  have H : (if ([] : List Int).length + l0_0.length < 140737488355328 then (impl_Dev_clone.l0 k l0_1 (l0_1.length : Int) 0 (([] : List Int) ++ l0_0) ([] : List (S43)) a0_2 a0_3) else (none)) = some (r1, r2, r3, r4) := h
  clear h
  by_cases c2 : ([] : List Int).length + l0_0.length < 140737488355328
  · rw [if_pos c2] at H
    have LMc2 := Aside0.mk c2
    clear c2
    obtain ⟨y104, hy104⟩ : ∃ y_ : List Int, y_ = (([] : List Int) ++ l0_0) := ⟨_, rfl⟩
    replace H : (impl_Dev_clone.l0 k l0_1 (l0_1.length : Int) 0 y104 ([] : List (S43)) a0_2 a0_3) = some (r1, r2, r3, r4) := by first | (rw [hy104]; with_reducible exact H) | (have H2_ := (Option.bind_some _ _).symm.trans H; rw [hy104]; with_reducible exact H2_) | (have H2_ := (Option.bind_some _ _).symm.trans H; with_reducible exact H2_) | with_reducible exact H | (rw [hy104]; exact H) | exact H
    have Ny104 := Aside0.mk hy104
    clear hy104
    have H' := Aside0.mk H
    clear H
    go_enter Try.func21, Try.ntmps21
    go_wp2_with (first | ((with_reducible refine gate_dst (N := 1) rfl ?_); refine box_event ?hg (N := 1) ?hd (cs := #[.slice A0_0 l0_0.length c0_0, .slice A0_1 l0_1.length c0_1, .int .i64 a0_2, .bool a0_3]) (t := 25) ?hr ?_; (case hd => rfl); (case hg => rfl); (case hr => first | (go_simp; done) | (go_simp; rfl)); intro gb101 hg w3 hbox hb; have n0_ := Aside0.mk (below_step (by repeat (first | (with_reducible first | exact HB.out | apply below_alloc | apply pw_below_drewN | apply below_drew1) | exact HB.out)) hb); have n1_ := Aside0.mk (hbox); have n2_ := Aside0.mk ((by rw [hg]; exact (below_size (by repeat (first | (with_reducible first | exact HB.out | apply below_alloc | apply pw_below_drewN | apply below_drew1) | exact HB.out))) : w.heap.size ≤ gb101)); have n3_ := Aside0.mk ((by rw [hg]; exact (below_size (by repeat (first | (with_reducible first | exact HB.out | apply below_alloc | apply pw_below_drewN | apply below_drew1) | exact HB.out))) : w.heap.size ≤ gb101)); clear HB; have HB := n0_; have BK101 := n1_; have GW101 := n2_; have GE101 := n3_; clear n0_ n1_ n2_ n3_; clear hb hbox hg) | ((with_reducible refine gate_dst (N := 2) rfl ?_); refine box_event ?hg (N := 2) ?hd (cs := #[.slice none 0 0, .slice none 0 0, .int .i64 0, .bool false]) (t := 25) ?hr ?_; (case hd => rfl); (case hg => rfl); (case hr => first | (go_simp; done) | (go_simp; rfl)); intro gb102 hg w4 hbox hb; have n0_ := Aside0.mk (blk_below (g := gb101) (o := .cells #[.slice A0_0 l0_0.length c0_0, .slice A0_1 l0_1.length c0_1, .int .i64 a0_2, .bool a0_3] 25 (0, 0)) (by (with_reducible repeat (first | refine blk_drewN ?_ _ | refine blk_drew ?_ | refine blk_alloc ?_ _)); exact BK101.out) hb); have n1_ := Aside0.mk (below_step (by repeat (first | (with_reducible first | exact HB.out | apply below_alloc | apply pw_below_drewN | apply below_drew1 | refine below_set ?_ GE101.out) | exact HB.out)) hb); have n2_ := Aside0.mk (hbox); have n3_ := Aside0.mk ((by rw [hg]; exact (below_size (by repeat (first | (with_reducible first | exact HB.out | apply below_alloc | apply pw_below_drewN | apply below_drew1 | refine below_set ?_ GE101.out) | exact HB.out))) : w.heap.size ≤ gb102)); have n4_ := Aside0.mk ((by rw [hg]; exact (below_size (by repeat (first | (with_reducible first | exact HB.out | apply below_alloc | apply pw_below_drewN | apply below_drew1 | refine below_set ?_ GE101.out) | exact HB.out))) : w.heap.size ≤ gb102)); have n5_ := Aside0.mk ((by rw [hg]; exact Nat.ne_of_lt (blk_lt (g := gb101) (o := .cells #[.slice A0_0 l0_0.length c0_0, .slice A0_1 l0_1.length c0_1, .int .i64 a0_2, .bool a0_3] 25 (0, 0)) (by (with_reducible repeat (first | refine blk_drewN ?_ _ | refine blk_drew ?_ | refine blk_alloc ?_ _)); exact BK101.out)) : gb101 ≠ gb102)); have n6_ := Aside0.mk ((by rw [hg]; exact Nat.ne_of_gt (blk_lt (g := gb101) (o := .cells #[.slice A0_0 l0_0.length c0_0, .slice A0_1 l0_1.length c0_1, .int .i64 a0_2, .bool a0_3] 25 (0, 0)) (by (with_reducible repeat (first | refine blk_drewN ?_ _ | refine blk_drew ?_ | refine blk_alloc ?_ _)); exact BK101.out)) : gb102 ≠ gb101)); clear BK101; clear HB; have BK101 := n0_; have HB := n1_; have BK102 := n2_; have GW102 := n3_; have GE102 := n4_; have NB101_102 := n5_; have NB102_101 := n6_; clear n0_ n1_ n2_ n3_ n4_ n5_ n6_; clear hb hbox hg; have hnb5 := NB101_102.out; have hnc5 := NB102_101.out; have hcz6_0 : w4.cell? ⟨gb101, 0, none⟩ = some (.slice A0_0 l0_0.length c0_0) := (blk_cell BK101.out 0).trans rfl; have hcz6_1 : w4.cell? ⟨gb101, 1, none⟩ = some (.slice A0_1 l0_1.length c0_1) := (blk_cell BK101.out 1).trans rfl; have hcz6_2 : w4.cell? ⟨gb101, 2, none⟩ = some (.int .i64 a0_2) := (blk_cell BK101.out 2).trans rfl; have hcz6_3 : w4.cell? ⟨gb101, 3, none⟩ = some (.bool a0_3) := (blk_cell BK101.out 3).trans rfl; have hfz6_0 := blk_frozen BK101.out 0; have hfz6_1 := blk_frozen BK101.out 1; have hfz6_2 := blk_frozen BK101.out 2; have hfz6_3 := blk_frozen BK101.out 3) | ((with_reducible refine gate_dst (N := 3) rfl ?_); refine box_event ?hg (N := 3) ?hd (cs := #[.slice none 0 0, .slice none 0 0, .int .i64 0, .bool false]) (t := 25) ?hr ?_; (case hd => rfl); (case hg => rfl); (case hr => first | (go_simp; done) | (go_simp; rfl)); intro gb103 hg w7 hbox hb; have n0_ := Aside0.mk (blk_below (g := gb101) (o := .cells #[.slice A0_0 l0_0.length c0_0, .slice A0_1 l0_1.length c0_1, .int .i64 a0_2, .bool a0_3] 25 (0, 0)) (by (with_reducible repeat (first | refine blk_drewN ?_ _ | refine blk_drew ?_ | refine blk_alloc ?_ _)); exact BK101.out) hb); have n1_ := Aside0.mk (blk_below (g := gb102) (o := .cells #[.slice none 0 0, .slice none 0 0, .int .i64 0, .bool false] 25 (0, 0)) (by (with_reducible repeat (first | refine blk_drewN ?_ _ | refine blk_drew ?_ | refine blk_alloc ?_ _)); exact BK102.out) hb); have n2_ := Aside0.mk (below_step (by repeat (first | (with_reducible first | exact HB.out | apply below_alloc | apply pw_below_drewN | apply below_drew1 | refine below_set ?_ GE101.out | refine below_set ?_ GE102.out) | exact HB.out)) hb); have n3_ := Aside0.mk (hbox); have n4_ := Aside0.mk ((by rw [hg]; exact (below_size (by repeat (first | (with_reducible first | exact HB.out | apply below_alloc | apply pw_below_drewN | apply below_drew1 | refine below_set ?_ GE101.out | refine below_set ?_ GE102.out) | exact HB.out))) : w.heap.size ≤ gb103)); have n5_ := Aside0.mk ((by rw [hg]; exact (below_size (by repeat (first | (with_reducible first | exact HB.out | apply below_alloc | apply pw_below_drewN | apply below_drew1 | refine below_set ?_ GE101.out | refine below_set ?_ GE102.out) | exact HB.out))) : w.heap.size ≤ gb103)); have n6_ := Aside0.mk ((by rw [hg]; exact Nat.ne_of_lt (blk_lt (g := gb101) (o := .cells #[.slice A0_0 l0_0.length c0_0, .slice A0_1 l0_1.length c0_1, .int .i64 a0_2, .bool a0_3] 25 (0, 0)) (by (with_reducible repeat (first | refine blk_drewN ?_ _ | refine blk_drew ?_ | refine blk_alloc ?_ _)); exact BK101.out)) : gb101 ≠ gb103)); have n7_ := Aside0.mk ((by rw [hg]; exact Nat.ne_of_gt (blk_lt (g := gb101) (o := .cells #[.slice A0_0 l0_0.length c0_0, .slice A0_1 l0_1.length c0_1, .int .i64 a0_2, .bool a0_3] 25 (0, 0)) (by (with_reducible repeat (first | refine blk_drewN ?_ _ | refine blk_drew ?_ | refine blk_alloc ?_ _)); exact BK101.out)) : gb103 ≠ gb101)); have n8_ := Aside0.mk ((by rw [hg]; exact Nat.ne_of_lt (blk_lt (g := gb102) (o := .cells #[.slice none 0 0, .slice none 0 0, .int .i64 0, .bool false] 25 (0, 0)) (by (with_reducible repeat (first | refine blk_drewN ?_ _ | refine blk_drew ?_ | refine blk_alloc ?_ _)); exact BK102.out)) : gb102 ≠ gb103)); have n9_ := Aside0.mk ((by rw [hg]; exact Nat.ne_of_gt (blk_lt (g := gb102) (o := .cells #[.slice none 0 0, .slice none 0 0, .int .i64 0, .bool false] 25 (0, 0)) (by (with_reducible repeat (first | refine blk_drewN ?_ _ | refine blk_drew ?_ | refine blk_alloc ?_ _)); exact BK102.out)) : gb103 ≠ gb102)); clear BK101; clear BK102; clear HB; have BK101 := n0_; have BK102 := n1_; have HB := n2_; have BK103 := n3_; have GW103 := n4_; have GE103 := n5_; have NB101_103 := n6_; have NB103_101 := n7_; have NB102_103 := n8_; have NB103_102 := n9_; clear n0_ n1_ n2_ n3_ n4_ n5_ n6_ n7_ n8_ n9_; clear hb hbox hg; have hnb8 := NB103_101.out; have hnc8 := NB101_103.out; have hnb9 := NB103_102.out; have hnc9 := NB102_103.out; have hcz10_0 : w7.cell? ⟨gb103, 0, none⟩ = some (.slice none 0 0) := (blk_cell BK103.out 0).trans rfl; have hcz10_1 : w7.cell? ⟨gb103, 1, none⟩ = some (.slice none 0 0) := (blk_cell BK103.out 1).trans rfl; have hcz10_2 : w7.cell? ⟨gb103, 2, none⟩ = some (.int .i64 0) := (blk_cell BK103.out 2).trans rfl; have hcz10_3 : w7.cell? ⟨gb103, 3, none⟩ = some (.bool false) := (blk_cell BK103.out 3).trans rfl; have hfz10_0 := blk_frozen BK103.out 0; have hfz10_1 := blk_frozen BK103.out 1; have hfz10_2 := blk_frozen BK103.out 2; have hfz10_3 := blk_frozen BK103.out 3; have hcz11_0 : w7.cell? ⟨gb101, 0, none⟩ = some (.slice A0_0 l0_0.length c0_0) := (blk_cell BK101.out 0).trans rfl; have hcz11_1 : w7.cell? ⟨gb101, 1, none⟩ = some (.slice A0_1 l0_1.length c0_1) := (blk_cell BK101.out 1).trans rfl; have hcz11_2 : w7.cell? ⟨gb101, 2, none⟩ = some (.int .i64 a0_2) := (blk_cell BK101.out 2).trans rfl; have hcz11_3 : w7.cell? ⟨gb101, 3, none⟩ = some (.bool a0_3) := (blk_cell BK101.out 3).trans rfl; have hfz11_0 := blk_frozen BK101.out 0; have hfz11_1 := blk_frozen BK101.out 1; have hfz11_2 := blk_frozen BK101.out 2; have hfz11_3 := blk_frozen BK101.out 3) | ((with_reducible refine gate_builtin (b := .append) (xs := #[.tmp 12, .tmp 14]) rfl ?_); at_builtin; refine Kd.R_append_rows (Kd.int .u8) (w0 := w) w.heap.size rfl (.tmp 12) (.tmp 14) 22 5 (.int .u8 0) 1 rfl Try.underlying22 info5 rfl (by decide) (by omega) (.slice none 0 0) ([] : List Int) l0_0 _ _ _ (fun _ => True) (fun _ => False) rfl rfl ?aO ?aR (fun _ _ h => h) (fun _ h => h.elim) ?aF ?aB ?aS ?aL ?_; (case aR => exact Kd.C_below HR0_0.out (by repeat (first | (with_reducible first | exact HB.out | apply below_alloc | apply pw_below_drewN | apply below_drew1 | refine below_set ?_ GE101.out | refine below_set ?_ GE102.out | refine below_set ?_ GE103.out) | exact HB.out))); (case aB => exact (by repeat (first | (with_reducible first | exact HB.out | apply below_alloc | apply pw_below_drewN | apply below_drew1 | refine below_set ?_ GE101.out | refine below_set ?_ GE102.out | refine below_set ?_ GE103.out) | exact HB.out))); (case aF => exact (fun _ _ => trivial)); (case aO => exact ((Kd.R_nil _ _ _ _ (fun _ => True)))); (case aS => exact (below_size (by repeat (first | (with_reducible first | exact HB.out | apply below_alloc | apply pw_below_drewN | apply below_drew1 | refine below_set ?_ GE101.out | refine below_set ?_ GE102.out | refine below_set ?_ GE103.out) | exact HB.out)))); (case aL => have := LMc2.out; omega); intro v105 w12 ho hb hg hat; rw [← Ny104.out] at ho; have n0_ := Aside0.mk (blk_grown (g := gb101) (o := .cells #[.slice A0_0 l0_0.length c0_0, .slice A0_1 l0_1.length c0_1, .int .i64 a0_2, .bool a0_3] 25 (0, 0)) (by (with_reducible repeat (first | refine blk_drewN ?_ _ | refine blk_drew ?_ | refine blk_alloc ?_ _)); refine blk_far ?_ NB101_103.out _; (with_reducible repeat (first | refine blk_drewN ?_ _ | refine blk_drew ?_ | refine blk_alloc ?_ _)); refine blk_far ?_ NB101_103.out _; (with_reducible repeat (first | refine blk_drewN ?_ _ | refine blk_drew ?_ | refine blk_alloc ?_ _)); refine blk_far ?_ NB101_103.out _; (with_reducible repeat (first | refine blk_drewN ?_ _ | refine blk_drew ?_ | refine blk_alloc ?_ _)); refine blk_far ?_ NB101_103.out _; (with_reducible repeat (first | refine blk_drewN ?_ _ | refine blk_drew ?_ | refine blk_alloc ?_ _)); exact BK101.out) hg (by simp [Value.ownBlock])); have n1_ := Aside0.mk (blk_grown (g := gb102) (o := .cells #[.slice none 0 0, .slice none 0 0, .int .i64 0, .bool false] 25 (0, 0)) (by (with_reducible repeat (first | refine blk_drewN ?_ _ | refine blk_drew ?_ | refine blk_alloc ?_ _)); refine blk_far ?_ NB102_103.out _; (with_reducible repeat (first | refine blk_drewN ?_ _ | refine blk_drew ?_ | refine blk_alloc ?_ _)); refine blk_far ?_ NB102_103.out _; (with_reducible repeat (first | refine blk_drewN ?_ _ | refine blk_drew ?_ | refine blk_alloc ?_ _)); refine blk_far ?_ NB102_103.out _; (with_reducible repeat (first | refine blk_drewN ?_ _ | refine blk_drew ?_ | refine blk_alloc ?_ _)); refine blk_far ?_ NB102_103.out _; (with_reducible repeat (first | refine blk_drewN ?_ _ | refine blk_drew ?_ | refine blk_alloc ?_ _)); exact BK102.out) hg (by simp [Value.ownBlock])); have n2_ := Aside0.mk (blk_grown (g := gb103) (o := .cells #[.slice none 0 0, .slice none 0 0, .int .i64 a0_2, .bool a0_3] 25 (0, 0)) (by (with_reducible repeat (first | refine blk_drewN ?_ _ | refine blk_drew ?_ | refine blk_alloc ?_ _)); refine blk_put (cs := #[.slice none 0 0, .slice none 0 0, .int .i64 a0_2, .bool false]) ?_ 3 _ rfl; (with_reducible repeat (first | refine blk_drewN ?_ _ | refine blk_drew ?_ | refine blk_alloc ?_ _)); refine blk_put (cs := #[.slice none 0 0, .slice none 0 0, .int .i64 0, .bool false]) ?_ 2 _ rfl; (with_reducible repeat (first | refine blk_drewN ?_ _ | refine blk_drew ?_ | refine blk_alloc ?_ _)); refine blk_put (cs := #[.slice none 0 0, .slice none 0 0, .int .i64 0, .bool false]) ?_ 1 _ rfl; (with_reducible repeat (first | refine blk_drewN ?_ _ | refine blk_drew ?_ | refine blk_alloc ?_ _)); refine blk_put (cs := #[.slice none 0 0, .slice none 0 0, .int .i64 0, .bool false]) ?_ 0 _ rfl; (with_reducible repeat (first | refine blk_drewN ?_ _ | refine blk_drew ?_ | refine blk_alloc ?_ _)); exact BK103.out) hg (by simp [Value.ownBlock])); have n3_ := Aside0.mk (hb); have n4_ := Aside0.mk (ho); clear BK101; clear BK102; clear BK103; clear HB; have BK101 := n0_; have BK102 := n1_; have BK103 := n2_; have HB := n3_; have HO106 := n4_; clear n0_ n1_ n2_ n3_ n4_; clear ho hb hg hat; obtain ⟨Ao13, co13, eo13⟩ := Kd.R_slice HO106.out; subst eo13; have hcz14_0 : w12.cell? ⟨gb103, 0, none⟩ = some (.slice none 0 0) := (blk_cell BK103.out 0).trans rfl; have hcz14_1 : w12.cell? ⟨gb103, 1, none⟩ = some (.slice none 0 0) := (blk_cell BK103.out 1).trans rfl; have hcz14_2 : w12.cell? ⟨gb103, 2, none⟩ = some (.int .i64 a0_2) := (blk_cell BK103.out 2).trans rfl; have hcz14_3 : w12.cell? ⟨gb103, 3, none⟩ = some (.bool a0_3) := (blk_cell BK103.out 3).trans rfl; have hfz14_0 := blk_frozen BK103.out 0; have hfz14_1 := blk_frozen BK103.out 1; have hfz14_2 := blk_frozen BK103.out 2; have hfz14_3 := blk_frozen BK103.out 3; have hcz15_0 : w12.cell? ⟨gb101, 0, none⟩ = some (.slice A0_0 l0_0.length c0_0) := (blk_cell BK101.out 0).trans rfl; have hcz15_1 : w12.cell? ⟨gb101, 1, none⟩ = some (.slice A0_1 l0_1.length c0_1) := (blk_cell BK101.out 1).trans rfl; have hcz15_2 : w12.cell? ⟨gb101, 2, none⟩ = some (.int .i64 a0_2) := (blk_cell BK101.out 2).trans rfl; have hcz15_3 : w12.cell? ⟨gb101, 3, none⟩ = some (.bool a0_3) := (blk_cell BK101.out 3).trans rfl; have hfz15_0 := blk_frozen BK101.out 0; have hfz15_1 := blk_frozen BK101.out 1; have hfz15_2 := blk_frozen BK101.out 2; have hfz15_3 := blk_frozen BK101.out 3))
    go_loopg [20] k (fun kq v20 w' => ∃ (x20_1 : Int) (x104001_1 : List (S43)) (u104001 : Value), v20 = .int .i64 x20_1 ∧ Aside0 (impl_Dev_clone.l0 kq l0_1 (l0_1.length : Int) x20_1 y104 x104001_1 a0_2 a0_3 = some (r1, r2, r3, r4)) ∧ Aside0 (kq ≤ k) ∧ Aside0 (Kd.R (Kd.int .u8) 5 w' w.heap.size (fun _ => True) (.slice Ao13 y104.length co13) y104) ∧ Aside0 (Kd.S k43 43 w' w.heap.size (fun k_ => some k_ ≠ ((.slice Ao13 y104.length co13) : Value).ownBlock) u104001 x104001_1) ∧ Aside0 (w'.heap[gb101]? = some (.cells #[(.slice A0_0 l0_0.length c0_0), (.slice A0_1 l0_1.length c0_1), .int .i64 a0_2, .bool a0_3] 25 (0, 0))) ∧ Aside0 (w'.heap[gb102]? = some (.cells #[(.slice none 0 0), (.slice none 0 0), .int .i64 0, .bool false] 25 (0, 0))) ∧ Aside0 (w'.heap[gb103]? = some (.cells #[(.slice Ao13 y104.length co13), u104001, .int .i64 a0_2, .bool a0_3] 25 (0, 0))) ∧ Aside0 (Below w.heap.size w w'))
    case atStart => exact ⟨(0), (([] : List (S43))), (.slice none 0 0), (by first | rfl | (simp; done) | (simp [*]; done)), H', ⟨Nat.le_refl _⟩, ⟨by (with_reducible repeat (first | apply Kd.R_alloc | apply Kd.R_drewN | apply Kd.R_drew)); exact Kd.R_mono (Kd.R_far (p := ⟨gb103, 0, none⟩) (Kd.R_types HO106.out BK103.out (by decide)) (fun _ hk => hk.2) (.slice Ao13 y104.length co13)) (fun _ hk => trivial)⟩, ⟨by first | exact Kd.S_nil _ _ _ _ _ | exact Kd.N_nil _ _ _ _ _ | exact Kd.V_nil _ _ _ _ _ | exact Kd.Q_nil _ _ _ _ _ | exact Kd.R_nil _ _ _ _ _⟩, ⟨by (with_reducible repeat (first | refine blk_drewN ?_ _ | refine blk_drew ?_ | refine blk_alloc ?_ _)); refine blk_far ?_ NB101_103.out _; (with_reducible repeat (first | refine blk_drewN ?_ _ | refine blk_drew ?_ | refine blk_alloc ?_ _)); exact BK101.out⟩, ⟨by (with_reducible repeat (first | refine blk_drewN ?_ _ | refine blk_drew ?_ | refine blk_alloc ?_ _)); refine blk_far ?_ NB102_103.out _; (with_reducible repeat (first | refine blk_drewN ?_ _ | refine blk_drew ?_ | refine blk_alloc ?_ _)); exact BK102.out⟩, ⟨by (with_reducible repeat (first | refine blk_drewN ?_ _ | refine blk_drew ?_ | refine blk_alloc ?_ _)); refine blk_put (cs := #[.slice none 0 0, .slice none 0 0, .int .i64 a0_2, .bool a0_3]) ?_ 0 _ rfl; (with_reducible repeat (first | refine blk_drewN ?_ _ | refine blk_drew ?_ | refine blk_alloc ?_ _)); exact BK103.out⟩, ⟨by repeat (first | (with_reducible first | exact HB.out | apply below_alloc | apply pw_below_drewN | apply below_drew1 | refine below_set ?_ GE101.out | refine below_set ?_ GE102.out | refine below_set ?_ GE103.out) | exact HB.out)⟩⟩
    case round =>
      clear H'
      try clear c2
      try clear p2
      try clear c5
      try clear c8
      try clear c9
      try clear hcz10_0
      try clear hcz10_1
      try clear hcz10_2
      try clear hcz10_3
      try clear hcz11_0
      try clear hcz11_1
      try clear hcz11_2
      try clear hcz11_3
      try clear hcz14_0
      try clear hcz14_1
      try clear hcz14_2
      try clear hcz14_3
      try clear hcz15_0
      try clear hcz15_1
      try clear hcz15_2
      try clear hcz15_3
      try clear hcz6_0
      try clear hcz6_1
      try clear hcz6_2
      try clear hcz6_3
      try clear hfz10_0
      try clear hfz10_1
      try clear hfz10_2
      try clear hfz10_3
      try clear hfz11_0
      try clear hfz11_1
      try clear hfz11_2
      try clear hfz11_3
      try clear hfz14_0
      try clear hfz14_1
      try clear hfz14_2
      try clear hfz14_3
      try clear hfz15_0
      try clear hfz15_1
      try clear hfz15_2
      try clear hfz15_3
      try clear hfz6_0
      try clear hfz6_1
      try clear hfz6_2
      try clear hfz6_3
      obtain ⟨x20_1, x104001_1, u104001, rfl, HA, HK1, HO_104000, HO_104001, BK101, BK102, BK103, HB⟩ := hrel
      cases gk with
      | zero => exact absurd HA.out (by simp [impl_Dev_clone.l0])
      | succ k1 =>
        have H := HA.out
        clear HA
        simp only [impl_Dev_clone.l0] at H
        by_cases c16 : x20_1 < (l0_1.length : Int)
        · rw [if_pos c16] at H
          have c16b0 : decide (x20_1 < (l0_1.length : Int)) = true := decide_eq_true c16
          clear c16
          by_cases c17 : 0 ≤ x20_1
          · rw [if_pos c17] at H
            have c17b0 : decide (0 ≤ x20_1) = true := decide_eq_true c17
            clear c17
            by_cases c18 : x20_1 < (l0_1.length : Int)
            · rw [if_pos c18] at H
              have c18b0 : decide (x20_1 < (l0_1.length : Int)) = true := decide_eq_true c18
              clear c18
              by_cases c19 : ([] : List Int).length + ((rd_T43 l0_1 x20_1).f1).length < 140737488355328
              · rw [if_pos c19] at H
                have LMc19 := Aside0.mk c19
                clear c19
                obtain ⟨y109, hy109⟩ : ∃ y_ : List Int, y_ = (([] : List Int) ++ ((rd_T43 l0_1 x20_1).f1)) := ⟨_, rfl⟩
                replace H : (if x104001_1.length < 4398046511104 then (impl_Dev_clone.l0 k1 l0_1 (l0_1.length : Int) (wrap64 (x20_1 + 1)) y104 (x104001_1 ++ [(⟨(rd_T43 l0_1 x20_1).f0, y109⟩ : S43)]) a0_2 a0_3) else (none)) = some (r1, r2, r3, r4) := by first | (rw [hy109]; with_reducible exact H) | (have H2_ := (Option.bind_some _ _).symm.trans H; rw [hy109]; with_reducible exact H2_) | (have H2_ := (Option.bind_some _ _).symm.trans H; with_reducible exact H2_) | with_reducible exact H | (rw [hy109]; exact H) | exact H
                have Ny109 := Aside0.mk hy109
                clear hy109
                by_cases c20 : x104001_1.length < 4398046511104
                · rw [if_pos c20] at H
                  have LMc20 := Aside0.mk c20
                  clear c20
                  obtain ⟨y112, hy112⟩ : ∃ y_ : List (S43), y_ = (x104001_1 ++ [(⟨(rd_T43 l0_1 x20_1).f0, y109⟩ : S43)]) := ⟨_, rfl⟩
                  replace H : (impl_Dev_clone.l0 k1 l0_1 (l0_1.length : Int) (wrap64 (x20_1 + 1)) y104 y112 a0_2 a0_3) = some (r1, r2, r3, r4) := by first | (rw [hy112]; with_reducible exact H) | (have H2_ := (Option.bind_some _ _).symm.trans H; rw [hy112]; with_reducible exact H2_) | (have H2_ := (Option.bind_some _ _).symm.trans H; with_reducible exact H2_) | with_reducible exact H | (rw [hy112]; exact H) | exact H
                  have Ny112 := Aside0.mk hy112
                  clear hy112
                  have H' := Aside0.mk H
                  clear H
                  have p107 : 0 ≤ (x20_1 : Int) := of_decide_eq_true (by first | (with_reducible assumption) | assumption)
                  have q107 : x20_1 < (l0_1.length : Int) := of_decide_eq_true (by first | (with_reducible assumption) | assumption)
                  obtain ⟨ad107, A107_1, c107_1, e107, hx107_0, hx107_1, hl107_1, hi107_1⟩ := at_T43 HR0_1.out x20_1 p107 q107
                  cases e107
                  replace hx107_0 := (HB.out.cell (World.block_lt_of_cell? w _ hx107_0)).trans hx107_0
                  replace hx107_1 := (HB.out.cell (World.block_lt_of_cell? w _ hx107_1)).trans hx107_1
                  have HR107_1 := Aside0.mk hi107_1
                  have HC107_1 := Aside0.mk hl107_1
                  clear hi107_1 hl107_1
                  replace p107 := eq_true p107
                  replace q107 := eq_true q107
                  try go_wp2_with (first | ((with_reducible refine gate_dst (N := 5) rfl ?_); refine box_event ?hg (N := 5) ?hd (cs := #[.int .i64 0, .slice none 0 0]) (t := 43) ?hr ?_; (case hd => rfl); (case hg => rfl); (case hr => first | (go_simp; done) | (go_simp; rfl)); intro gb108 hg w21 hbox hb; have n0_ := Aside0.mk (Kd.R_below (by (with_reducible repeat (first | apply Kd.R_alloc | apply Kd.R_drewN | apply Kd.R_drew)); exact HO_104000.out) hb); have n1_ := Aside0.mk (Kd.S_below (Kd.S_elderB (by (with_reducible repeat (first | apply Kd.S_alloc | apply Kd.S_drewN | apply Kd.S_drew)); exact HO_104001.out) gb108 (Nat.le_of_eq hg.symm)) hb); have n2_ := Aside0.mk (blk_below (g := gb101) (o := .cells #[.slice A0_0 l0_0.length c0_0, .slice (some ad107) l0_1.length c0_1, .int .i64 a0_2, .bool a0_3] 25 (0, 0)) (by (with_reducible repeat (first | refine blk_drewN ?_ _ | refine blk_drew ?_ | refine blk_alloc ?_ _)); exact BK101.out) hb); have n3_ := Aside0.mk (blk_below (g := gb102) (o := .cells #[.slice none 0 0, .slice none 0 0, .int .i64 0, .bool false] 25 (0, 0)) (by (with_reducible repeat (first | refine blk_drewN ?_ _ | refine blk_drew ?_ | refine blk_alloc ?_ _)); exact BK102.out) hb); have n4_ := Aside0.mk (blk_below (g := gb103) (o := .cells #[.slice Ao13 y104.length co13, u104001, .int .i64 a0_2, .bool a0_3] 25 (0, 0)) (by (with_reducible repeat (first | refine blk_drewN ?_ _ | refine blk_drew ?_ | refine blk_alloc ?_ _)); exact BK103.out) hb); have n5_ := Aside0.mk (below_step (by repeat (first | (with_reducible first | exact HB.out | apply below_alloc | apply pw_below_drewN | apply below_drew1 | refine below_set ?_ GE101.out | refine below_set ?_ GE102.out | refine below_set ?_ GE103.out) | exact HB.out)) hb); have n6_ := Aside0.mk (hbox); have n7_ := Aside0.mk ((by rw [hg]; exact (below_size (by repeat (first | (with_reducible first | exact HB.out | apply below_alloc | apply pw_below_drewN | apply below_drew1 | refine below_set ?_ GE101.out | refine below_set ?_ GE102.out | refine below_set ?_ GE103.out) | exact HB.out))) : w.heap.size ≤ gb108)); have n8_ := Aside0.mk ((by rw [hg]; exact (below_size (by repeat (first | (with_reducible first | exact HB.out | apply below_alloc | apply pw_below_drewN | apply below_drew1 | refine below_set ?_ GE101.out | refine below_set ?_ GE102.out | refine below_set ?_ GE103.out) | exact HB.out))) : w.heap.size ≤ gb108)); have n9_ := Aside0.mk ((by rw [hg]; exact Nat.ne_of_lt (blk_lt (g := gb101) (o := .cells #[.slice A0_0 l0_0.length c0_0, .slice (some ad107) l0_1.length c0_1, .int .i64 a0_2, .bool a0_3] 25 (0, 0)) (by (with_reducible repeat (first | refine blk_drewN ?_ _ | refine blk_drew ?_ | refine blk_alloc ?_ _)); exact BK101.out)) : gb101 ≠ gb108)); have n10_ := Aside0.mk ((by rw [hg]; exact Nat.ne_of_gt (blk_lt (g := gb101) (o := .cells #[.slice A0_0 l0_0.length c0_0, .slice (some ad107) l0_1.length c0_1, .int .i64 a0_2, .bool a0_3] 25 (0, 0)) (by (with_reducible repeat (first | refine blk_drewN ?_ _ | refine blk_drew ?_ | refine blk_alloc ?_ _)); exact BK101.out)) : gb108 ≠ gb101)); have n11_ := Aside0.mk ((by rw [hg]; exact Nat.ne_of_lt (blk_lt (g := gb102) (o := .cells #[.slice none 0 0, .slice none 0 0, .int .i64 0, .bool false] 25 (0, 0)) (by (with_reducible repeat (first | refine blk_drewN ?_ _ | refine blk_drew ?_ | refine blk_alloc ?_ _)); exact BK102.out)) : gb102 ≠ gb108)); have n12_ := Aside0.mk ((by rw [hg]; exact Nat.ne_of_gt (blk_lt (g := gb102) (o := .cells #[.slice none 0 0, .slice none 0 0, .int .i64 0, .bool false] 25 (0, 0)) (by (with_reducible repeat (first | refine blk_drewN ?_ _ | refine blk_drew ?_ | refine blk_alloc ?_ _)); exact BK102.out)) : gb108 ≠ gb102)); have n13_ := Aside0.mk ((by rw [hg]; exact Nat.ne_of_lt (blk_lt (g := gb103) (o := .cells #[.slice Ao13 y104.length co13, u104001, .int .i64 a0_2, .bool a0_3] 25 (0, 0)) (by (with_reducible repeat (first | refine blk_drewN ?_ _ | refine blk_drew ?_ | refine blk_alloc ?_ _)); exact BK103.out)) : gb103 ≠ gb108)); have n14_ := Aside0.mk ((by rw [hg]; exact Nat.ne_of_gt (blk_lt (g := gb103) (o := .cells #[.slice Ao13 y104.length co13, u104001, .int .i64 a0_2, .bool a0_3] 25 (0, 0)) (by (with_reducible repeat (first | refine blk_drewN ?_ _ | refine blk_drew ?_ | refine blk_alloc ?_ _)); exact BK103.out)) : gb108 ≠ gb103)); clear HO_104000; clear HO_104001; clear BK101; clear BK102; clear BK103; clear HB; have HO_104000 := n0_; have HO_104001 := n1_; have BK101 := n2_; have BK102 := n3_; have BK103 := n4_; have HB := n5_; have BK108 := n6_; have GW108 := n7_; have GE108 := n8_; have NB101_108 := n9_; have NB108_101 := n10_; have NB102_108 := n11_; have NB108_102 := n12_; have NB103_108 := n13_; have NB108_103 := n14_; clear n0_ n1_ n2_ n3_ n4_ n5_ n6_ n7_ n8_ n9_ n10_ n11_ n12_ n13_ n14_; clear hb hbox hg; have hnb22 := NB108_101.out; have hnc22 := NB101_108.out; have hnb23 := NB108_102.out; have hnc23 := NB102_108.out; have hnb24 := NB108_103.out; have hnc24 := NB103_108.out; have hcz25_0 : w21.cell? ⟨gb108, 0, none⟩ = some (.int .i64 0) := (blk_cell BK108.out 0).trans rfl; have hcz25_1 : w21.cell? ⟨gb108, 1, none⟩ = some (.slice none 0 0) := (blk_cell BK108.out 1).trans rfl; have hfz25_0 := blk_frozen BK108.out 0; have hfz25_1 := blk_frozen BK108.out 1))
                  have n0_ : Aside0 (Kd.R (Kd.int .u8) 5 ((w21.setCell ⟨gb108, 0, none⟩ (.int .i64 ((rd_T43 l0_1 x20_1).f0))).setCell ⟨gb108, 1, none⟩ (.slice A107_1 ((rd_T43 l0_1 x20_1).f1).length c107_1)) w.heap.size (fun _ => True) (.slice Ao13 y104.length co13) y104) := ⟨by (with_reducible repeat (first | apply Kd.R_alloc | apply Kd.R_drewN | apply Kd.R_drew)); exact Kd.R_mono (Kd.R_far (p := ⟨gb108, 1, none⟩) (Kd.R_far (p := ⟨gb108, 0, none⟩) (Kd.R_types HO_104000.out BK108.out (by decide)) (fun _ hk => hk.2) (.int .i64 ((rd_T43 l0_1 x20_1).f0))) (fun _ hk => hk.2) (.slice A107_1 ((rd_T43 l0_1 x20_1).f1).length c107_1)) (fun _ hk => trivial)⟩
                  have n1_ : Aside0 (Kd.S k43 43 ((w21.setCell ⟨gb108, 0, none⟩ (.int .i64 ((rd_T43 l0_1 x20_1).f0))).setCell ⟨gb108, 1, none⟩ (.slice A107_1 ((rd_T43 l0_1 x20_1).f1).length c107_1)) w.heap.size (fun k_ => some k_ ≠ (.slice Ao13 y104.length co13 : Value).ownBlock ∧ k_ ≠ gb108) u104001 x104001_1) := ⟨by (with_reducible repeat (first | apply Kd.S_alloc | apply Kd.S_drewN | apply Kd.S_drew)); exact Kd.S_mono (Kd.S_far (p := ⟨gb108, 1, none⟩) (Kd.S_far (p := ⟨gb108, 0, none⟩) (Kd.S_mono HO_104001.out (fun k_ hk => (⟨hk, hk.2⟩ : _ ∧ k_ ≠ gb108))) (fun _ hk => hk.2) (.int .i64 ((rd_T43 l0_1 x20_1).f0))) (fun _ hk => hk.2) (.slice A107_1 ((rd_T43 l0_1 x20_1).f1).length c107_1)) (fun _ hk => ⟨hk.1.1, hk.1.2⟩)⟩
                  have n2_ : Aside0 (((w21.setCell ⟨gb108, 0, none⟩ (.int .i64 ((rd_T43 l0_1 x20_1).f0))).setCell ⟨gb108, 1, none⟩ (.slice A107_1 ((rd_T43 l0_1 x20_1).f1).length c107_1)).heap[gb101]? = some (.cells #[.slice A0_0 l0_0.length c0_0, .slice (some ad107) l0_1.length c0_1, .int .i64 a0_2, .bool a0_3] 25 (0, 0))) := ⟨by (with_reducible repeat (first | refine blk_drewN ?_ _ | refine blk_drew ?_ | refine blk_alloc ?_ _)); refine blk_far ?_ NB101_108.out _; (with_reducible repeat (first | refine blk_drewN ?_ _ | refine blk_drew ?_ | refine blk_alloc ?_ _)); refine blk_far ?_ NB101_108.out _; (with_reducible repeat (first | refine blk_drewN ?_ _ | refine blk_drew ?_ | refine blk_alloc ?_ _)); exact BK101.out⟩
                  have n3_ : Aside0 (((w21.setCell ⟨gb108, 0, none⟩ (.int .i64 ((rd_T43 l0_1 x20_1).f0))).setCell ⟨gb108, 1, none⟩ (.slice A107_1 ((rd_T43 l0_1 x20_1).f1).length c107_1)).heap[gb102]? = some (.cells #[.slice none 0 0, .slice none 0 0, .int .i64 0, .bool false] 25 (0, 0))) := ⟨by (with_reducible repeat (first | refine blk_drewN ?_ _ | refine blk_drew ?_ | refine blk_alloc ?_ _)); refine blk_far ?_ NB102_108.out _; (with_reducible repeat (first | refine blk_drewN ?_ _ | refine blk_drew ?_ | refine blk_alloc ?_ _)); refine blk_far ?_ NB102_108.out _; (with_reducible repeat (first | refine blk_drewN ?_ _ | refine blk_drew ?_ | refine blk_alloc ?_ _)); exact BK102.out⟩
                  have n4_ : Aside0 (((w21.setCell ⟨gb108, 0, none⟩ (.int .i64 ((rd_T43 l0_1 x20_1).f0))).setCell ⟨gb108, 1, none⟩ (.slice A107_1 ((rd_T43 l0_1 x20_1).f1).length c107_1)).heap[gb103]? = some (.cells #[.slice Ao13 y104.length co13, u104001, .int .i64 a0_2, .bool a0_3] 25 (0, 0))) := ⟨by (with_reducible repeat (first | refine blk_drewN ?_ _ | refine blk_drew ?_ | refine blk_alloc ?_ _)); refine blk_far ?_ NB103_108.out _; (with_reducible repeat (first | refine blk_drewN ?_ _ | refine blk_drew ?_ | refine blk_alloc ?_ _)); refine blk_far ?_ NB103_108.out _; (with_reducible repeat (first | refine blk_drewN ?_ _ | refine blk_drew ?_ | refine blk_alloc ?_ _)); exact BK103.out⟩
                  have n5_ : Aside0 (((w21.setCell ⟨gb108, 0, none⟩ (.int .i64 ((rd_T43 l0_1 x20_1).f0))).setCell ⟨gb108, 1, none⟩ (.slice A107_1 ((rd_T43 l0_1 x20_1).f1).length c107_1)).heap[gb108]? = some (.cells #[.int .i64 ((rd_T43 l0_1 x20_1).f0), .slice A107_1 ((rd_T43 l0_1 x20_1).f1).length c107_1] 43 (0, 0))) := ⟨by (with_reducible repeat (first | refine blk_drewN ?_ _ | refine blk_drew ?_ | refine blk_alloc ?_ _)); refine blk_put (cs := #[.int .i64 ((rd_T43 l0_1 x20_1).f0), .slice none 0 0]) ?_ 1 _ rfl; (with_reducible repeat (first | refine blk_drewN ?_ _ | refine blk_drew ?_ | refine blk_alloc ?_ _)); refine blk_put (cs := #[.int .i64 0, .slice none 0 0]) ?_ 0 _ rfl; (with_reducible repeat (first | refine blk_drewN ?_ _ | refine blk_drew ?_ | refine blk_alloc ?_ _)); exact BK108.out⟩
                  have n6_ : Aside0 (Below w.heap.size w ((w21.setCell ⟨gb108, 0, none⟩ (.int .i64 ((rd_T43 l0_1 x20_1).f0))).setCell ⟨gb108, 1, none⟩ (.slice A107_1 ((rd_T43 l0_1 x20_1).f1).length c107_1))) := ⟨by repeat (first | (with_reducible first | exact HB.out | apply below_alloc | apply pw_below_drewN | apply below_drew1 | refine below_set ?_ GE101.out | refine below_set ?_ GE102.out | refine below_set ?_ GE103.out | refine below_set ?_ GE108.out) | exact HB.out)⟩
                  (try clear HO_104000)
                  (try clear HO_104001)
                  (try clear BK101)
                  (try clear BK102)
                  (try clear BK103)
                  (try clear BK108)
                  (try clear HB)
                  generalize ((w21.setCell ⟨gb108, 0, none⟩ (.int .i64 ((rd_T43 l0_1 x20_1).f0))).setCell ⟨gb108, 1, none⟩ (.slice A107_1 ((rd_T43 l0_1 x20_1).f1).length c107_1)) = w26 at n0_ n1_ n2_ n3_ n4_ n5_ n6_ ⊢
                  have HO_104000 := n0_
                  have HO_104001 := n1_
                  have BK101 := n2_
                  have BK102 := n3_
                  have BK103 := n4_
                  have BK108 := n5_
                  have HB := n6_
                  clear n0_ n1_ n2_ n3_ n4_ n5_ n6_
                  have n0_ := Aside0.mk (Kd.R_drew HO_104000.out)
                  have n1_ := Aside0.mk (Kd.S_drew HO_104001.out)
                  have n2_ := Aside0.mk (blk_drew BK101.out)
                  have n3_ := Aside0.mk (blk_drew BK102.out)
                  have n4_ := Aside0.mk (blk_drew BK103.out)
                  have n5_ := Aside0.mk (blk_drew BK108.out)
                  have n6_ := Aside0.mk (below_drew1 HB.out)
                  clear HO_104000
                  clear HO_104001
                  clear BK101
                  clear BK102
                  clear BK103
                  clear BK108
                  clear HB
                  have HO_104000 := n0_
                  have HO_104001 := n1_
                  have BK101 := n2_
                  have BK102 := n3_
                  have BK103 := n4_
                  have BK108 := n5_
                  have HB := n6_
                  clear n0_ n1_ n2_ n3_ n4_ n5_ n6_
                  refine start_ (n := 12) (S := fun w' => w'.cell? ⟨gb103, 0, none⟩ = some (.slice Ao13 y104.length co13) ∧ w'.cell? ⟨gb103, 1, none⟩ = some (u104001) ∧ w'.cell? ⟨gb103, 2, none⟩ = some (.int .i64 a0_2) ∧ w'.cell? ⟨gb103, 3, none⟩ = some (.bool a0_3) ∧ w'.cell? ⟨gb108, 0, none⟩ = some (.int .i64 ((rd_T43 l0_1 x20_1).f0)) ∧ w'.cell? ⟨gb108, 1, none⟩ = some (.slice A107_1 ((rd_T43 l0_1 x20_1).f1).length c107_1)) (ds := [11]) #[false, false, false, false, false, false, false, false, false, false, false, false] (by kernel_rfl) rfl rfl ⟨(blk_cell BK103.out 0).trans rfl, (blk_cell BK103.out 1).trans rfl, (blk_cell BK103.out 2).trans rfl, (blk_cell BK103.out 3).trans rfl, (blk_cell BK108.out 0).trans rfl, (blk_cell BK108.out 1).trans rfl⟩ (fun hHeld => ?_); refine with_tabW impl_Dev_clone.tab6 impl_Dev_clone.bits6 (fun HT_ HW_ => ?_)
                  generalize w26.drew = w27 at HO_104000 HO_104001 BK101 BK102 BK103 BK108 HB hHeld ⊢
                  refine pure_ (i := 0) (N := some 24) (v := ?_) (a' := ?_) #[true, false, false, false, false, false, false, false, false, false, false, false] rfl rfl (any_of HT_.out (by kernel_rfl)) (fun _ _ _ h => h) (Or.inl ⟨by rfl, ?_⟩) ?_ ?_
                  rotate_left
                  · intro w'
                    go_simp
                    with_reducible rfl
                  rotate_left
                  · simp only [Act.put, List.setIfInBounds_toArray, List.set_cons_zero, List.set_cons_succ, i64_w, i32_w]
                    rfl
                  refine pure_ (i := 2) (N := some 26) (v := ?_) (a' := ?_) #[true, false, true, false, false, false, false, false, false, false, false, false] rfl rfl (any_of HT_.out (by kernel_rfl)) (fun _ _ _ h => h) (Or.inl ⟨by rfl, ?_⟩) ?_ ?_
                  rotate_left
                  · intro w'
                    go_simp
                    with_reducible rfl
                  rotate_left
                  · simp only [Act.put, List.setIfInBounds_toArray, List.set_cons_zero, List.set_cons_succ, i64_w, i32_w]
                    rfl
                  refine pure_ (i := 4) (N := some 28) (v := ?_) (a' := ?_) #[true, false, true, false, true, false, false, false, false, false, false, false] rfl rfl (any_of HT_.out (by kernel_rfl)) (fun _ _ _ h => h) (Or.inl ⟨by rfl, ?_⟩) ?_ ?_
                  rotate_left
                  · intro w'
                    go_simp
                    with_reducible rfl
                  rotate_left
                  · simp only [Act.put, List.setIfInBounds_toArray, List.set_cons_zero, List.set_cons_succ, i64_w, i32_w]
                    rfl
                  refine take_ (i := 1) (N := some 25) (v := ?_) (a' := ?_) #[true, true, true, false, true, false, false, false, false, false, false, false] rfl rfl (take_ofW HT_.out HW_.out (by kernel_rfl)) (fun _ _ _ h => h) (Or.inl ⟨by rfl, ?_⟩) hHeld ?_ ?_
                  rotate_left
                  · rintro w' ⟨s0, s1, s2, s3, s4, s5⟩
                    go_simp
                    with_reducible rfl
                  rotate_left
                  · simp only [Act.put, List.setIfInBounds_toArray, List.set_cons_zero, List.set_cons_succ, i64_w, i32_w]
                    rfl
                  refine take_ (i := 3) (N := some 27) (v := ?_) (a' := ?_) #[true, true, true, true, true, false, false, false, false, false, false, false] rfl rfl (take_ofW HT_.out HW_.out (by kernel_rfl)) (fun _ _ _ h => h) (Or.inl ⟨by rfl, ?_⟩) hHeld ?_ ?_
                  rotate_left
                  · rintro w' ⟨s0, s1, s2, s3, s4, s5⟩
                    go_simp
                    with_reducible rfl
                  rotate_left
                  · simp only [Act.put, List.setIfInBounds_toArray, List.set_cons_zero, List.set_cons_succ, i64_w, i32_w]
                    rfl
                  refine take_ (i := 5) (N := some 29) (v := ?_) (a' := ?_) #[true, true, true, true, true, true, false, false, false, false, false, false] rfl rfl (take_ofW HT_.out HW_.out (by kernel_rfl)) (fun _ _ _ h => h) (Or.inl ⟨by rfl, ?_⟩) hHeld ?_ ?_
                  rotate_left
                  · rintro w' ⟨s0, s1, s2, s3, s4, s5⟩
                    go_simp
                    with_reducible rfl
                  rotate_left
                  · simp only [Act.put, List.setIfInBounds_toArray, List.set_cons_zero, List.set_cons_succ, i64_w, i32_w]
                    rfl
                  refine one_ (i := 6) (N := some 30) #[true, true, true, true, true, true, true, false, false, false, false, false] rfl rfl (one_of HT_.out (by kernel_rfl)) (by decide) (fun K hK => ?_)
                  refine Kd.R_append_rows_step (Kd.int .u8) (w0 := w) w.heap.size (by rfl) (.const (.slice none 0 0)) (.tmp 29) 22 5 (.int .u8 0) 1 rfl Try.underlying22 info5 rfl (by decide) (by omega) (.slice none 0 0) ([] : List Int) ((rd_T43 l0_1 x20_1).f1) _ _ _ (fun k_ => some k_ ≠ (.slice Ao13 y104.length co13 : Value).ownBlock) (fun _ => False) rfl rfl ?aO ?aR (fun _ _ h => h) (fun _ h => h.elim) ?aF ?aB ?aS ?aL ?_
                  (case aR => repeat (first | exact (Kd.C_below HR107_1.out HB.out) | (with_reducible refine Kd.C_alloc ?_ _) | (with_reducible refine Kd.C_drewN ?_ _) | (with_reducible refine Kd.C_drew ?_)))
                  (case aB => exact (by repeat (first | (with_reducible first | exact HB.out | apply below_alloc | apply pw_below_drewN | apply below_drew1 | refine below_set ?_ GE101.out | refine below_set ?_ GE102.out | refine below_set ?_ GE103.out | refine below_set ?_ GE108.out) | exact HB.out)))
                  (case aF => exact (fun k_ hk => Kd.fresh' (Kd.R_lt (by (with_reducible repeat (first | apply Kd.R_alloc | apply Kd.R_drewN | apply Kd.R_drew)); exact HO_104000.out)) k_ hk))
                  (case aO => exact ((Kd.R_nil _ _ _ _ (fun k_ => some k_ ≠ (.slice Ao13 y104.length co13 : Value).ownBlock))))
                  (case aS => exact (below_size (by repeat (first | (with_reducible first | exact HB.out | apply below_alloc | apply pw_below_drewN | apply below_drew1 | refine below_set ?_ GE101.out | refine below_set ?_ GE102.out | refine below_set ?_ GE103.out | refine below_set ?_ GE108.out) | exact HB.out))))
                  (case aL => have := LMc19.out; omega)
                  intro v110 w28 ho hb hg hat
                  rw [← Ny109.out] at ho
                  have n0_ := Aside0.mk (Kd.R_after (Kd.R_apart_nil (by (with_reducible repeat (first | apply Kd.R_alloc | apply Kd.R_drewN | apply Kd.R_drew)); exact HO_104000.out)) hg hat)
                  have n1_ := Aside0.mk (Kd.S_after (Kd.S_apart_nil (by (with_reducible repeat (first | apply Kd.S_alloc | apply Kd.S_drewN | apply Kd.S_drew)); exact HO_104001.out)) hg hat)
                  have n2_ := Aside0.mk (blk_grown (g := gb101) (o := .cells #[.slice A0_0 l0_0.length c0_0, .slice (some ad107) l0_1.length c0_1, .int .i64 a0_2, .bool a0_3] 25 (0, 0)) (by (with_reducible repeat (first | refine blk_drewN ?_ _ | refine blk_drew ?_ | refine blk_alloc ?_ _)); exact BK101.out) hg (by simp [Value.ownBlock]))
                  have n3_ := Aside0.mk (blk_grown (g := gb102) (o := .cells #[.slice none 0 0, .slice none 0 0, .int .i64 0, .bool false] 25 (0, 0)) (by (with_reducible repeat (first | refine blk_drewN ?_ _ | refine blk_drew ?_ | refine blk_alloc ?_ _)); exact BK102.out) hg (by simp [Value.ownBlock]))
                  have n4_ := Aside0.mk (blk_grown (g := gb103) (o := .cells #[.slice Ao13 y104.length co13, u104001, .int .i64 a0_2, .bool a0_3] 25 (0, 0)) (by (with_reducible repeat (first | refine blk_drewN ?_ _ | refine blk_drew ?_ | refine blk_alloc ?_ _)); exact BK103.out) hg (by simp [Value.ownBlock]))
                  have n5_ := Aside0.mk (blk_grown (g := gb108) (o := .cells #[.int .i64 ((rd_T43 l0_1 x20_1).f0), .slice A107_1 ((rd_T43 l0_1 x20_1).f1).length c107_1] 43 (0, 0)) (by (with_reducible repeat (first | refine blk_drewN ?_ _ | refine blk_drew ?_ | refine blk_alloc ?_ _)); exact BK108.out) hg (by simp [Value.ownBlock]))
                  have n6_ := Aside0.mk (hb)
                  have n7_ := Aside0.mk (ho)
                  clear HO_104000
                  clear HO_104001
                  clear BK101
                  clear BK102
                  clear BK103
                  clear BK108
                  clear HB
                  have HO_104000 := n0_
                  have HO_104001 := n1_
                  have BK101 := n2_
                  have BK102 := n3_
                  have BK103 := n4_
                  have BK108 := n5_
                  have HB := n6_
                  have HO111 := n7_
                  clear n0_ n1_ n2_ n3_ n4_ n5_ n6_ n7_
                  clear ho hb hg hat
                  obtain ⟨Ao29, co29, eo29⟩ := Kd.R_slice HO111.out
                  (first | subst eo29 | (injection eo29 with f1_ f2_ f3_; have f4_ := f1_.symm; have f5_ := f3_.symm; clear f1_ f2_ f3_; subst f4_; subst f5_))
                  refine hK.out _ _ ⟨(blk_cell BK103.out 0).trans rfl, (blk_cell BK103.out 1).trans rfl, (blk_cell BK103.out 2).trans rfl, (blk_cell BK103.out 3).trans rfl, (blk_cell BK108.out 0).trans rfl, (blk_cell BK108.out 1).trans rfl⟩ (fun hHeld => ?_)
                  clear hK K
                  refine norm_ (a' := ?_) ?_ ?_
                  rotate_left
                  · show Act.put _ (some 30) _ = _
                    simp only [Act.put, List.setIfInBounds_toArray, List.set_cons_zero, List.set_cons_succ, i64_w, i32_w]
                    rfl
                  refine pure_ (i := 7) (N := some 31) (v := ?_) (a' := ?_) #[true, true, true, true, true, true, true, true, false, false, false, false] rfl rfl (any_of HT_.out (by kernel_rfl)) (fun _ _ _ h => h) (Or.inl ⟨by rfl, ?_⟩) ?_ ?_
                  rotate_left
                  · intro w'
                    go_simp
                    with_reducible rfl
                  rotate_left
                  · simp only [Act.put, List.setIfInBounds_toArray, List.set_cons_zero, List.set_cons_succ, i64_w, i32_w]
                    rfl
                  refine one_ (i := 8) (N := some 32) #[true, true, true, true, true, true, true, true, true, false, false, false] rfl rfl (one_of HT_.out (by kernel_rfl)) (by decide) (fun K hK => ?_)
                  refine value_ (w1 := ?_) (v := ?_) (by rfl) rfl ?_ ?_
                  rotate_left 2
                  · go_simp
                    constructor
                    · rfl
                    · rfl
                  refine hK.out _ _ ⟨(blk_cell (blk_alloc BK103.out _) 0).trans rfl, (blk_cell (blk_alloc BK103.out _) 1).trans rfl, (blk_cell (blk_alloc BK103.out _) 2).trans rfl, (blk_cell (blk_alloc BK103.out _) 3).trans rfl, (blk_cell (blk_alloc BK108.out _) 0).trans rfl, (blk_cell (blk_alloc BK108.out _) 1).trans rfl⟩ (fun hHeld => ?_)
                  clear hK K
                  refine norm_ (a' := ?_) ?_ ?_
                  rotate_left
                  · show Act.put _ (some 32) _ = _
                    simp only [Act.put, List.setIfInBounds_toArray, List.set_cons_zero, List.set_cons_succ, i64_w, i32_w]
                    rfl
                  refine one_ (i := 9) (N := some 33) #[true, true, true, true, true, true, true, true, true, true, false, false] rfl rfl (one_of HT_.out (by kernel_rfl)) (by decide) (fun K hK => ?_)
                  refine Kd.S_append_step k43 (w0 := w) w.heap.size (by rfl) (.tmp 25) (.tmp 32) 23 43 (.agg #[(.int .i64 0), (.slice none 0 0)]) 32 rfl Try.underlying23 info43 rfl (by decide) (by omega) u104001 x104001_1 (⟨(rd_T43 l0_1 x20_1).f0, y109⟩ : S43) [.int .i64 ((rd_T43 l0_1 x20_1).f0), .slice Ao29 y109.length co29] (fun k_ => some k_ ≠ (.slice Ao13 y104.length co13 : Value).ownBlock ∧ k_ ≠ gb108) (fun k_ => some k_ = (.slice Ao29 y109.length co29 : Value).ownBlock) rfl rfl ?aP (fun k_ hk_ => ((Kd.R_mono (ok' := fun k_ => ((fun k_ => some k_ ≠ (.slice Ao13 y104.length co13 : Value).ownBlock ∧ k_ ≠ gb108)) k_ ∧ some k_ ≠ (u104001 : Value).ownBlock) (Kd.R_types (Kd.R_apart' (HO111.out) (Kd.S_typed HO_104001.out) (by decide)) BK108.out (by decide)) (fun k_ hk => ⟨⟨hk.1.1, hk.2⟩, hk.1.2⟩))).1 k_ hk_.symm) ?aF ?aO ?aB ?aS ?aL ?_
                  (case aP => exact k43_mkM _ _ _ (⟨(rd_T43 l0_1 x20_1).f0, y109⟩ : S43) (Kd.R_mono (Kd.R_tight rfl (Kd.R_mono (ok' := fun k_ => ((fun k_ => some k_ ≠ (.slice Ao13 y104.length co13 : Value).ownBlock ∧ k_ ≠ gb108)) k_ ∧ some k_ ≠ (u104001 : Value).ownBlock) (Kd.R_types (Kd.R_apart' (HO111.out) (Kd.S_typed HO_104001.out) (by decide)) BK108.out (by decide)) (fun k_ hk => ⟨⟨hk.1.1, hk.2⟩, hk.1.2⟩))) (fun _ h_ => h_)))
                  (case aB => exact (by repeat (first | (with_reducible first | exact HB.out | apply below_alloc | apply pw_below_drewN | apply below_drew1 | refine below_set ?_ GE101.out | refine below_set ?_ GE102.out | refine below_set ?_ GE103.out | refine below_set ?_ GE108.out) | exact HB.out)))
                  (case aF => exact (fun k_ hk => ⟨Kd.fresh' (Kd.R_lt (by (with_reducible repeat (first | apply Kd.R_alloc | apply Kd.R_drewN | apply Kd.R_drew)); exact HO_104000.out)) k_ hk, Kd.freshB (g := gb108) (o := .cells #[.int .i64 ((rd_T43 l0_1 x20_1).f0), .slice A107_1 ((rd_T43 l0_1 x20_1).f1).length c107_1] 43 (0, 0)) (by (with_reducible repeat (first | refine blk_drewN ?_ _ | refine blk_drew ?_ | refine blk_alloc ?_ _)); exact BK108.out) k_ hk⟩))
                  (case aO => exact (by (with_reducible repeat (first | apply Kd.S_alloc | apply Kd.S_drewN | apply Kd.S_drew)); exact Kd.S_mono HO_104001.out (fun k_ hk => ⟨⟨hk.1.1, hk.1.2⟩, fun e_ => hk.2 e_⟩)))
                  (case aS => exact (below_size (by repeat (first | (with_reducible first | exact HB.out | apply below_alloc | apply pw_below_drewN | apply below_drew1 | refine below_set ?_ GE101.out | refine below_set ?_ GE102.out | refine below_set ?_ GE103.out | refine below_set ?_ GE108.out) | exact HB.out))))
                  (case aL => have := LMc20.out; omega)
                  intro v113 w30 ho hb hg hat
                  rw [← Ny112.out] at ho
                  have n0_ := Aside0.mk (Kd.R_over' (by (with_reducible repeat (first | apply Kd.R_alloc | apply Kd.R_drewN | apply Kd.R_drew)); exact HO_104000.out) (Kd.S_typed (by (with_reducible repeat (first | apply Kd.S_alloc | apply Kd.S_drewN | apply Kd.S_drew)); exact HO_104001.out)) (by decide) hg)
                  have n1_ := Aside0.mk (blk_grown (g := gb101) (o := .cells #[.slice A0_0 l0_0.length c0_0, .slice (some ad107) l0_1.length c0_1, .int .i64 a0_2, .bool a0_3] 25 (0, 0)) (by (with_reducible repeat (first | refine blk_drewN ?_ _ | refine blk_drew ?_ | refine blk_alloc ?_ _)); exact BK101.out) hg (Kd.S_ne HO_104001.out BK101.out (by decide)))
                  have n2_ := Aside0.mk (blk_grown (g := gb102) (o := .cells #[.slice none 0 0, .slice none 0 0, .int .i64 0, .bool false] 25 (0, 0)) (by (with_reducible repeat (first | refine blk_drewN ?_ _ | refine blk_drew ?_ | refine blk_alloc ?_ _)); exact BK102.out) hg (Kd.S_ne HO_104001.out BK102.out (by decide)))
                  have n3_ := Aside0.mk (blk_grown (g := gb103) (o := .cells #[.slice Ao13 y104.length co13, u104001, .int .i64 a0_2, .bool a0_3] 25 (0, 0)) (by (with_reducible repeat (first | refine blk_drewN ?_ _ | refine blk_drew ?_ | refine blk_alloc ?_ _)); exact BK103.out) hg (Kd.S_ne HO_104001.out BK103.out (by decide)))
                  have n4_ := Aside0.mk (blk_grown (g := gb108) (o := .cells #[.int .i64 ((rd_T43 l0_1 x20_1).f0), .slice A107_1 ((rd_T43 l0_1 x20_1).f1).length c107_1] 43 (0, 0)) (by (with_reducible repeat (first | refine blk_drewN ?_ _ | refine blk_drew ?_ | refine blk_alloc ?_ _)); exact BK108.out) hg (Kd.S_away HO_104001.out (fun _ hk => hk.1.2)))
                  have n5_ := Aside0.mk (hb)
                  have n6_ := Aside0.mk (ho)
                  clear HO_104000
                  clear BK101
                  clear BK102
                  clear BK103
                  clear BK108
                  clear HB
                  clear HO_104001
                  clear HO111
                  have HO_104000 := n0_
                  have BK101 := n1_
                  have BK102 := n2_
                  have BK103 := n3_
                  have BK108 := n4_
                  have HB := n5_
                  have HO114 := n6_
                  clear n0_ n1_ n2_ n3_ n4_ n5_ n6_
                  clear ho hb hg hat
                  obtain ⟨Ao31, co31, eo31⟩ := Kd.S_slice HO114.out
                  (first | subst eo31 | (injection eo31 with f1_ f2_ f3_; have f4_ := f1_.symm; have f5_ := f3_.symm; clear f1_ f2_ f3_; subst f4_; subst f5_))
                  refine hK.out _ _ ⟨(blk_cell BK103.out 0).trans rfl, (blk_cell BK103.out 1).trans rfl, (blk_cell BK103.out 2).trans rfl, (blk_cell BK103.out 3).trans rfl, (blk_cell BK108.out 0).trans rfl, (blk_cell BK108.out 1).trans rfl⟩ (fun hHeld => ?_)
                  clear hK K
                  refine norm_ (a' := ?_) ?_ ?_
                  rotate_left
                  · show Act.put _ (some 33) _ = _
                    simp only [Act.put, List.setIfInBounds_toArray, List.set_cons_zero, List.set_cons_succ, i64_w, i32_w]
                    rfl
                  refine pure_ (i := 10) (N := some 34) (v := ?_) (a' := ?_) #[true, true, true, true, true, true, true, true, true, true, true, false] rfl rfl (any_of HT_.out (by kernel_rfl)) (fun _ _ _ h => h) (Or.inl ⟨by rfl, ?_⟩) ?_ ?_
                  rotate_left
                  · intro w'
                    go_simp
                    with_reducible rfl
                  rotate_left
                  · simp only [Act.put, List.setIfInBounds_toArray, List.set_cons_zero, List.set_cons_succ, i64_w, i32_w]
                    rfl
                  refine last_ (i := 11) (N := none) #[true, true, true, true, true, true, true, true, true, true, true, true] rfl rfl (one_of HT_.out (by kernel_rfl)) (by decide) (fun K hK => ?_)
                  have hs32 : w30.cell? ⟨gb103, 1, none⟩ = some (u104001) := (blk_cell BK103.out 1).trans rfl
                  have hfs32 := blk_frozen BK103.out 1
                  have hns32_0 := NB101_103.out
                  have hns32_1 := NB102_103.out
                  have hns32_3 := NB108_103.out
                  have hms32_0 := NB103_101.out
                  have hms32_1 := NB103_102.out
                  have hms32_3 := NB103_108.out
                  refine skip_ (w1 := ?_) (by rfl) rfl ?_ ?_
                  rotate_left
                  · go_simp
                    rfl
                  refine hK.out _ _ ?_
                  clear hK K
                  refine done_ (done_of HT_.out (by kernel_rfl)) ?_
                  try go_wp2
                  go_roundg k1
                  case measure => have := HK1.out; omega
                  case rel => exact ⟨(wrap64 (x20_1 + 1)), (y112), (.slice Ao31 y112.length co31), (by first | rfl | (simp; done) | (simp [*]; done)), H', ⟨by have := HK1.out; omega⟩, ⟨by (with_reducible repeat (first | apply Kd.R_alloc | apply Kd.R_drewN | apply Kd.R_drew)); exact Kd.R_mono (Kd.R_far (p := ⟨gb103, 1, none⟩) (Kd.R_types HO_104000.out BK103.out (by decide)) (fun _ hk => hk.2) (.slice Ao31 y112.length co31)) (fun _ hk => trivial)⟩, ⟨by (with_reducible repeat (first | apply Kd.S_alloc | apply Kd.S_drewN | apply Kd.S_drew)); exact Kd.S_mono (Kd.S_far (p := ⟨gb103, 1, none⟩) (Kd.S_types HO114.out BK103.out (by decide)) (fun _ hk => hk.2) (.slice Ao31 y112.length co31)) (fun _ hk => hk.1.1)⟩, ⟨by (with_reducible repeat (first | refine blk_drewN ?_ _ | refine blk_drew ?_ | refine blk_alloc ?_ _)); refine blk_far ?_ NB101_103.out _; (with_reducible repeat (first | refine blk_drewN ?_ _ | refine blk_drew ?_ | refine blk_alloc ?_ _)); exact BK101.out⟩, ⟨by (with_reducible repeat (first | refine blk_drewN ?_ _ | refine blk_drew ?_ | refine blk_alloc ?_ _)); refine blk_far ?_ NB102_103.out _; (with_reducible repeat (first | refine blk_drewN ?_ _ | refine blk_drew ?_ | refine blk_alloc ?_ _)); exact BK102.out⟩, ⟨by (with_reducible repeat (first | refine blk_drewN ?_ _ | refine blk_drew ?_ | refine blk_alloc ?_ _)); refine blk_put (cs := #[.slice Ao13 y104.length co13, u104001, .int .i64 a0_2, .bool a0_3]) ?_ 1 _ rfl; (with_reducible repeat (first | refine blk_drewN ?_ _ | refine blk_drew ?_ | refine blk_alloc ?_ _)); exact BK103.out⟩, ⟨by repeat (first | (with_reducible first | exact HB.out | apply below_alloc | apply pw_below_drewN | apply below_drew1 | refine below_set ?_ GE101.out | refine below_set ?_ GE102.out | refine below_set ?_ GE103.out | refine below_set ?_ GE108.out) | exact HB.out)⟩⟩
                · rw [if_neg c20] at H
                  exact absurd H (by simp)
              · rw [if_neg c19] at H
                exact absurd H (by simp)
            · rw [if_neg c18] at H
              exact absurd H (by simp)
          · rw [if_neg c17] at H
            exact absurd H (by simp)
        · rw [if_neg c16] at H
          have c16b0 : decide (x20_1 < (l0_1.length : Int)) = false := decide_eq_false c16
          clear c16
          simp only [Option.some.injEq, Prod.mk.injEq] at H
          obtain ⟨rfl, rfl, rfl, rfl⟩ := H
          have hnb33 := NB103_101.out
          have hnc33 := NB101_103.out
          have hnb34 := NB103_102.out
          have hnc34 := NB102_103.out
          have hcz35_0 : wr.cell? ⟨gb103, 0, none⟩ = some (.slice Ao13 y104.length co13) := (blk_cell BK103.out 0).trans rfl
          have hcz35_1 : wr.cell? ⟨gb103, 1, none⟩ = some (u104001) := (blk_cell BK103.out 1).trans rfl
          have hcz35_2 : wr.cell? ⟨gb103, 2, none⟩ = some (.int .i64 a0_2) := (blk_cell BK103.out 2).trans rfl
          have hcz35_3 : wr.cell? ⟨gb103, 3, none⟩ = some (.bool a0_3) := (blk_cell BK103.out 3).trans rfl
          have hfz35_0 := blk_frozen BK103.out 0
          have hfz35_1 := blk_frozen BK103.out 1
          have hfz35_2 := blk_frozen BK103.out 2
          have hfz35_3 := blk_frozen BK103.out 3
          have hnb36 := NB102_101.out
          have hnc36 := NB101_102.out
          have hcz37_0 : wr.cell? ⟨gb102, 0, none⟩ = some (.slice none 0 0) := (blk_cell BK102.out 0).trans rfl
          have hcz37_1 : wr.cell? ⟨gb102, 1, none⟩ = some (.slice none 0 0) := (blk_cell BK102.out 1).trans rfl
          have hcz37_2 : wr.cell? ⟨gb102, 2, none⟩ = some (.int .i64 0) := (blk_cell BK102.out 2).trans rfl
          have hcz37_3 : wr.cell? ⟨gb102, 3, none⟩ = some (.bool false) := (blk_cell BK102.out 3).trans rfl
          have hfz37_0 := blk_frozen BK102.out 0
          have hfz37_1 := blk_frozen BK102.out 1
          have hfz37_2 := blk_frozen BK102.out 2
          have hfz37_3 := blk_frozen BK102.out 3
          obtain ⟨Ao38, co38, eo38⟩ := Kd.S_slice HO_104001.out
          subst eo38
          go_wp2
          refine bodyPost_ret (results_cell_row rfl _ _ gb102 25 #[.slice Ao13 y104.length co13, .slice Ao38 x104001_1.length co38, .int .i64 a0_2, .bool a0_3] (0, 0) _ rfl (by (with_reducible repeat (first | refine blk_drewN ?_ _ | refine blk_drew ?_ | refine blk_alloc ?_ _)); refine blk_put (cs := #[.slice Ao13 y104.length co13, .slice Ao38 x104001_1.length co38, .int .i64 a0_2, .bool false]) ?_ 3 _ rfl; (with_reducible repeat (first | refine blk_drewN ?_ _ | refine blk_drew ?_ | refine blk_alloc ?_ _)); refine blk_put (cs := #[.slice Ao13 y104.length co13, .slice Ao38 x104001_1.length co38, .int .i64 0, .bool false]) ?_ 2 _ rfl; (with_reducible repeat (first | refine blk_drewN ?_ _ | refine blk_drew ?_ | refine blk_alloc ?_ _)); refine blk_put (cs := #[.slice Ao13 y104.length co13, .slice none 0 0, .int .i64 0, .bool false]) ?_ 1 _ rfl; (with_reducible repeat (first | refine blk_drewN ?_ _ | refine blk_drew ?_ | refine blk_alloc ?_ _)); refine blk_put (cs := #[.slice none 0 0, .slice none 0 0, .int .i64 0, .bool false]) ?_ 0 _ rfl; (with_reducible repeat (first | refine blk_drewN ?_ _ | refine blk_drew ?_ | refine blk_alloc ?_ _)); exact BK102.out) Try.underlying25 rfl (by kernel_rfl)) rfl ?_
          exact ⟨_, _, by first | rfl | (simp [errW_none, errW_some] <;> rfl) | (simp [*, errW_none, errW_some] <;> rfl), by (with_reducible repeat (first | apply Kd.R_alloc | apply Kd.R_drewN | apply Kd.R_drew)); exact Kd.R_mono (Kd.R_far (p := ⟨gb102, 3, none⟩) (Kd.R_far (p := ⟨gb102, 2, none⟩) (Kd.R_far (p := ⟨gb102, 1, none⟩) (Kd.R_far (p := ⟨gb102, 0, none⟩) (Kd.R_types HO_104000.out BK102.out (by decide)) (fun _ hk => hk.2) (.slice Ao13 y104.length co13)) (fun _ hk => hk.2) (.slice Ao38 x104001_1.length co38)) (fun _ hk => hk.2) (.int .i64 a0_2)) (fun _ hk => hk.2) (.bool a0_3)) (fun _ hk => trivial), by (with_reducible repeat (first | apply Kd.S_alloc | apply Kd.S_drewN | apply Kd.S_drew)); exact Kd.S_mono (Kd.S_far (p := ⟨gb102, 3, none⟩) (Kd.S_far (p := ⟨gb102, 2, none⟩) (Kd.S_far (p := ⟨gb102, 1, none⟩) (Kd.S_far (p := ⟨gb102, 0, none⟩) (Kd.S_types HO_104001.out BK102.out (by decide)) (fun _ hk => hk.2) (.slice Ao13 y104.length co13)) (fun _ hk => hk.2) (.slice Ao38 x104001_1.length co38)) (fun _ hk => hk.2) (.int .i64 a0_2)) (fun _ hk => hk.2) (.bool a0_3)) (fun _ hk => hk.1), by repeat (first | (with_reducible first | exact HB.out | apply below_alloc | apply pw_below_drewN | apply below_drew1 | refine below_set ?_ GE101.out | refine below_set ?_ GE102.out | refine below_set ?_ GE103.out) | exact HB.out)⟩
  · rw [if_neg c2] at H
    exact absurd H (by simp)
end Go.Proofs.Ytlpghnhcgljhoaa.Q
end
section
namespace Go.Proofs.Ytlpghnhcgljhoaa.P
open Go.RowKit Go.Proofs.YtlpghnhcgljhoaaW.PrintWords Go.Proofs.Ytlpghnhcgljhoaa.Q
set_option linter.unusedVariables false
set_option linter.unusedSimpArgs false
theorem clone_ev (l0 : List Int) (l1 : List S43) (a2 : Int) (a3 : Bool) (h0 : l0.length ≤ 2097152) (h : l1.length ≤ 2097152) (hp : ∀ p ∈ l1, p.f1.length ≤ 2097152) : Ev (fun k => impl_Dev_clone.f k l0 l1 a2 a3) (l0, l1, a2, a3) := by
  have h1 := Ev.loop0 (fun k (s : Int × List S43) => impl_Dev_clone.l0 k l1 (l1.length : Int) s.1 l0 s.2 a2 a3) (fun i => ((i : Int), l1.take i)) l1.length (l0, l1, a2, a3) ?_ ?_
  · simp only [impl_Dev_clone.f, List.length_nil, List.nil_append]
    exact Ev.pos (by omega) h1
  · intro i hi
    obtain ⟨p, hat⟩ := some_at hi
    have hpl := hp p (List.mem_of_getElem? hat)
    have ht : (l1.take i).length = i := by rw [List.length_take]; omega
    refine ⟨0, fun k _ => ?_⟩
    simp only [impl_Dev_clone.l0]
    rw [if_pos (by omega), if_pos (by omega), if_pos (by omega), rdP_at hat, if_pos (by rw [List.length_nil]; omega), if_pos (by omega), w64s hi (by omega), List.take_add_one, hat]
    rfl
  · refine Ev.last ⟨0, fun k _ => ?_⟩
    simp only [impl_Dev_clone.l0]
    rw [if_neg (by omega), List.take_length]
end Go.Proofs.Ytlpghnhcgljhoaa.P
end
section
namespace Go.Proofs.Ytlpghnhcgljhoaa.Q
open Go.RowKit Go.Proofs.YtlpghnhcgljhoaaW.PrintWords Go.Proofs.YtlpghnhcgljhoaaW.PrintLast Go.Proofs.YtlpghnhcgljhoaaW.PrintMore Go.Proofs.Ytlpghnhcgljhoaa.LK
set_option linter.unusedVariables false
set_option linter.unusedSimpArgs false
def syncL (l : List Int) (ps : List S43) : List Int := ps.foldl (fun d p => splice d (p.f0 * 64).toNat p.f1) l
theorem syncL_length : ∀ (ps : List S43) (l : List Int), (∀ p ∈ ps, 0 ≤ p.f0 ∧ p.f0 * 64 + p.f1.length ≤ l.length) → (syncL l ps).length = l.length
  | [], _, _ => rfl
  | p :: ps, l, h => by
    have h1 := h p (List.mem_cons_self ..)
    have e : (splice l (p.f0 * 64).toNat p.f1).length = l.length := length_splice _ _ _ (by omega)
    have h2 := syncL_length ps (splice l (p.f0 * 64).toNat p.f1) (fun q hq => by rw [e]; exact h q (List.mem_cons_of_mem _ hq))
    rw [e] at h2
    exact h2
def canSync (l0 : List Int) (l1 : List S43) (a2 : Int) (a3 : Bool) : Prop := P.validDev l0 l1 a2 = true ∧ a3 = false
instance (l0 : List Int) (l1 : List S43) (a2 : Int) (a3 : Bool) : Decidable (canSync l0 l1 a2 a3) := by unfold canSync; infer_instance
def sizesD (l0 : List Int) (l1 : List S43) : Prop := l0.length ≤ 2097152 ∧ l1.length ≤ 2097152 ∧ (∀ p ∈ l1, p.f1.length ≤ 2097152)
instance (l0 : List Int) (l1 : List S43) : Decidable (sizesD l0 l1) := by unfold sizesD; infer_instance
def devSynced (l0 : List Int) (l1 : List S43) (a2 : Int) (a3 : Bool) : List Int × List S43 × Int × Bool := ((if a2 = 0 then l0 else syncL l0 l1), (if a2 = 0 then l1 else []), fuelOf a2, deadOf a2 a3)
def impl_DevSync.f (l0_0 : List Int) (l0_1 : List S43) (a0_2 : Int) (a0_3 : Bool) : Option (List Int × List S43 × Int × Bool) :=
  if sizesD l0_0 l0_1 then some (if canSync l0_0 l0_1 a0_2 a0_3 then devSynced l0_0 l0_1 a0_2 a0_3 else (l0_0, l0_1, a0_2, a0_3)) else none
set_option maxHeartbeats 8000000 in
set_option maxRecDepth 100000 in
theorem impl_DevSync.calls (A0_0 : Option Addr) (c0_0 : Nat) (l0_0 : List Int) (A0_1 : Option Addr) (c0_1 : Nat) (l0_1 : List S43) (a0_2 : Int) (a0_3 : Bool) (r1 : List Int) (r2 : List S43) (r3 : Int) (r4 : Bool) (w : World)
    (hr0_0 : Kd.C (Kd.int .u8) w A0_0 l0_0.length l0_0) (hc0_0 : l0_0.length ≤ c0_0) (hr0_1 : Kd.C k43 w A0_1 l0_1.length l0_1) (hc0_1 : l0_1.length ≤ c0_1) (h : impl_DevSync.f l0_0 l0_1 a0_2 a0_3 = some (r1, r2, r3, r4)) :
    Calls Try.prog 12 #[.agg #[.slice A0_0 l0_0.length c0_0, .slice A0_1 l0_1.length c0_1, .int .i64 a0_2, .bool a0_3]] w fun e w' => ∃ v0_ v1_ : Value, e = .returned (.agg #[v0_, v1_, .int .i64 r3, .bool r4]) ∧ Kd.R (Kd.int .u8) 5 w' w.heap.size (fun _ => True) v0_ r1 ∧ Kd.S k43 43 w' w.heap.size (fun k_ => some k_ ≠ (v0_ : Value).ownBlock) v1_ r2 ∧ Below w.heap.size w w' := by
  unfold impl_DevSync.f at h
  by_cases hsz : sizesD l0_0 l0_1
  case neg => rw [if_neg hsz] at h; cases h
  rw [if_pos hsz] at h
  have h := Option.some.inj h
  obtain ⟨k, hv⟩ := (P.impl_ValidDev_ev l0_0 l0_1 a0_2 a0_3 (Nat.le_trans hsz.1 (by decide)) (Nat.le_trans hsz.2.1 (by decide)) (fun p hp => Nat.le_trans (hsz.2.2 p hp) (by decide))).ex
  obtain ⟨k2, hcl⟩ := (P.clone_ev l0_0 l0_1 a0_2 a0_3 hsz.1 hsz.2.1 hsz.2.2).ex
  have HV := Aside0.mk hv
  have HCl := Aside0.mk hcl
  have HR0 := Aside0.mk hr0_0
  have HR1 := Aside0.mk hr0_1
  have HC0 := Aside0.mk hc0_0
  have HC1 := Aside0.mk hc0_1
  have H := Aside0.mk h
  have HSz := Aside0.mk hsz
  have H0 := Aside0.mk (Bx.refl w)
  clear hr0_0 hr0_1 hc0_0 hc0_1 hv hcl h hsz
  go_enter Try.func12, Try.ntmps12
  go_wp2_with (first | ((with_reducible refine gate_dst (N := 1) rfl ?_); refine Aside0.out ?_))
  refine Aside0.mk ?_
  refine mk ?hw1 (N := 1) ?hd1 (cs := #[.slice A0_0 l0_0.length c0_0, .slice A0_1 l0_1.length c0_1, .int .i64 a0_2, .bool a0_3]) (t := 25) ?hr1 ?_
  case hd1 => rfl
  case hw1 => rfl
  case hr1 => first | (go_simp; done) | (go_simp; rfl)
  intro g1 hg1_ w101 hb1 hB1
  have H102 := Aside0.mk (H0.out.new hg1_ hb1 hB1)
  clear hg1_ hb1 hB1 H0
  go_wp2_with (first | ((with_reducible refine gate_dst (N := 2) rfl ?_); refine Aside0.out ?_))
  refine Aside0.mk ?_
  refine mk ?hw3 (N := 2) ?hd3 (cs := #[.slice none 0 0, .slice none 0 0, .int .i64 0, .bool false]) (t := 25) ?hr3 ?_
  case hd3 => rfl
  case hw3 => rfl
  case hr3 => first | (go_simp; done) | (go_simp; rfl)
  intro g2 hg2_ w103 hb3 hB3
  have H104 := Aside0.mk (H102.out.new hg2_ hb3 hB3)
  clear hg2_ hb3 hB3 H102
  go_wp2_with (first | ((with_reducible refine gate_dst (N := 6) rfl ?_); refine Aside0.out ?_))
  refine Aside0.mk ?_
  refine ld ?hw5 rfl ?hx5 H104.out.gt1 Try.underlying25 rfl (by kernel_rfl) ?_
  case hw5 => rfl
  case hx5 => rfl
  have HS6 := Aside0.mk H104.out.below.size
  have HG2 := Aside0.mk (show g2 < w103.heap.size from blk_lt H104.out.gt0)
  have HG1 := Aside0.mk (show g1 < w103.heap.size from blk_lt H104.out.gt1)
  go_wp2_with (first | ((with_reducible refine gate_callee (f := 21) rfl ?_); refine Aside0.out ?_))
  refine Aside0.mk ?_
  refine goesW (some 7) rfl ?hw6 Try.func21 (by kernel_rfl) rfl #[.agg #[.slice A0_0 l0_0.length c0_0, .slice A0_1 l0_1.length c0_1, .int .i64 a0_2, .bool a0_3]] rfl (by (try simp only [List.map_toArray, List.map_cons, List.map_nil]); first | done | rfl) ?_
  case hw6 => rfl
  refine (impl_Dev_clone.calls k2 _ _ l0_0 _ _ l0_1 a0_2 a0_3 _ _ _ _ _ (Kd.C_below HR0.out H104.out.below) HC0.out (Kd.C_below HR1.out H104.out.below) HC1.out HCl.out).mono ?_
  rintro e w106 ⟨v0, v1, rfl, hro, hso, hb_⟩
  refine ⟨_, rfl, ?_⟩
  have HB96 := Aside0.mk hb_
  have HO0 := Aside0.mk hro
  have HO1 := Aside0.mk hso
  obtain ⟨B0, d0, eB0⟩ := Kd.R_slice HO0.out
  obtain ⟨B1, d1, eB1⟩ := Kd.S_slice HO1.out
  subst eB0 eB1
  clear hro hso
  have H107 := Aside0.mk (H104.out.step hb_)
  clear hb_ H104
  have HB9 := Aside0.mk (Below.refl w106.heap.size w106)
  go_wp2_with (first | ((with_reducible refine gate_dst (N := 3) rfl ?_); refine Aside0.out ?_))
  refine Aside0.mk ?_
  refine mk ?hw8 (N := 3) ?hd8 (cs := #[.slice none 0 0, .slice none 0 0, .int .i64 0, .bool false]) (t := 25) ?hr8 ?_
  case hd8 => rfl
  case hw8 => rfl
  case hr8 => first | (go_simp; done) | (go_simp; rfl)
  intro g3 hg3_ w108 hb8 hB8
  have H109 := Aside0.mk (H107.out.new hg3_ hb8 hB8)
  have HG3 := Aside0.mk (show w106.heap.size ≤ g3 from Nat.le_of_eq hg3_.symm)
  have n10_ := Aside0.mk (below_step HB9.out hB8)
  clear HB9
  have HB9 := n10_
  clear n10_
  clear hg3_ hb8 hB8 H107
  go_wp2_with (first | ((with_reducible refine gate_store (t := 25) (p := 3) rfl ?_); refine Aside0.out ?_))
  refine Aside0.mk ?_
  refine st_all ?hw11 ?hN11 rfl ?hp11 (cs := #[.slice B0 l0_0.length d0, .slice B1 l0_1.length d1, .int .i64 a0_2, .bool a0_3]) ?hx11 H109.out.gt0 (by kernel_rfl) (rfl) (by simp [Value.oneCell']) ?_
  case hw11 => rfl
  case hN11 => rfl
  case hp11 => rfl
  case hx11 => rfl
  intro w111 hb11 hS11
  have H112 := Aside0.mk (H109.out.wr0 (cs' := #[.slice B0 l0_0.length d0, .slice B1 l0_1.length d1, .int .i64 a0_2, .bool a0_3]) hb11 hS11)
  have n13_ := Aside0.mk (below_stp HB9.out hS11 (fun k_ hk => by have := HG3.out; omega))
  clear HB9
  have HB9 := n13_
  clear n13_
  clear hb11 hS11 H109
  go_wp2_with (first | ((with_reducible refine gate_dst (N := 8) rfl ?_); refine Aside0.out ?_))
  refine Aside0.mk ?_
  refine ld ?hw14 rfl ?hx14 H112.out.gt2 Try.underlying25 rfl (by kernel_rfl) ?_
  case hw14 => rfl
  case hx14 => rfl
  go_wp2_with (first | ((with_reducible refine gate_callee (f := 7) rfl ?_); refine Aside0.out ?_))
  refine Aside0.mk ?_
  refine goesW (some 9) rfl ?hw15 Try.func7 (by kernel_rfl) rfl #[.agg #[.slice A0_0 l0_0.length c0_0, .slice A0_1 l0_1.length c0_1, .int .i64 a0_2, .bool a0_3]] rfl (by (try simp only [List.map_toArray, List.map_cons, List.map_nil]); first | done | rfl) ?_
  case hw15 => rfl
  refine (impl_ValidDev.calls k _ _ l0_0 _ _ l0_1 a0_2 a0_3 _ _ (Kd.C_below HR0.out H112.out.below) HC0.out (Kd.C_below HR1.out H112.out.below) HC1.out HV.out).mono ?_
  rintro e w115 ⟨rfl, hb_⟩
  refine ⟨_, rfl, ?_⟩
  have H116 := Aside0.mk (H112.out.step hb_)
  have n17_ := Aside0.mk (below_step HB9.out hb_)
  clear HB9
  have HB9 := n17_
  clear n17_
  clear hb_ H112
  by_cases hval : P.validDev l0_0 l0_1 a0_2 = true
  case neg =>
    rw [Bool.eq_false_iff.mpr hval]
    go_wp2_with (first | ((with_reducible refine gate_dst (N := 19) rfl ?_); refine Aside0.out ?_))
    refine Aside0.mk ?_
    refine ld ?hw18 rfl ?hx18 H116.out.gt0 Try.underlying25 rfl (by kernel_rfl) ?_
    case hw18 => rfl
    case hx18 => rfl
    go_wp2_with (first | ((with_reducible refine gate_store (t := 25) (p := 2) rfl ?_); refine Aside0.out ?_))
    refine Aside0.mk ?_
    refine st_all ?hwb ?hNb rfl ?hpb (cs := #[.slice B0 l0_0.length d0, .slice B1 l0_1.length d1, .int .i64 a0_2, .bool a0_3]) ?hxb H116.out.gt1 (by kernel_rfl) rfl (by simp [Value.oneCell']) ?_
    case hwb => rfl
    case hNb => rfl
    case hpb => rfl
    case hxb => rfl
    intro wE hbE hSE
    have HE := Aside0.mk (H116.out.wr1 hbE hSE)
    have HER := Aside0.mk (Kd.R_lower (R_away (Kd.R_below HO0.out HB9.out) hSE HG2.out) HS6.out)
    have HES := Aside0.mk (Kd.S_lower (S_away (Kd.S_below HO1.out HB9.out) hSE HG2.out) HS6.out)
    clear hbE hSE H116
    go_wp2
    refine bodyPost_ret (results_cell_row rfl _ _ g2 25 #[.slice B0 l0_0.length d0, .slice B1 l0_1.length d1, .int .i64 a0_2, .bool a0_3] (0, 0) _ rfl HE.out.gt1 Try.underlying25 rfl (by kernel_rfl)) rfl ?_
    have h := H.out
    rw [if_neg (show ¬ canSync l0_0 l0_1 a0_2 a0_3 from fun h => hval h.1)] at h
    cases h
    exact ⟨_, _, rfl, Kd.R_mono HER.out (fun _ _ => trivial), HES.out, HE.out.below⟩
  rw [hval]
  have hd3 : w115.cell? ⟨g3, 3, none⟩ = some (.bool a0_3) := (blk_cell H116.out.gt0 3).trans rfl
  have hd1_ : w115.cell? ⟨g1, 3, none⟩ = some (.bool a0_3) := (blk_cell H116.out.gt2 3).trans rfl
  by_cases hdead : a0_3 = false
  case neg =>
    obtain rfl : a0_3 = true := by simpa using hdead
    clear hdead
    go_wp2_with (first | ((with_reducible refine gate_dst (N := 19) rfl ?_); refine Aside0.out ?_))
    refine Aside0.mk ?_
    refine ld ?hw18 rfl ?hx18 H116.out.gt0 Try.underlying25 rfl (by kernel_rfl) ?_
    case hw18 => rfl
    case hx18 => rfl
    go_wp2_with (first | ((with_reducible refine gate_store (t := 25) (p := 2) rfl ?_); refine Aside0.out ?_))
    refine Aside0.mk ?_
    refine st_all ?hwb ?hNb rfl ?hpb (cs := #[.slice B0 l0_0.length d0, .slice B1 l0_1.length d1, .int .i64 a0_2, .bool true]) ?hxb H116.out.gt1 (by kernel_rfl) rfl (by simp [Value.oneCell']) ?_
    case hwb => rfl
    case hNb => rfl
    case hpb => rfl
    case hxb => rfl
    intro wE hbE hSE
    have HE := Aside0.mk (H116.out.wr1 hbE hSE)
    have HER := Aside0.mk (Kd.R_lower (R_away (Kd.R_below HO0.out HB9.out) hSE HG2.out) HS6.out)
    have HES := Aside0.mk (Kd.S_lower (S_away (Kd.S_below HO1.out HB9.out) hSE HG2.out) HS6.out)
    clear hbE hSE H116
    go_wp2
    refine bodyPost_ret (results_cell_row rfl _ _ g2 25 #[.slice B0 l0_0.length d0, .slice B1 l0_1.length d1, .int .i64 a0_2, .bool true] (0, 0) _ rfl HE.out.gt1 Try.underlying25 rfl (by kernel_rfl)) rfl ?_
    have h := H.out
    rw [if_neg (show ¬ canSync l0_0 l0_1 a0_2 true from fun h => by cases h.2)] at h
    cases h
    exact ⟨_, _, rfl, Kd.R_mono HER.out (fun _ _ => trivial), HES.out, HE.out.below⟩
  subst hdead
  have HVal := Aside0.mk hval
  have h := H.out
  rw [if_pos (show canSync l0_0 l0_1 a0_2 false from ⟨hval, rfl⟩)] at h
  unfold devSynced at h
  have HF := Aside0.mk h
  have hfuel : -1 ≤ a0_2 ∧ a0_2 ≤ 1000000 := by have := (P.validDev_is.1 hval).1; unfold P.headDev at this; omega
  clear h hval
  go_wp2_with (first | ((with_reducible refine gate_callee (f := 22) rfl ?_); refine Aside0.out ?_))
  refine Aside0.mk ?_
  refine goesW (some 16) rfl ?hw18 Try.func22 (by kernel_rfl) rfl #[.pointer (some ⟨g3, 0, none⟩)] rfl (by (try simp only [List.map_toArray, List.map_cons, List.map_nil]); first | done | rfl) ?_
  case hw18 => rfl
  refine (spend_calls H116.out.gt0 hfuel).mono ?_
  rintro e w118 ⟨rfl, hb_, hS_⟩
  refine ⟨_, rfl, ?_⟩
  have H119 := Aside0.mk (H116.out.wr0 (cs' := #[.slice B0 l0_0.length d0, .slice B1 l0_1.length d1, .int .i64 (fuelOf a0_2), .bool (deadOf a0_2 false)]) hb_ hS_)
  have n20_ := Aside0.mk (below_stp HB9.out hS_ (fun k_ hk => by have := HG3.out; omega))
  clear HB9
  have HB9 := n20_
  clear n20_
  clear hb_ hS_ H116
  clear hd3 hd1_ hfuel
  by_cases hz : a0_2 = 0
  case pos =>
    subst hz
    rw [show decide ((0 : Int) ≠ 0) = false from by decide]
    go_wp2_with (first | ((with_reducible refine gate_dst (N := 19) rfl ?_); refine Aside0.out ?_))
    refine Aside0.mk ?_
    refine ld ?hw21 rfl ?hx21 H119.out.gt0 Try.underlying25 rfl (by kernel_rfl) ?_
    case hw21 => rfl
    case hx21 => rfl
    go_wp2_with (first | ((with_reducible refine gate_store (t := 25) (p := 2) rfl ?_); refine Aside0.out ?_))
    refine Aside0.mk ?_
    refine st_all ?hwb ?hNb rfl ?hpb (cs := #[.slice B0 l0_0.length d0, .slice B1 l0_1.length d1, .int .i64 (fuelOf 0), .bool (deadOf 0 false)]) ?hxb H119.out.gt1 (by kernel_rfl) rfl (by simp [Value.oneCell']) ?_
    case hwb => rfl
    case hNb => rfl
    case hpb => rfl
    case hxb => rfl
    intro wE hbE hSE
    have HE := Aside0.mk (H119.out.wr1 hbE hSE)
    have HER := Aside0.mk (Kd.R_lower (R_away (Kd.R_below HO0.out HB9.out) hSE HG2.out) HS6.out)
    have HES := Aside0.mk (Kd.S_lower (S_away (Kd.S_below HO1.out HB9.out) hSE HG2.out) HS6.out)
    clear hbE hSE H119
    go_wp2
    refine bodyPost_ret (results_cell_row rfl _ _ g2 25 #[.slice B0 l0_0.length d0, .slice B1 l0_1.length d1, .int .i64 (fuelOf 0), .bool (deadOf 0 false)] (0, 0) _ rfl HE.out.gt1 Try.underlying25 rfl (by kernel_rfl)) rfl ?_
    have h := H.out
    replace h := HF.out
    rw [if_pos trivial, if_pos trivial] at h
    cases h
    exact ⟨_, _, rfl, Kd.R_mono HER.out (fun _ _ => trivial), HES.out, HE.out.below⟩
  rw [decide_eq_true (show a0_2 ≠ 0 from hz)]
  have h := HF.out
  rw [if_neg hz, if_neg hz] at h
  have HF2 := Aside0.mk h
  clear h HF hz
  have hdv := P.validDev_is.1 HVal.out
  unfold P.headDev at hdv
  have HPs := Aside0.mk hdv.2
  have HHd := Aside0.mk hdv.1
  obtain ⟨B, tl, eA, -, ed, hB1, -, hB2, hB3, hB4⟩ := R_block HO0.out (by have := HHd.out; omega)
  subst eA ed
  clear hdv
  have HBlo := Aside0.mk hB1
  have HBhi := Aside0.mk hB2
  have HBmax := Aside0.mk hB4
  have H121 := Aside0.mk (Bx_add H119.out (B := B) (Nat.le_trans HS6.out hB1) ((HB9.out.block B hB2).trans hB3) (by intro b hb; simp only [List.mem_cons, List.not_mem_nil, or_false] at hb; rcases hb with rfl | rfl | rfl <;> (have := HG3.out; have := HG2.out; have := HG1.out; dsimp only; omega)))
  clear H119 hB1 hB2 hB3 hB4
  have HSS := Aside0.mk (Kd.S_below (Kd.S_mono (ok' := (fun k_ => k_ ≠ B ∧ w103.heap.size ≤ k_ ∧ k_ < w106.heap.size)) (Kd.S_bound HO1.out) (fun k_ hk => ⟨fun he => hk.1 (he ▸ rfl), hk.2.1, hk.2.2.1⟩)) HB9.out)
  have HN9 := Aside0.mk HB9.out.size
  clear HB9
  have hd1 : w118.cell? ⟨g3, 1, none⟩ = some (.slice B1 l0_1.length d1) := (blk_cell H121.out.gt1 1).trans rfl
  go_wp2
  go_loopg [23] (l0_1.length + 1) (fun kq v23 w' => ∃ (i : Nat) (x : Int) (wl : World), v23 = .int .i64 x ∧ Aside0 (wl = w') ∧ Aside0 (x = (i : Int)) ∧ Aside0 (kq + i = l0_1.length + 1) ∧ Aside0 (i ≤ l0_1.length) ∧ Aside0 (Bx w [(B, (bytesV (syncL l0_0 (l0_1.take i)) ++ tl).toArray, 5), (g3, #[.slice (some ⟨B, 0, none⟩) l0_0.length (l0_0.length + tl.length), .slice B1 l0_1.length d1, .int .i64 (fuelOf a0_2), .bool (deadOf a0_2 false)], 25), (g2, #[.slice none 0 0, .slice none 0 0, .int .i64 0, .bool false], 25), (g1, #[.slice A0_0 l0_0.length c0_0, .slice A0_1 l0_1.length c0_1, .int .i64 a0_2, .bool false], 25)] w') ∧ Aside0 (Kd.S k43 43 w' w103.heap.size (fun k_ => k_ ≠ B ∧ w103.heap.size ≤ k_ ∧ k_ < w106.heap.size) (.slice B1 l0_1.length d1) l0_1) ∧ Aside0 (w106.heap.size ≤ w'.heap.size))
  case atStart => exact ⟨0, 0, _, rfl, ⟨rfl⟩, ⟨rfl⟩, ⟨by omega⟩, ⟨Nat.zero_le _⟩, H121, HSS, HN9⟩
  case round =>
    clear H121 HSS HN9 hd1
    obtain ⟨i, x, wl, rfl, hwl, HE, HK, HI, HX, HSS, HN9⟩ := hrel
    obtain ⟨hwl⟩ := hwl
    subst hwl
    have he := HE.out
    cases gk with
    | zero => exact absurd HK.out (by have := HI.out; omega)
    | succ k1 =>
      by_cases c3 : i < l0_1.length
      · have C3 := Aside0.mk c3
        have c3b : decide (x < (l0_1.length : Int)) = true := decide_eq_true (by omega)
        have p5 : (0 ≤ x) = True := eq_true (by omega)
        have q5 : (x < (l0_1.length : Int)) = True := eq_true (by omega)
        have jn : IntKind.i64.wrap (x + 1) = x + 1 := by have := HSz.out.2.1; rw [IntKind.wrap_i64]; omega
        obtain ⟨ad, Ap, cp, eA, hcf0, hcf1, hcp, hCp⟩ := at_T43 (Kd.S_reads' HSS.out).2.2 x (by omega) (by omega)
        subst eA
        have hat : l0_1[i]? = some (rd_T43 l0_1 x) := by rw [he, P.rdP_at (List.getElem?_eq_getElem c3)]; exact List.getElem?_eq_getElem c3
        obtain ⟨p, hp⟩ : ∃ p, p = rd_T43 l0_1 x := ⟨_, rfl⟩
        rw [← hp] at hcf0 hcf1 hcp hCp hat
        have HAt := Aside0.mk hat
        have HCp := Aside0.mk hCp
        have hq := HPs.out p (List.mem_of_getElem? hat)
        have HQ := Aside0.mk hq
        have HHd2 := HHd.out
        have j6 : IntKind.i64.wrap (p.f0 * 64) = p.f0 * 64 := by rw [IntKind.wrap_i64]; omega
        obtain ⟨i5, hi5, _, hsz5, _⟩ := info_parts info5
        have hcut := fun W => cut_block (P := Try.prog) (t := 22) (e := 5) .i64 Try.underlying22 hi5 hsz5 B l0_0.length (l0_0.length + tl.length) (p.f0 * 64) (by omega) (by omega) (by omega) W
        clear c3 hcp hCp hat he hp hq hi5 hsz5 HHd2
        have HLen := Aside0.mk (show (syncL l0_0 (l0_1.take i)).length = l0_0.length from syncL_length _ _ (fun q hq => by have h1 := HPs.out q (List.mem_of_mem_take hq); have h2 := HHd.out; omega))
        have HStep := Aside0.mk (show syncL l0_0 (l0_1.take (i + 1)) = splice (syncL l0_0 (l0_1.take i)) (p.f0 * 64).toNat p.f1 from by unfold syncL; rw [List.take_add_one, HAt.out]; simp only [Option.toList_some, List.foldl_append, List.foldl_cons, List.foldl_nil])
        have HN90 := HN9
        have HBP := Aside0.mk (Below.refl wl.heap.size wl)
        go_wp2_with (first | ((with_reducible refine gate_dst (N := 5) rfl ?_); refine Aside0.out ?_))
        refine Aside0.mk ?_
        refine mk ?hw22 (N := 5) ?hd22 (cs := #[.int .i64 0, .slice none 0 0]) (t := 43) ?hr22 ?_
        case hd22 => rfl
        case hw22 => rfl
        case hr22 => first | (go_simp; done) | (go_simp; rfl)
        intro g5 hg5_ w122 hb22 hB22
        have H123 := Aside0.mk (HX.out.new hg5_ hb22 hB22)
        have HGw := Aside0.mk (show wl.heap.size ≤ g5 from Nat.le_of_eq hg5_.symm)
        have n24_ := Aside0.mk (Kd.S_below HSS.out hB22)
        clear HSS
        have HSS := n24_
        clear n24_
        have n25_ := Aside0.mk (Nat.le_trans HN9.out (Below.size hB22))
        clear HN9
        have HN9 := n25_
        clear n25_
        have n26_ := Aside0.mk (below_step HBP.out hB22)
        clear HBP
        have HBP := n26_
        clear n26_
        clear hg5_ hb22 hB22 HX
        have HG5 := Aside0.mk (Nat.le_trans HN90.out HGw.out)
        clear hcf0 hcf1
        go_wp2_with (first | ((with_reducible refine gate_store (t := 43) (p := 5) rfl ?_); refine Aside0.out ?_))
        refine Aside0.mk ?_
        refine st_all ?hw27 ?hN27 rfl ?hp27 (cs := #[.int .i64 p.f0, .slice Ap p.f1.length cp]) ?hx27 H123.out.gt0 (by kernel_rfl) (rfl) (by simp [Value.oneCell']) ?_
        case hw27 => rfl
        case hN27 => rfl
        case hp27 => rfl
        case hx27 => rfl
        intro w127 hb27 hS27
        have H128 := Aside0.mk (H123.out.wr0 (cs' := #[.int .i64 p.f0, .slice Ap p.f1.length cp]) hb27 hS27)
        have n29_ := Aside0.mk (Kd.S_step HSS.out (fun k_ hk hlt => hS27.block k_ hlt (fun he => by have h1 := hk.1; have h2 := hk.2.1; have h3 := hk.2.2; have := HG1.out; have := HG2.out; have := HG3.out; have := HG5.out; omega)))
        clear HSS
        have HSS := n29_
        clear n29_
        have n30_ := Aside0.mk (Nat.le_trans HN9.out (Stp.size hS27))
        clear HN9
        have HN9 := n30_
        clear n30_
        have n31_ := Aside0.mk (below_stp HBP.out hS27 (fun k_ hk => by have := HGw.out; omega))
        clear HBP
        have HBP := n31_
        clear n31_
        clear hb27 hS27 H123
        try go_wp2
        have H133 := Aside0.mk H128.out.drew
        have n34_ := Aside0.mk (Kd.S_below HSS.out (below_drew1 (Below.refl w127.heap.size w127)))
        clear HSS
        have HSS := n34_
        clear n34_
        have n35_ := Aside0.mk (Nat.le_trans HN9.out (Below.size (below_drew1 (Below.refl w127.heap.size w127))))
        clear HN9
        have HN9 := n35_
        clear n35_
        have n36_ := Aside0.mk (below_step HBP.out (below_drew1 (Below.refl w127.heap.size w127)))
        clear HBP
        have HBP := n36_
        clear n36_
        refine start_ (n := 9) (S := fun w' => w'.cell? ⟨g3, 0, none⟩ = some (.slice (some ⟨B, 0, none⟩) l0_0.length (l0_0.length + tl.length)) ∧ w'.cell? ⟨g5, 0, none⟩ = some (.int .i64 p.f0) ∧ w'.cell? ⟨g5, 1, none⟩ = some (.slice Ap p.f1.length cp)) (ds := [8]) #[false, false, false, false, false, false, false, false, false] (by kernel_rfl) rfl rfl ⟨(blk_cell H133.out.gt2 0).trans rfl, (blk_cell H133.out.gt0 0).trans rfl, (blk_cell H133.out.gt0 1).trans rfl⟩ (fun hHeld => ?_)
        clear H128
        generalize w127.drew = w132 at H133 HSS HN9 HBP hHeld ⊢
        refine pure_ (i := 0) (N := some 27) (v := ?_) (a' := ?_) #[true, false, false, false, false, false, false, false, false] rfl rfl (by kernel_rfl) (fun _ _ _ h => h) (Or.inl ⟨by rfl, ?_⟩) ?_ ?_
        rotate_left
        · intro w'
          go_simp
          with_reducible rfl
        rotate_left
        · simp only [Act.put, List.setIfInBounds_toArray, List.set_cons_zero, List.set_cons_succ, i64_w, i32_w]
          rfl
        refine pure_ (i := 2) (N := some 29) (v := ?_) (a' := ?_) #[true, false, true, false, false, false, false, false, false] rfl rfl (by kernel_rfl) (fun _ _ _ h => h) (Or.inl ⟨by rfl, ?_⟩) ?_ ?_
        rotate_left
        · intro w'
          go_simp
          with_reducible rfl
        rotate_left
        · simp only [Act.put, List.setIfInBounds_toArray, List.set_cons_zero, List.set_cons_succ, i64_w, i32_w]
          rfl
        refine pure_ (i := 6) (N := some 33) (v := ?_) (a' := ?_) #[true, false, true, false, false, false, true, false, false] rfl rfl (by kernel_rfl) (fun _ _ _ h => h) (Or.inl ⟨by rfl, ?_⟩) ?_ ?_
        rotate_left
        · intro w'
          go_simp
          with_reducible rfl
        rotate_left
        · simp only [Act.put, List.setIfInBounds_toArray, List.set_cons_zero, List.set_cons_succ, i64_w, i32_w]
          rfl
        refine take_ (i := 1) (N := some 28) (v := ?_) (a' := ?_) #[true, true, true, false, false, false, true, false, false] rfl rfl (by kernel_rfl) (fun _ _ _ h => h) (Or.inl ⟨by rfl, ?_⟩) hHeld ?_ ?_
        rotate_left
        · rintro w' ⟨s0, s1, s2⟩
          go_simp
          with_reducible rfl
        rotate_left
        · simp only [Act.put, List.setIfInBounds_toArray, List.set_cons_zero, List.set_cons_succ, i64_w, i32_w]
          rfl
        refine take_ (i := 3) (N := some 30) (v := ?_) (a' := ?_) #[true, true, true, true, false, false, true, false, false] rfl rfl (by kernel_rfl) (fun _ _ _ h => h) (Or.inl ⟨by rfl, ?_⟩) hHeld ?_ ?_
        rotate_left
        · rintro w' ⟨s0, s1, s2⟩
          go_simp
          with_reducible rfl
        rotate_left
        · simp only [Act.put, List.setIfInBounds_toArray, List.set_cons_zero, List.set_cons_succ, i64_w, i32_w]
          rfl
        refine take_ (i := 7) (N := some 34) (v := ?_) (a' := ?_) #[true, true, true, true, false, false, true, true, false] rfl rfl (by kernel_rfl) (fun _ _ _ h => h) (Or.inl ⟨by rfl, ?_⟩) hHeld ?_ ?_
        rotate_left
        · rintro w' ⟨s0, s1, s2⟩
          go_simp
          with_reducible rfl
        rotate_left
        · simp only [Act.put, List.setIfInBounds_toArray, List.set_cons_zero, List.set_cons_succ, i64_w, i32_w]
          rfl
        refine pure_ (i := 4) (N := some 31) (v := ?_) (a' := ?_) #[true, true, true, true, true, false, true, true, false] rfl rfl (by kernel_rfl) (fun _ _ _ h => h) (Or.inl ⟨by rfl, ?_⟩) ?_ ?_
        rotate_left
        · intro w'
          go_simp
          with_reducible rfl
        rotate_left
        · simp only [Act.put, List.setIfInBounds_toArray, List.set_cons_zero, List.set_cons_succ, i64_w, i32_w]
          rfl
        refine pure_ (i := 5) (N := some 32) (v := ?_) (a' := ?_) #[true, true, true, true, true, true, true, true, false] rfl rfl (by kernel_rfl) (fun _ _ _ h => h) (Or.inl ⟨by rfl, ?_⟩) ?_ ?_
        rotate_left
        · intro w'
          go_simp
          first | exact hcut w' | with_reducible rfl | rfl
        rotate_left
        · simp only [Act.put, List.setIfInBounds_toArray, List.set_cons_zero, List.set_cons_succ, i64_w, i32_w]
          rfl
        refine last_ (i := 8) (N := some 35) #[true, true, true, true, true, true, true, true, true] rfl rfl (by kernel_rfl) (by decide) (fun K hK => ?_)
        refine copy_step (by rfl) rfl (.tmp 32) (.tmp 34) 22 22 rfl 5 Try.underlying22 (by kernel_rfl) _ _ _ _ p.f1.length cp rfl rfl B (p.f0 * 64).toNat (bytesV (syncL l0_0 (l0_1.take i)) ++ tl) 5 H133.out.gt1 (bytesV p.f1) ?cn ?cp ?cf (bytesV_one _) ?_
        case cn => have h1 := HQ.out; have h2 := HHd.out; rw [bytesV_length]; show _ = min _ _; omega
        case cp =>
          intro hpos
          rw [bytesV_length] at hpos
          obtain ⟨ad2, e2, hc2⟩ := bytes_at (Kd.C_below HCp.out HBP.out) hpos
          exact ⟨rfl, ad2, e2, hc2⟩
        case cf => have h1 := HQ.out; have h2 := HHd.out; have h3 := HLen.out; rw [List.length_append, bytesV_length, bytesV_length, h3]; omega
        intro w137 hb37 hS37
        rw [bytesV_splice _ _ _ _ (by have h1 := HQ.out; have h2 := HHd.out; have h3 := HLen.out; rw [h3]; omega), ← HStep.out] at hb37
        have H138 := Aside0.mk (H133.out.wr1 (cs' := (bytesV (syncL l0_0 (l0_1.take (i + 1))) ++ tl).toArray) hb37 hS37)
        have n39_ := Aside0.mk (Kd.S_step HSS.out (fun k_ hk hlt => hS37.block k_ hlt (fun he => by have h1 := hk.1; have h2 := hk.2.1; have h3 := hk.2.2; have := HG1.out; have := HG2.out; have := HG3.out; omega)))
        clear HSS
        have HSS := n39_
        clear n39_
        have n40_ := Aside0.mk (Nat.le_trans HN9.out (Stp.size hS37))
        clear HN9
        have HN9 := n40_
        clear n40_
        clear hb37 hS37 H133
        refine hK.out _ _ ?_
        clear hK K
        refine done_ (by kernel_rfl) ?_
        have HZ := Aside0.mk H138.out.tail
        clear H138
        go_wp2
        go_roundg k1
        case measure => omega
        case rel => exact ⟨i + 1, x + 1, _, rfl, ⟨rfl⟩, ⟨by rw [HE.out]; rfl⟩, ⟨by have := HK.out; omega⟩, ⟨by have := C3.out; omega⟩, HZ, HSS, HN9⟩
      · have c3b : decide (x < (l0_1.length : Int)) = false := decide_eq_false (by omega)
        have ei : l0_1.take i = l0_1 := List.take_of_length_le (by omega)
        rw [ei] at HX
        go_wp2_with (first | ((with_reducible refine gate_store (t := 23) (p := 37) rfl ?_); refine Aside0.out ?_))
        refine Aside0.mk ?_
        refine st (o' := 1) (u := .slice none 0 0) (seg := [.slice none 0 0]) ?hw22 ?hN22 rfl ?hp22 ?hx22 rfl HX.out.gt1 (by kernel_rfl) ?hf22 (by simp [Value.oneCell']) ?_
        case hw22 => rfl
        case hN22 => rfl
        case hp22 => rfl
        case hx22 => rfl
        case hf22 => show 1 + 1 ≤ 4; omega
        intro w122 hb22 hS22
        have H123 := Aside0.mk (HX.out.wr1 (cs' := #[.slice (some ⟨B, 0, none⟩) l0_0.length (l0_0.length + tl.length), .slice none 0 0, .int .i64 (fuelOf a0_2), .bool (deadOf a0_2 false)]) hb22 hS22)
        clear hb22 hS22 HX
        go_wp2_with (first | ((with_reducible refine gate_dst (N := 38) rfl ?_); refine Aside0.out ?_))
        refine Aside0.mk ?_
        refine ld ?hw24 rfl ?hx24 H123.out.gt1 Try.underlying25 rfl (by kernel_rfl) ?_
        case hw24 => rfl
        case hx24 => rfl
        go_wp2_with (first | ((with_reducible refine gate_store (t := 25) (p := 2) rfl ?_); refine Aside0.out ?_))
        refine Aside0.mk ?_
        refine st_all ?hwb ?hNb rfl ?hpb (cs := #[.slice (some ⟨B, 0, none⟩) l0_0.length (l0_0.length + tl.length), .slice none 0 0, .int .i64 (fuelOf a0_2), .bool (deadOf a0_2 false)]) ?hxb H123.out.gt2 (by kernel_rfl) rfl (by simp [Value.oneCell']) ?_
        case hwb => rfl
        case hNb => rfl
        case hpb => rfl
        case hxb => rfl
        intro wE hbE hSE
        have HEE := Aside0.mk (H123.out.wr2 hbE hSE)
        clear hbE hSE H123
        go_wp2
        refine bodyPost_ret (results_cell_row rfl _ _ g2 25 #[.slice (some ⟨B, 0, none⟩) l0_0.length (l0_0.length + tl.length), .slice none 0 0, .int .i64 (fuelOf a0_2), .bool (deadOf a0_2 false)] (0, 0) _ rfl HEE.out.gt2 Try.underlying25 rfl (by kernel_rfl)) rfl ?_
        have hlen : (syncL l0_0 l0_1).length = l0_0.length := syncL_length _ _ (fun p hp => by have h1 := HPs.out p hp; have h2 := HHd.out; omega)
        have hR := R_of_block HEE.out.gt0 (HEE.out.at_ _ (List.mem_cons_self ..)).1 (by rw [hlen]; exact HBmax.out)
        rw [hlen] at hR
        have h := HF2.out
        cases h
        exact ⟨_, _, rfl, Kd.R_mono hR (fun _ _ => trivial), Kd.S_nil _ _ _ _ _, HEE.out.below⟩
end Go.Proofs.Ytlpghnhcgljhoaa.Q
end
section
namespace Go.Proofs.Ytlpghnhcgljhoaa.Q
open Go.RowKit Go.Proofs.YtlpghnhcgljhoaaW.PrintWords Go.Proofs.YtlpghnhcgljhoaaW.PrintLast Go.Proofs.Ytlpghnhcgljhoaa.LK Go.Proofs.YtlpghnhcgljhoaaW.PrintMore Go.Proofs.Ytlpghnhcgljhoaa.SP
set_option linter.unusedVariables false
instance impl_DevSync.con {A0 : Option Addr} {n0 c0 : Nat} {l0 : List Int} {A1 : Option Addr} {n1 c1 : Nat} {l1 : List S43} {a2 : Int} {a3 : Bool} {rr : List Int × List S43 × Int × Bool} : Con Try.prog 12 (impl_DevSync.f l0 l1 a2 a3) rr #[.agg #[.slice A0 n0 c0, .slice A1 n1 c1, .int .i64 a2, .bool a3]] (fun w => Kd.C (Kd.int .u8) w A0 n0 l0 ∧ l0.length ≤ c0 ∧ Kd.C k43 w A1 n1 l1 ∧ l1.length ≤ c1) (fun q => .agg #[.slice (q 0).1 rr.1.length (q 0).2, .slice (q 1).1 rr.2.1.length (q 1).2, .int .i64 rr.2.2.1, .bool rr.2.2.2]) (fun q => [row (Kd.int .u8) 5 (.slice (q 0).1 rr.1.length (q 0).2) rr.1, row k43 43 (.slice (q 1).1 rr.2.1.length (q 1).2) rr.2.1]) := ⟨fun w ⟨p0, p1, p2, p3⟩ E => by
  obtain rfl := p0.1
  obtain rfl := p2.1
  exact ofR2 (F := fun x y => .agg #[x, y, .int .i64 rr.2.2.1, .bool rr.2.2.2]) (impl_DevSync.calls _ _ _ _ _ _ _ _ _ _ _ _ w p0 p1 p2 p3 E)⟩
end Go.Proofs.Ytlpghnhcgljhoaa.Q
end
section
namespace Go.Proofs.Ytlpghnhcgljhoaa.Q
open Go.RowKit Go.Proofs.YtlpghnhcgljhoaaW.PrintWords Go.Proofs.YtlpghnhcgljhoaaW.PrintLast Go.Proofs.Ytlpghnhcgljhoaa.LK Go.Proofs.YtlpghnhcgljhoaaW.PrintMore Go.Proofs.Ytlpghnhcgljhoaa.SP
set_option linter.unusedVariables false
def spec_l1New.l0 : Nat → List Int → Int → Int → Option Int
  | 0, _, _, _ => none
  | k + 1, x0, x3, x4 => if x4 < (x0.length : Int) then (if 0 ≤ x4 then (spec_l1New.l0 k x0 (Go.bits .and .i64 (wrap64 ((wrap64 ((wrap64 (x3 * 131)) + (wrap64 (rd x0 x4)))) + 7)) 1073741823) (wrap64 (x4 + 1))) else none) else (some x3)
def spec_l1New.f (k : Nat) (l0 : List Int) : Option Int := spec_l1New.l0 k l0 (wrap64 (54321 + (l0.length : Int))) 0
theorem spec_l1New.loop0 {G : Prop} (h : G := by
    obtain ⟨L0, hL⟩ := lpSet H
    go_loopg [3, 4] k (fun kq v3 v4 w' => ∃ (x3_1 : Int) (x4_1 : Int), Aside0 (spec_l1New.l0 kq l0 x3_1 x4_1 = some rr) ∧ Aside0 (kq ≤ k) ∧ v3 = .int .i64 x3_1 ∧ v4 = .int .i64 x4_1 ∧ Aside0 (Sep w L0 w'))
    case atStart => cases hL.out; exact relM
    case round =>
      clear E H
      cases hL.out
      obtain ⟨x3_1, x4_1, E, ⟨K⟩, rfl, rfl, H⟩ := hrel
      cases gk with
      | zero => simp only [spec_l1New.l0] at E; exact esN E
      | succ k => simp only [spec_l1New.l0] at E; exact walkM) : G := h
set_option maxHeartbeats 8000000 in
set_option maxRecDepth 100000 in
instance spec_l1New.con {k : Nat} {A0 : Option Addr} {c0 : Nat} {l0 : List Int} {n0 : Nat} {rr : Int} : Con Try.prog 13 (spec_l1New.f k l0) rr #[.slice A0 n0 c0] (fun w => Kd.C (Kd.int .u8) w A0 n0 l0 ∧ l0.length ≤ c0) (fun q => .pointer (some ⟨(q 0).2, 0, none⟩)) (fun q => [box (q 0).2 #[.slice A0 n0 c0, .int .i64 0, .int .i64 rr] 53]) := ⟨fun w ⟨p0, p1⟩ E => by
  obtain rfl := p0.1
  replace p0 := Aside0.mk p0
  replace p1 := Aside0.mk p1
  have H := Aside0.mk (Sep.refl w)
  replace E := Aside0.mk E
  unfold spec_l1New.f at E
  go_in
  exact walkM⟩
end Go.Proofs.Ytlpghnhcgljhoaa.Q
end
section
namespace Go.Proofs.Ytlpghnhcgljhoaa.Q
open Go.RowKit Go.Proofs.YtlpghnhcgljhoaaW.PrintWords Go.Proofs.YtlpghnhcgljhoaaW.PrintLast Go.Proofs.Ytlpghnhcgljhoaa.LK Go.Proofs.YtlpghnhcgljhoaaW.PrintMore Go.Proofs.Ytlpghnhcgljhoaa.SP
set_option linter.unusedVariables false
def spec_l1Byte.f (s0_0 : List Int) (s0_1 : Int) (s0_2 : Int) : Option (Int × Int × Int) := if s0_1 < (s0_0.length : Int) then (if 0 ≤ s0_1 then (some (Go.bits .and .i64 (wrap64 ((Go.bits .and .i64 (Go.bits .xor .i64 ((wrap64 ((wrap64 (s0_2 * 6364136223846793005)) + 1442695040888963407)) / 8589934592) ((wrap64 ((wrap64 (s0_2 * 6364136223846793005)) + 1442695040888963407)) / 35184372088832)) 255) + (wrap64 (rd s0_0 s0_1)))) 255, wrap64 (s0_1 + 1), wrap64 ((wrap64 (s0_2 * 6364136223846793005)) + 1442695040888963407))) else (none)) else (some (Go.bits .and .i64 (Go.bits .xor .i64 ((wrap64 ((wrap64 (s0_2 * 6364136223846793005)) + 1442695040888963407)) / 8589934592) ((wrap64 ((wrap64 (s0_2 * 6364136223846793005)) + 1442695040888963407)) / 35184372088832)) 255, s0_1, wrap64 ((wrap64 (s0_2 * 6364136223846793005)) + 1442695040888963407)))
set_option maxHeartbeats 8000000 in
set_option maxRecDepth 100000 in
instance spec_l1Byte.con {g : Nat} {s0_0 : List Int} {s0_1 : Int} {s0_2 : Int} {A_g : Option Addr} {n_g : Nat} {c_g : Nat} {rr : Int × Int × Int} : ConQ Try.prog 30 (spec_l1Byte.f s0_0 s0_1 s0_2) rr #[.pointer (some ⟨g, 0, none⟩)] (A_g, n_g, c_g) (fun w0 w => Kd.C (Kd.int .u8) w0 A_g n_g s0_0) [box g #[.slice A_g n_g c_g, .int .i64 s0_1, .int .i64 s0_2] 53] (fun _ => .int .i64 rr.1) (fun _ => [box g #[.slice A_g n_g c_g, .int .i64 rr.2.1, .int .i64 rr.2.2] 53]) := ⟨fun w0 L w H pc E => by
  simp only [List.cons_append, List.nil_append] at H
  obtain rfl := pc.1
  replace pc := Aside0.mk pc
  replace H := Aside0.mk H
  replace E := Aside0.mk E
  unfold spec_l1Byte.f at E
  go_in
  exact walkM⟩
end Go.Proofs.Ytlpghnhcgljhoaa.Q
end
section
namespace Go.Proofs.Ytlpghnhcgljhoaa.Q
open Go.RowKit Go.Proofs.YtlpghnhcgljhoaaW.PrintWords Go.Proofs.YtlpghnhcgljhoaaW.PrintLast Go.Proofs.Ytlpghnhcgljhoaa.LK Go.Proofs.YtlpghnhcgljhoaaW.PrintMore Go.Proofs.Ytlpghnhcgljhoaa.SP
set_option linter.unusedVariables false
def spec_l1Below.f (s0_0 : List Int) (s0_1 : Int) (s0_2 : Int) (a1 : Int) : Option (Int × Int × Int) := if a1 ≤ 256 then ((spec_l1Byte.f s0_0 s0_1 s0_2).bind fun bt101 => (if a1 = 0 then (none) else (some (Int.tmod bt101.1 a1, bt101.2.1, bt101.2.2)))) else ((spec_l1Byte.f s0_0 s0_1 s0_2).bind fun bt104 => ((spec_l1Byte.f s0_0 bt104.2.1 bt104.2.2).bind fun bt107 => ((spec_l1Byte.f s0_0 bt107.2.1 bt107.2.2).bind fun bt110 => (if a1 = 0 then (none) else (some (Int.tmod (wrap64 ((wrap64 ((wrap64 (bt104.1 * 65536)) + (wrap64 (bt107.1 * 256)))) + bt110.1)) a1, bt110.2.1, bt110.2.2))))))
set_option maxHeartbeats 8000000 in
set_option maxRecDepth 100000 in
instance spec_l1Below.con {g : Nat} {s0_0 : List Int} {s0_1 : Int} {s0_2 : Int} {a1 : Int} {A_g : Option Addr} {n_g : Nat} {c_g : Nat} {rr : Int × Int × Int} : ConQ Try.prog 26 (spec_l1Below.f s0_0 s0_1 s0_2 a1) rr #[.pointer (some ⟨g, 0, none⟩), .int .i64 a1] (A_g, n_g, c_g) (fun w0 w => Kd.C (Kd.int .u8) w0 A_g n_g s0_0) [box g #[.slice A_g n_g c_g, .int .i64 s0_1, .int .i64 s0_2] 53] (fun _ => .int .i64 rr.1) (fun _ => [box g #[.slice A_g n_g c_g, .int .i64 rr.2.1, .int .i64 rr.2.2] 53]) := ⟨fun w0 L w H pc E => by
  simp only [List.cons_append, List.nil_append] at H
  obtain rfl := pc.1
  replace pc := Aside0.mk pc
  replace H := Aside0.mk H
  replace E := Aside0.mk E
  unfold spec_l1Below.f at E
  go_in
  exact walkM⟩
end Go.Proofs.Ytlpghnhcgljhoaa.Q
end
section
namespace Go.Proofs.Ytlpghnhcgljhoaa.Q
open Go.RowKit Go.Proofs.YtlpghnhcgljhoaaW.PrintWords Go.Proofs.YtlpghnhcgljhoaaW.PrintLast Go.Proofs.Ytlpghnhcgljhoaa.LK Go.Proofs.YtlpghnhcgljhoaaW.PrintMore Go.Proofs.Ytlpghnhcgljhoaa.SP
set_option linter.unusedVariables false
def spec_l1Once.f (s0_0 : List Int) (s0_1 : Int) (s0_2 : Int) (a1 : Int) : Option (Bool × Int × Int) := (spec_l1Below.f s0_0 s0_1 s0_2 a1).bind fun bt101 => (some ((bt101.1 == 0), bt101.2.1, bt101.2.2))
set_option maxHeartbeats 8000000 in
set_option maxRecDepth 100000 in
instance spec_l1Once.con {g : Nat} {s0_0 : List Int} {s0_1 : Int} {s0_2 : Int} {a1 : Int} {A_g : Option Addr} {n_g : Nat} {c_g : Nat} {rr : Bool × Int × Int} : ConQ Try.prog 24 (spec_l1Once.f s0_0 s0_1 s0_2 a1) rr #[.pointer (some ⟨g, 0, none⟩), .int .i64 a1] (A_g, n_g, c_g) (fun w0 w => Kd.C (Kd.int .u8) w0 A_g n_g s0_0) [box g #[.slice A_g n_g c_g, .int .i64 s0_1, .int .i64 s0_2] 53] (fun _ => .bool rr.1) (fun _ => [box g #[.slice A_g n_g c_g, .int .i64 rr.2.1, .int .i64 rr.2.2] 53]) := ⟨fun w0 L w H pc E => by
  simp only [List.cons_append, List.nil_append] at H
  obtain rfl := pc.1
  replace pc := Aside0.mk pc
  replace H := Aside0.mk H
  replace E := Aside0.mk E
  unfold spec_l1Once.f at E
  go_in
  exact walkM⟩
end Go.Proofs.Ytlpghnhcgljhoaa.Q
end
section
namespace Go.Proofs.Ytlpghnhcgljhoaa.Q
open Go.RowKit Go.Proofs.YtlpghnhcgljhoaaW.PrintWords Go.Proofs.YtlpghnhcgljhoaaW.PrintLast Go.Proofs.Ytlpghnhcgljhoaa.LK Go.Proofs.YtlpghnhcgljhoaaW.PrintMore Go.Proofs.Ytlpghnhcgljhoaa.SP
set_option linter.unusedVariables false
def spec_l1Zeros.l0 : Nat → Int → List Int → Int → Option (List Int)
  | 0, _, _, _ => none
  | k + 1, x0, x3, x4 => if x4 < x0 then (if x3.length < 140737488355328 then (spec_l1Zeros.l0 k x0 (x3 ++ [0]) (wrap64 (x4 + 1))) else (none)) else (some x3)
def spec_l1Zeros.f (k : Nat) (a0 : Int) : Option (List Int) := spec_l1Zeros.l0 k a0 (([] : List Int)) 0
theorem spec_l1Zeros.loop0 {G : Prop} (h : G := by
    obtain ⟨_, L0, _, hL, H⟩ := lpRow (Kd.int .u8) 5 H
    go_loopg [3, 4] k (fun kq v3 v4 w' => ∃ (x3_1 : List Int) (x4_1 : Int) (A_ : Option Addr) (n_ : Nat) (c_ : Nat), Aside0 (spec_l1Zeros.l0 kq a0 x3_1 x4_1 = some rr) ∧ Aside0 (kq ≤ k) ∧ v4 = .int .i64 x4_1 ∧ v3 = .slice A_ n_ c_ ∧ Aside0 (Sep w (row (Kd.int .u8) 5 (.slice A_ n_ c_) x3_1 :: L0) w'))
    case atStart => cases hL.out; exact relM
    case round =>
      clear E H
      cases hL.out
      obtain ⟨x3_1, x4_1, A_, n_, c_, E, ⟨K⟩, rfl, rfl, H⟩ := hrel
      cases gk with
      | zero => simp only [spec_l1Zeros.l0] at E; exact esN E
      | succ k => simp only [spec_l1Zeros.l0] at E; exact walkM) : G := h
set_option maxHeartbeats 8000000 in
set_option maxRecDepth 100000 in
instance spec_l1Zeros.con {k : Nat} {a0 : Int} {rr : (List Int)} : Con Try.prog 29 (spec_l1Zeros.f k a0) rr #[.int .i64 a0] (fun w => True) (fun q => (.slice (q 0).1 rr.length (q 0).2)) (fun q => [row (Kd.int .u8) 5 (.slice (q 0).1 rr.length (q 0).2) rr]) := ⟨fun w _ E => by
  have H := Aside0.mk (Sep.refl w)
  replace E := Aside0.mk E
  unfold spec_l1Zeros.f at E
  go_in
  exact walkM⟩
end Go.Proofs.Ytlpghnhcgljhoaa.Q
end
section
namespace Go.Proofs.Ytlpghnhcgljhoaa.Q
open Go.RowKit Go.Proofs.YtlpghnhcgljhoaaW.PrintWords Go.Proofs.YtlpghnhcgljhoaaW.PrintLast Go.Proofs.Ytlpghnhcgljhoaa.LK Go.Proofs.YtlpghnhcgljhoaaW.PrintMore Go.Proofs.Ytlpghnhcgljhoaa.SP
set_option linter.unusedVariables false
def spec_DevNew.f (k : Nat) (a0 : Int) : Option (List Int × (List (S43)) × Int × Bool) := if a0 < 8 then (some (([] : List Int), ([] : List (S43)), 0, false)) else (if a0 > 256 then (some (([] : List Int), ([] : List (S43)), 0, false)) else ((spec_l1Zeros.f k (wrap64 (a0 * 64))).bind fun t102 => (some (t102, ([] : List (S43)), (-1), false))))
set_option maxHeartbeats 8000000 in
set_option maxRecDepth 100000 in
instance spec_DevNew.con {k : Nat} {a0 : Int} {rr : (List Int) × (List (S43)) × Int × Bool} : Con Try.prog 28 (spec_DevNew.f k a0) rr #[.int .i64 a0] (fun w => True) (fun q => .agg #[(.slice (q 0).1 rr.1.length (q 0).2), (.slice (q 1).1 rr.2.1.length (q 1).2), .int .i64 rr.2.2.1, .bool rr.2.2.2]) (fun q => [row (Kd.int .u8) 5 (.slice (q 0).1 rr.1.length (q 0).2) rr.1, row k43 43 (.slice (q 1).1 rr.2.1.length (q 1).2) rr.2.1]) := ⟨fun w _ E => by
  have H := Aside0.mk (Sep.refl w)
  replace E := Aside0.mk E
  unfold spec_DevNew.f at E
  go_in
  exact walkM⟩
end Go.Proofs.Ytlpghnhcgljhoaa.Q
end
section
namespace Go.Proofs.Ytlpghnhcgljhoaa.Q
open Go.RowKit Go.Proofs.YtlpghnhcgljhoaaW.PrintWords Go.Proofs.YtlpghnhcgljhoaaW.PrintLast Go.Proofs.Ytlpghnhcgljhoaa.LK Go.Proofs.YtlpghnhcgljhoaaW.PrintMore Go.Proofs.Ytlpghnhcgljhoaa.SP
set_option linter.unusedVariables false
def spec_l1Copy.l0 : Nat → Int → List Int → List (S43) → Int → Bool → List Int → List (S43) → Int → Bool → Option (List Int × (List (S43)) × Int × Bool)
  | 0, _, _, _, _, _, _, _, _, _ => none
  | k + 1, x4, x102000, x102001, x102002, x102003, x110000, x110001, x110002, x110003 => if x4 < (x102001.length : Int) then (if 0 ≤ x4 then ((some (([] : List Int) : List Int)).bind fun y111 => (if y111.length + ((rd_T43 x102001 x4).f1).length < 140737488355328 then (if x110001.length < 4398046511104 then (spec_l1Copy.l0 k (wrap64 (x4 + 1)) x102000 x102001 x102002 x102003 x110000 (x110001 ++ [(⟨(rd_T43 x102001 x4).f0, (y111 ++ ((rd_T43 x102001 x4).f1))⟩ : S43)]) x110002 x110003) else (none)) else (none))) else (none)) else (some (x110000, x110001, x110002, x110003))
def spec_l1Copy.f (k : Nat) (l0_0 : List Int) (l0_1 : List (S43)) (a0_2 : Int) (a0_3 : Bool) : Option (List Int × (List (S43)) × Int × Bool) := (some (([] : List Int) : List Int)).bind fun y103 => (if y103.length + l0_0.length < 140737488355328 then (spec_l1Copy.l0 k 0 l0_0 l0_1 a0_2 a0_3 (y103 ++ l0_0) ([] : List (S43)) a0_2 a0_3) else (none))
def spec_l1Copy.l0a7 {z1 : Nat} {z2 : Int} {z3 : List Int} {z4 : List (S43)} {z5 : Int} {z6 : Bool} {z7 : List Int} {z8 : List (S43)} {z9 : Int} {z10 : Bool} {q_ : Option (List Int × (List (S43)) × Int × Bool)} (_ : Aside0 (spec_l1Copy.l0 z1 z2 z3 z4 z5 z6 z7 z8 z9 z10 = q_)) : List Int := z7
theorem spec_l1Copy.loop0 {G : Prop} (h : G := by
    obtain ⟨y106, hy106⟩ : ∃ t, spec_l1Copy.l0a7 E = t := ⟨_, rfl⟩
    dsimp only [spec_l1Copy.l0a7] at hy106
    rw [hy106] at E H
    replace hy106 := Aside0.mk hy106
    obtain ⟨G1_, X10_, X11_, X12_, X13_, L1_, hG1, hX10_, hX11_, hX12_, hX13_, hL1⟩ := lpB4 25 H
    obtain ⟨Mu110001_, hMu110001_⟩ := lpRn k43 43 hX11_ hL1
    go_loopg [4] k (fun kq v4 w' => ∃ (x4_1 : Int) (x110001_1 : List (S43)) (A_u110001 : Option Addr) (n_u110001 : Nat) (c_u110001 : Nat), Aside0 (spec_l1Copy.l0 kq x4_1 l0_0 l0_1 a0_2 a0_3 y106 x110001_1 a0_2 a0_3 = some rr) ∧ Aside0 (kq ≤ k) ∧ v4 = .int .i64 x4_1 ∧ Aside0 (Sep w (box G1_ #[X10_, .slice A_u110001 n_u110001 c_u110001, X12_, X13_] 25 :: row k43 43 (.slice A_u110001 n_u110001 c_u110001) x110001_1 :: Mu110001_) w'))
    case atStart => cases hG1.out; cases hX10_.out; cases hX11_.out; cases hX12_.out; cases hX13_.out; cases hL1.out; cases hMu110001_.out; exact relM
    case round =>
      clear E H
      cases hG1.out
      cases hX10_.out
      cases hX11_.out
      cases hX12_.out
      cases hX13_.out
      cases hL1.out
      cases hMu110001_.out
      obtain ⟨x4_1, x110001_1, A_u110001, n_u110001, c_u110001, E, ⟨K⟩, rfl, H⟩ := hrel
      cases gk with
      | zero => simp only [spec_l1Copy.l0] at E; exact esN E
      | succ k => simp only [spec_l1Copy.l0] at E; exact walkM) : G := h
set_option maxHeartbeats 8000000 in
set_option maxRecDepth 100000 in
instance spec_l1Copy.con {k : Nat} {A0_0 : Option Addr} {c0_0 : Nat} {l0_0 : List Int} {A0_1 : Option Addr} {c0_1 : Nat} {l0_1 : List (S43)} {a0_2 : Int} {a0_3 : Bool} {n0_0 : Nat} {n0_1 : Nat} {rr : (List Int) × (List (S43)) × Int × Bool} : Con Try.prog 33 (spec_l1Copy.f k l0_0 l0_1 a0_2 a0_3) rr #[.agg #[.slice A0_0 n0_0 c0_0, .slice A0_1 n0_1 c0_1, .int .i64 a0_2, .bool a0_3]] (fun w => Kd.C (Kd.int .u8) w A0_0 n0_0 l0_0 ∧ l0_0.length ≤ c0_0 ∧ Kd.C k43 w A0_1 n0_1 l0_1 ∧ l0_1.length ≤ c0_1) (fun q => .agg #[(.slice (q 0).1 rr.1.length (q 0).2), (.slice (q 1).1 rr.2.1.length (q 1).2), .int .i64 rr.2.2.1, .bool rr.2.2.2]) (fun q => [row (Kd.int .u8) 5 (.slice (q 0).1 rr.1.length (q 0).2) rr.1, row k43 43 (.slice (q 1).1 rr.2.1.length (q 1).2) rr.2.1]) := ⟨fun w ⟨p0, p1, p2, p3⟩ E => by
  obtain rfl := p0.1
  obtain rfl := p2.1
  replace p0 := Aside0.mk p0
  replace p1 := Aside0.mk p1
  replace p2 := Aside0.mk p2
  replace p3 := Aside0.mk p3
  have H := Aside0.mk (Sep.refl w)
  replace E := Aside0.mk E
  unfold spec_l1Copy.f at E
  go_in
  exact walkM⟩
end Go.Proofs.Ytlpghnhcgljhoaa.Q
end
section
namespace Go.Proofs.Ytlpghnhcgljhoaa.Q
open Go.RowKit Go.Proofs.YtlpghnhcgljhoaaW.PrintWords Go.Proofs.YtlpghnhcgljhoaaW.PrintLast Go.Proofs.Ytlpghnhcgljhoaa.LK Go.Proofs.YtlpghnhcgljhoaaW.PrintMore Go.Proofs.Ytlpghnhcgljhoaa.SP
set_option linter.unusedVariables false
def spec_l1Step.f (k : Nat) (l0 : List Int) (l1 : List S43) (a2 : Int) (a3 : Bool) : Option (List Int × List S43 × Int × Bool) :=
  (spec_l1Copy.f k l0 l1 a2 a3).bind fun t => if t.2.2.1 = 0 then some (t.1, t.2.1, t.2.2.1, true) else if t.2.2.1 > 0 then some (t.1, t.2.1, wrap64 (t.2.2.1 - 1), t.2.2.2) else some (t.1, t.2.1, t.2.2.1, t.2.2.2)
set_option maxHeartbeats 8000000 in
set_option maxRecDepth 100000 in
instance spec_l1Step.con {k : Nat} {A0 : Option Addr} {n0 c0 : Nat} {l0 : List Int} {A1 : Option Addr} {n1 c1 : Nat} {l1 : List S43} {a2 : Int} {a3 : Bool} {rr : List Int × List S43 × Int × Bool} : Con Try.prog 34 (spec_l1Step.f k l0 l1 a2 a3) rr #[.agg #[.slice A0 n0 c0, .slice A1 n1 c1, .int .i64 a2, .bool a3]] (fun w => Kd.C (Kd.int .u8) w A0 n0 l0 ∧ l0.length ≤ c0 ∧ Kd.C k43 w A1 n1 l1 ∧ l1.length ≤ c1) (fun q => .agg #[.slice (q 0).1 rr.1.length (q 0).2, .slice (q 1).1 rr.2.1.length (q 1).2, .int .i64 rr.2.2.1, .bool rr.2.2.2]) (fun q => [row (Kd.int .u8) 5 (.slice (q 0).1 rr.1.length (q 0).2) rr.1, row k43 43 (.slice (q 1).1 rr.2.1.length (q 1).2) rr.2.1]) := ⟨fun w ⟨p0, p1, p2, p3⟩ E => by
  obtain rfl := p0.1
  obtain rfl := p2.1
  replace p0 := Aside0.mk p0
  replace p1 := Aside0.mk p1
  replace p2 := Aside0.mk p2
  replace p3 := Aside0.mk p3
  have H := Aside0.mk (Sep.refl w)
  replace E := Aside0.mk E
  unfold spec_l1Step.f at E
  go_in
  exact walkM⟩
end Go.Proofs.Ytlpghnhcgljhoaa.Q
end
section
namespace Go.Proofs.Ytlpghnhcgljhoaa.Q
open Go.RowKit Go.Proofs.YtlpghnhcgljhoaaW.PrintWords Go.Proofs.YtlpghnhcgljhoaaW.PrintLast Go.Proofs.Ytlpghnhcgljhoaa.LK Go.Proofs.YtlpghnhcgljhoaaW.PrintMore Go.Proofs.Ytlpghnhcgljhoaa.SP
set_option linter.unusedVariables false
def spec_DevWrite.j0 : Nat → Int → List Int → Bool → List Int → List (S43) → Int → Bool → Option (List Int × (List (S43)) × Int × Bool)
  | 0, _, _, _, _, _, _, _ => none
  | k + 1, x1, x2, x35, x102000, x102001, x102002, x102003 => if x35 = true then ((spec_l1Copy.f k x102000 x102001 x102002 x102003).bind fun bt105 => (some (bt105.1, bt105.2.1, bt105.2.2.1, bt105.2.2.2))) else ((spec_l1Step.f k x102000 x102001 x102002 x102003).bind fun bt113 => (if bt113.2.2.2 = true then (some (bt113.1, bt113.2.1, bt113.2.2.1, bt113.2.2.2)) else ((some (([] : List Int) : List Int)).bind fun y122 => (if y122.length + x2.length < 140737488355328 then (if bt113.2.1.length < 4398046511104 then (some (bt113.1, (bt113.2.1 ++ [(⟨x1, (y122 ++ x2)⟩ : S43)]), bt113.2.2.1, bt113.2.2.2)) else (none)) else (none)))))
def spec_DevWrite.f (k : Nat) (l0_0 : List Int) (l0_1 : List (S43)) (a0_2 : Int) (a0_3 : Bool) (a1 : Int) (l2 : List Int) : Option (List Int × (List (S43)) × Int × Bool) := (spec_ValidDev.f k l0_0 l0_1 a0_2 a0_3).bind fun t103 => (if t103 = true then (if a0_3 = true then (spec_DevWrite.j0 k a1 l2 true l0_0 l0_1 a0_2 a0_3) else (if a1 < 0 then (spec_DevWrite.j0 k a1 l2 true l0_0 l0_1 a0_2 a0_3) else ((spec_l1Sectors.f l0_0 l0_1 a0_2 a0_3).bind fun t104 => (if a1 ≥ t104 then (spec_DevWrite.j0 k a1 l2 true l0_0 l0_1 a0_2 a0_3) else (if (l2.length : Int) = 64 then (spec_DevWrite.j0 k a1 l2 ((l0_1.length : Int) == 1000) l0_0 l0_1 a0_2 a0_3) else (spec_DevWrite.j0 k a1 l2 true l0_0 l0_1 a0_2 a0_3)))))) else (spec_DevWrite.j0 k a1 l2 true l0_0 l0_1 a0_2 a0_3))
set_option maxHeartbeats 8000000 in
set_option maxRecDepth 100000 in
instance spec_DevWrite.con {k : Nat} {A0_0 : Option Addr} {c0_0 : Nat} {l0_0 : List Int} {A0_1 : Option Addr} {c0_1 : Nat} {l0_1 : List (S43)} {a0_2 : Int} {a0_3 : Bool} {a1 : Int} {A2 : Option Addr} {c2 : Nat} {l2 : List Int} {n0_0 : Nat} {n0_1 : Nat} {n2 : Nat} {rr : (List Int) × (List (S43)) × Int × Bool} : Con Try.prog 31 (spec_DevWrite.f k l0_0 l0_1 a0_2 a0_3 a1 l2) rr #[.agg #[.slice A0_0 n0_0 c0_0, .slice A0_1 n0_1 c0_1, .int .i64 a0_2, .bool a0_3], .int .i64 a1, .slice A2 n2 c2] (fun w => Kd.C (Kd.int .u8) w A0_0 n0_0 l0_0 ∧ l0_0.length ≤ c0_0 ∧ Kd.C k43 w A0_1 n0_1 l0_1 ∧ l0_1.length ≤ c0_1 ∧ Kd.C (Kd.int .u8) w A2 n2 l2 ∧ l2.length ≤ c2) (fun q => .agg #[(.slice (q 0).1 rr.1.length (q 0).2), (.slice (q 1).1 rr.2.1.length (q 1).2), .int .i64 rr.2.2.1, .bool rr.2.2.2]) (fun q => [row (Kd.int .u8) 5 (.slice (q 0).1 rr.1.length (q 0).2) rr.1, row k43 43 (.slice (q 1).1 rr.2.1.length (q 1).2) rr.2.1]) := ⟨fun w ⟨p0, p1, p2, p3, p4, p5⟩ E => by
  obtain rfl := p0.1
  obtain rfl := p2.1
  obtain rfl := p4.1
  replace p0 := Aside0.mk p0
  replace p1 := Aside0.mk p1
  replace p2 := Aside0.mk p2
  replace p3 := Aside0.mk p3
  replace p4 := Aside0.mk p4
  replace p5 := Aside0.mk p5
  have H := Aside0.mk (Sep.refl w)
  replace E := Aside0.mk E
  unfold spec_DevWrite.f at E
  go_in
  exact walkM⟩
end Go.Proofs.Ytlpghnhcgljhoaa.Q
end
section
namespace Go.Proofs.Ytlpghnhcgljhoaa.Q
open Go.RowKit Go.Proofs.YtlpghnhcgljhoaaW.PrintWords Go.Proofs.YtlpghnhcgljhoaaW.PrintLast Go.Proofs.Ytlpghnhcgljhoaa.LK Go.Proofs.YtlpghnhcgljhoaaW.PrintMore Go.Proofs.Ytlpghnhcgljhoaa.SP
set_option linter.unusedVariables false
mutual
def spec_DevSync.j0 : Nat → Bool → List Int → List (S43) → Int → Bool → Option (List Int × (List (S43)) × Int × Bool)
  | 0, _, _, _, _, _ => none
  | k + 1, x11, x102000, x102001, x102002, x102003 => if x11 = true then ((spec_l1Copy.f k x102000 x102001 x102002 x102003).bind fun bt104 => (some (bt104.1, bt104.2.1, bt104.2.2.1, bt104.2.2.2))) else ((spec_l1Step.f k x102000 x102001 x102002 x102003).bind fun bt112 => (if bt112.2.2.2 = true then (some (bt112.1, bt112.2.1, bt112.2.2.1, bt112.2.2.2)) else (spec_DevSync.l0 k 0 x102000 x102001 x102002 x102003 bt112.1 bt112.2.1 bt112.2.2.1 bt112.2.2.2)))
def spec_DevSync.l0 : Nat → Int → List Int → List (S43) → Int → Bool → List Int → List (S43) → Int → Bool → Option (List Int × (List (S43)) × Int × Bool)
  | 0, _, _, _, _, _, _, _, _, _ => none
  | k + 1, x4, x102000, x102001, x102002, x102003, x121000, x121001, x121002, x121003 => if x4 < (x102001.length : Int) then (if 0 ≤ x4 then ((spec_l1Over.f x121000 ((rd_T43 x102001 x4).f0) ((rd_T43 x102001 x4).f1)).bind fun t123 => (spec_DevSync.l0 k (wrap64 (x4 + 1)) x102000 x102001 x102002 x102003 t123 x121001 x121002 x121003)) else (none)) else (some (x121000, (([] : List (S43))), x121002, x121003))
end
def spec_DevSync.f (k : Nat) (l0_0 : List Int) (l0_1 : List (S43)) (a0_2 : Int) (a0_3 : Bool) : Option (List Int × (List (S43)) × Int × Bool) := (spec_ValidDev.f k l0_0 l0_1 a0_2 a0_3).bind fun t103 => (if t103 = true then (spec_DevSync.j0 k a0_3 l0_0 l0_1 a0_2 a0_3) else (spec_DevSync.j0 k true l0_0 l0_1 a0_2 a0_3))
def spec_DevSync.l0a {z1 : Nat} {z2 : Int} {z3 : List Int} {z4 : List (S43)} {z5 : Int} {z6 : Bool} {z7 : List Int} {z8 : List (S43)} {z9 : Int} {z10 : Bool} {q_ : Option (List Int × (List (S43)) × Int × Bool)} (_ : Aside0 (spec_DevSync.l0 z1 z2 z3 z4 z5 z6 z7 z8 z9 z10 = q_)) : Bool × (List (S43)) × Int := (z6, z8, z9)
theorem spec_DevSync.loop0 {G : Prop} (h : G := by
    obtain ⟨G1_, X10_, X11_, X12_, X13_, L1_, hG1, hX10_, hX11_, hX12_, hX13_, hL1⟩ := lpB4 25 H
    obtain ⟨Mu121000_, hMu121000_⟩ := lpRn (Kd.int .u8) 5 hX10_ hL1
    go_loopg [4] k (fun kq v4 w' => ∃ (x4_2 : Int) (x121000_2 : List Int) (A_u121000 : Option Addr) (n_u121000 : Nat) (c_u121000 : Nat), Aside0 (spec_DevSync.l0 kq x4_2 l0_0 l0_1 a0_2 (spec_DevSync.l0a E).1 x121000_2 (spec_DevSync.l0a E).2.1 (spec_DevSync.l0a E).2.2 false = some rr) ∧ Aside0 (kq ≤ k) ∧ v4 = .int .i64 x4_2 ∧ Aside0 (Sep w (box G1_ #[.slice A_u121000 n_u121000 c_u121000, X11_, X12_, X13_] 25 :: row (Kd.int .u8) 5 (.slice A_u121000 n_u121000 c_u121000) x121000_2 :: Mu121000_) w'))
    case atStart => cases hG1.out; cases hX10_.out; cases hX11_.out; cases hX12_.out; cases hX13_.out; cases hL1.out; cases hMu121000_.out; exact relM
    case round =>
      clear H
      cases hG1.out
      cases hX10_.out
      cases hX11_.out
      cases hX12_.out
      cases hX13_.out
      cases hL1.out
      cases hMu121000_.out
      obtain ⟨x4_2, x121000_2, A_u121000, n_u121000, c_u121000, E, ⟨K⟩, rfl, H⟩ := hrel
      cases gk with
      | zero => simp only [spec_DevSync.l0] at E; exact esN E
      | succ k => simp only [spec_DevSync.l0] at E; dsimp only [spec_DevSync.l0a] at E; exact walkM) : G := h
set_option maxHeartbeats 8000000 in
set_option maxRecDepth 100000 in
instance spec_DevSync.con {k : Nat} {A0_0 : Option Addr} {c0_0 : Nat} {l0_0 : List Int} {A0_1 : Option Addr} {c0_1 : Nat} {l0_1 : List (S43)} {a0_2 : Int} {a0_3 : Bool} {n0_0 : Nat} {n0_1 : Nat} {rr : (List Int) × (List (S43)) × Int × Bool} : Con Try.prog 32 (spec_DevSync.f k l0_0 l0_1 a0_2 a0_3) rr #[.agg #[.slice A0_0 n0_0 c0_0, .slice A0_1 n0_1 c0_1, .int .i64 a0_2, .bool a0_3]] (fun w => Kd.C (Kd.int .u8) w A0_0 n0_0 l0_0 ∧ l0_0.length ≤ c0_0 ∧ Kd.C k43 w A0_1 n0_1 l0_1 ∧ l0_1.length ≤ c0_1) (fun q => .agg #[(.slice (q 0).1 rr.1.length (q 0).2), (.slice (q 1).1 rr.2.1.length (q 1).2), .int .i64 rr.2.2.1, .bool rr.2.2.2]) (fun q => [row (Kd.int .u8) 5 (.slice (q 0).1 rr.1.length (q 0).2) rr.1, row k43 43 (.slice (q 1).1 rr.2.1.length (q 1).2) rr.2.1]) := ⟨fun w ⟨p0, p1, p2, p3⟩ E => by
  obtain rfl := p0.1
  obtain rfl := p2.1
  replace p0 := Aside0.mk p0
  replace p1 := Aside0.mk p1
  replace p2 := Aside0.mk p2
  replace p3 := Aside0.mk p3
  have H := Aside0.mk (Sep.refl w)
  replace E := Aside0.mk E
  unfold spec_DevSync.f at E
  go_in
  exact walkM⟩
end Go.Proofs.Ytlpghnhcgljhoaa.Q
end
section
namespace Go.Proofs.Ytlpghnhcgljhoaa.Q
open Go.RowKit Go.Proofs.YtlpghnhcgljhoaaW.PrintWords Go.Proofs.YtlpghnhcgljhoaaW.PrintLast Go.Proofs.Ytlpghnhcgljhoaa.LK Go.Proofs.YtlpghnhcgljhoaaW.PrintMore Go.Proofs.Ytlpghnhcgljhoaa.SP
set_option linter.unusedVariables false
def spec_l1Dev.l0 : Nat → Int → Int → List Int → Int → Int → List Int → List (S43) → Int → Bool → Option (List Int × (List (S43)) × Int × Bool × Int × Int)
  | 0, _, _, _, _, _, _, _, _, _ => none
  | k + 1, x4, x5, x1000, x1001, x1002, x114000, x114001, x114002, x114003 => if x5 < x4 then ((spec_l1Sectors.f x114000 x114001 x114002 x114003).bind fun t117 => ((spec_l1Below.f x1000 x1001 x1002 t117).bind fun bt118 => ((spec_l1Zeros.f k 64).bind fun t121 => ((spec_l1Below.f x1000 bt118.2.1 bt118.2.2 64).bind fun bt124 => ((spec_l1Byte.f x1000 bt124.2.1 bt124.2.2).bind fun bt127 => (if 0 ≤ bt124.1 then (if bt124.1 < (t121.length : Int) then (if 63 < (t121.length : Int) then ((spec_DevWrite.f k x114000 x114001 x114002 x114003 bt118.1 ((t121.set (bt124.1 : Int).toNat ((bt127.1) % 256)).set (63 : Int).toNat ((x5) % 256))).bind fun bt132 => ((spec_l1Once.f x1000 bt127.2.1 bt127.2.2 4).bind fun bt140 => (if bt140.1 = true then ((spec_DevSync.f k bt132.1 bt132.2.1 bt132.2.2.1 bt132.2.2.2).bind fun bt143 => (spec_l1Dev.l0 k x4 (wrap64 (x5 + 1)) x1000 bt140.2.1 bt140.2.2 bt143.1 bt143.2.1 bt143.2.2.1 bt143.2.2.2)) else (spec_l1Dev.l0 k x4 (wrap64 (x5 + 1)) x1000 bt140.2.1 bt140.2.2 bt132.1 bt132.2.1 bt132.2.2.1 bt132.2.2.2)))) else (none)) else (none)) else (none))))))) else ((spec_l1Below.f x1000 x1001 x1002 8).bind fun bt151 => (if bt151.1 < 3 then (if bt151.1 = 3 then (some (x114000, x114001, bt151.1, true, bt151.2.1, bt151.2.2)) else (some (x114000, x114001, bt151.1, x114003, bt151.2.1, bt151.2.2))) else (if bt151.1 = 3 then (some (x114000, x114001, x114002, true, bt151.2.1, bt151.2.2)) else (some (x114000, x114001, x114002, x114003, bt151.2.1, bt151.2.2)))))
def spec_l1Dev.f (k : Nat) (s0_0 : List Int) (s0_1 : Int) (s0_2 : Int) : Option (List Int × (List (S43)) × Int × Bool × Int × Int) := (spec_l1Below.f s0_0 s0_1 s0_2 4).bind fun bt102 => ((spec_DevNew.f k (wrap64 (8 + bt102.1))).bind fun bt105 => ((spec_l1Below.f s0_0 bt102.2.1 bt102.2.2 7).bind fun bt114 => (spec_l1Dev.l0 k bt114.1 0 s0_0 bt114.2.1 bt114.2.2 bt105.1 bt105.2.1 bt105.2.2.1 bt105.2.2.2)))
def spec_l1Dev.l0a {z1 : Nat} {z2 : Int} {z3 : Int} {z4 : List Int} {z5 : Int} {z6 : Int} {z7 : List Int} {z8 : List (S43)} {z9 : Int} {z10 : Bool} {q_ : Option (List Int × (List (S43)) × Int × Bool × Int × Int)} (_ : Aside0 (spec_l1Dev.l0 z1 z2 z3 z4 z5 z6 z7 z8 z9 z10 = q_)) : Int := z2
theorem spec_l1Dev.loop0 {G : Prop} (h : G := by
    obtain ⟨G1_, X10_, X11_, X12_, X13_, L1_, hG1, hX10_, hX11_, hX12_, hX13_, hL1⟩ := lpB4 25 H
    obtain ⟨Mu114000_, hMu114000_⟩ := lpRn (Kd.int .u8) 5 hX10_ hL1
    obtain ⟨Mu114001_, hMu114001_⟩ := lpRn k43 43 hX11_ hMu114000_
    obtain ⟨G2_, X20_, X21_, X22_, L2_, hG2, hX20_, hX21_, hX22_, hL2⟩ := lpD3 53 hMu114001_
    go_loopg [5] k (fun kq v5 w' => ∃ (x5_1 : Int) (x1001_1 : Int) (x1002_1 : Int) (x114000_1 : List Int) (x114001_1 : List (S43)) (x114002_1 : Int) (x114003_1 : Bool) (A_u114000 : Option Addr) (n_u114000 : Nat) (c_u114000 : Nat) (A_u114001 : Option Addr) (n_u114001 : Nat) (c_u114001 : Nat), Aside0 (spec_l1Dev.l0 kq (spec_l1Dev.l0a E) x5_1 s0_0 x1001_1 x1002_1 x114000_1 x114001_1 x114002_1 x114003_1 = some rr) ∧ Aside0 (kq ≤ k) ∧ v5 = .int .i64 x5_1 ∧ Aside0 (Sep w0 (box G1_ #[.slice A_u114000 n_u114000 c_u114000, .slice A_u114001 n_u114001 c_u114001, .int .i64 x114002_1, .bool x114003_1] 25 :: row (Kd.int .u8) 5 (.slice A_u114000 n_u114000 c_u114000) x114000_1 :: row k43 43 (.slice A_u114001 n_u114001 c_u114001) x114001_1 :: box G2_ #[X20_, .int .i64 x1001_1, .int .i64 x1002_1] 53 :: L2_) w'))
    case atStart => cases hG1.out; cases hX10_.out; cases hX11_.out; cases hX12_.out; cases hX13_.out; cases hL1.out; cases hG2.out; cases hX20_.out; cases hX21_.out; cases hX22_.out; cases hL2.out; cases hMu114000_.out; cases hMu114001_.out; exact relM
    case round =>
      clear H
      cases hG1.out
      cases hX10_.out
      cases hX11_.out
      cases hX12_.out
      cases hX13_.out
      cases hL1.out
      cases hG2.out
      cases hX20_.out
      cases hX21_.out
      cases hX22_.out
      cases hL2.out
      cases hMu114000_.out
      cases hMu114001_.out
      obtain ⟨x5_1, x1001_1, x1002_1, x114000_1, x114001_1, x114002_1, x114003_1, A_u114000, n_u114000, c_u114000, A_u114001, n_u114001, c_u114001, E, ⟨K⟩, rfl, H⟩ := hrel
      cases gk with
      | zero => simp only [spec_l1Dev.l0] at E; exact esN E
      | succ k => simp only [spec_l1Dev.l0] at E; dsimp only [spec_l1Dev.l0a] at E; exact walkM) : G := h
set_option maxHeartbeats 8000000 in
set_option maxRecDepth 100000 in
instance spec_l1Dev.con {k : Nat} {g : Nat} {s0_0 : List Int} {s0_1 : Int} {s0_2 : Int} {A_g : Option Addr} {n_g : Nat} {c_g : Nat} {rr : (List Int) × (List (S43)) × Int × Bool × Int × Int} : ConQ Try.prog 23 (spec_l1Dev.f k s0_0 s0_1 s0_2) rr #[.pointer (some ⟨g, 0, none⟩)] (A_g, n_g, c_g) (fun w0 w => Kd.C (Kd.int .u8) w0 A_g n_g s0_0) [box g #[.slice A_g n_g c_g, .int .i64 s0_1, .int .i64 s0_2] 53] (fun q => .agg #[(.slice (q 0).1 rr.1.length (q 0).2), (.slice (q 1).1 rr.2.1.length (q 1).2), .int .i64 rr.2.2.1, .bool rr.2.2.2.1]) (fun q => [row (Kd.int .u8) 5 (.slice (q 0).1 rr.1.length (q 0).2) rr.1, row k43 43 (.slice (q 1).1 rr.2.1.length (q 1).2) rr.2.1, box g #[.slice A_g n_g c_g, .int .i64 rr.2.2.2.2.1, .int .i64 rr.2.2.2.2.2] 53]) := ⟨fun w0 L w H pc E => by
  simp only [List.cons_append, List.nil_append] at H
  obtain rfl := pc.1
  replace pc := Aside0.mk pc
  replace H := Aside0.mk H
  replace E := Aside0.mk E
  unfold spec_l1Dev.f at E
  go_in
  exact walkM⟩
end Go.Proofs.Ytlpghnhcgljhoaa.Q
end
section
namespace Go.Proofs.Ytlpghnhcgljhoaa.Q
open Go.RowKit Go.Proofs.YtlpghnhcgljhoaaW.PrintWords Go.Proofs.YtlpghnhcgljhoaaW.PrintLast Go.Proofs.Ytlpghnhcgljhoaa.LK Go.Proofs.YtlpghnhcgljhoaaW.PrintMore Go.Proofs.Ytlpghnhcgljhoaa.SP
set_option linter.unusedVariables false
def spec_l1SpoilDev.f (k : Nat) (s0 : List Int) (s1 s2 : Int) (l0 : List Int) (l1 : List S43) (a2 : Int) (a3 : Bool) : Option (List Int × List S43 × Int × Bool × Int × Int) :=
  (spec_l1Below.f s0 s1 s2 6).bind fun b =>
    if b.1 = 0 then (if (1 : Int) ≤ (l0.length : Int) then (if b.1 = 1 then none else if b.1 = 2 then none else if b.1 = 3 then none else if b.1 = 4 then none else if b.1 = 5 then none else some (l0.drop (1 : Int).toNat, l1, a2, a3, b.2.1, b.2.2)) else none)
    else if b.1 = 1 then (if b.1 = 2 then none else if b.1 = 3 then none else if b.1 = 4 then none else if b.1 = 5 then none else some (l0, l1, -2, a3, b.2.1, b.2.2))
    else if b.1 = 2 then (spec_l1Below.f s0 b.2.1 b.2.2 2).bind fun t => if b.1 = 3 then none else if b.1 = 4 then none else if b.1 = 5 then none else some (l0, l1, wrap64 (1000000 + t.1), a3, t.2.1, t.2.2)
    else if b.1 = 3 then (spec_l1Sectors.f l0 l1 a2 a3).bind fun n => (spec_l1Below.f s0 b.2.1 b.2.2 2).bind fun t => (spec_l1Zeros.f k 64).bind fun z => if l1.length < 4398046511104 then (if b.1 = 4 then none else if b.1 = 5 then none else some (l0, l1 ++ [(⟨wrap64 (n - t.1), z⟩ : S43)], a2, a3, t.2.1, t.2.2)) else none
    else if b.1 = 4 then (spec_l1Zeros.f k 63).bind fun z => if l1.length < 4398046511104 then (if b.1 = 5 then none else some (l0, l1 ++ [(⟨1, z⟩ : S43)], a2, a3, b.2.1, b.2.2)) else none
    else if b.1 = 5 then (spec_l1Below.f s0 b.2.1 b.2.2 2).bind fun t => if 0 ≤ wrap64 (64 * wrap64 (8 - t.1)) then (if wrap64 (64 * wrap64 (8 - t.1)) ≤ (l0.length : Int) then some (l0.take (wrap64 (64 * wrap64 (8 - t.1))).toNat, l1, a2, a3, t.2.1, t.2.2) else none) else none
    else some (l0, l1, a2, a3, b.2.1, b.2.2)
set_option maxHeartbeats 8000000 in
set_option maxRecDepth 100000 in
instance spec_l1SpoilDev.con {k : Nat} {g : Nat} {s0 : List Int} {s1 s2 : Int} {A_g : Option Addr} {n_g c_g : Nat} {A0 : Option Addr} {n0 c0 : Nat} {l0 : List Int} {A1 : Option Addr} {n1 c1 : Nat} {l1 : List S43} {a2 : Int} {a3 : Bool} {rr : List Int × List S43 × Int × Bool × Int × Int} : ConQ Try.prog 25 (spec_l1SpoilDev.f k s0 s1 s2 l0 l1 a2 a3) rr #[.pointer (some ⟨g, 0, none⟩), .agg #[.slice A0 n0 c0, .slice A1 n1 c1, .int .i64 a2, .bool a3]] (A_g, n_g, c_g) (fun w0 w => Kd.C (Kd.int .u8) w0 A_g n_g s0) [box g #[.slice A_g n_g c_g, .int .i64 s1, .int .i64 s2] 53, row (Kd.int .u8) 5 (.slice A0 n0 c0) l0, row k43 43 (.slice A1 n1 c1) l1] (fun q => .agg #[.slice (q 0).1 rr.1.length (q 0).2, .slice (q 1).1 rr.2.1.length (q 1).2, .int .i64 rr.2.2.1, .bool rr.2.2.2.1]) (fun q => [rdv (Kd.int .u8) (.slice (q 0).1 rr.1.length (q 0).2) rr.1, rdv k43 (.slice (q 1).1 rr.2.1.length (q 1).2) rr.2.1, box g #[.slice A_g n_g c_g, .int .i64 rr.2.2.2.2.1, .int .i64 rr.2.2.2.2.2] 53]) := ⟨fun w0 L w H pc E => by
  simp only [List.cons_append, List.nil_append] at H
  obtain rfl := pc.1
  replace pc := Aside0.mk pc
  replace H := Aside0.mk H
  obtain rfl := rowLenAt 1 H
  obtain rfl := rowLenAt 2 H
  replace E := Aside0.mk E
  unfold spec_l1SpoilDev.f at E
  go_in
  exact walkM⟩
end Go.Proofs.Ytlpghnhcgljhoaa.Q
end
section
namespace Go.Proofs.Ytlpghnhcgljhoaa.Q
open Go.RowKit Go.Proofs.YtlpghnhcgljhoaaW.PrintWords Go.Proofs.YtlpghnhcgljhoaaW.PrintLast Go.Proofs.Ytlpghnhcgljhoaa.LK Go.Proofs.YtlpghnhcgljhoaaW.PrintMore Go.Proofs.Ytlpghnhcgljhoaa.SP
set_option linter.unusedVariables false
def spec_l1AnyDev.f (k : Nat) (s0 : List Int) (s1 s2 : Int) : Option (List Int × List S43 × Int × Bool × Int × Int) :=
  (spec_l1Dev.f k s0 s1 s2).bind fun d => (spec_l1Once.f s0 d.2.2.2.2.1 d.2.2.2.2.2 12).bind fun o =>
    if o.1 = true then (spec_l1SpoilDev.f k s0 o.2.1 o.2.2 d.1 d.2.1 d.2.2.1 d.2.2.2.1).bind fun s => some (s.1, s.2.1, s.2.2.1, s.2.2.2.1, s.2.2.2.2.1, s.2.2.2.2.2)
    else some (d.1, d.2.1, d.2.2.1, d.2.2.2.1, o.2.1, o.2.2)
set_option maxHeartbeats 8000000 in
set_option maxRecDepth 100000 in
instance spec_l1AnyDev.con {k : Nat} {g : Nat} {s0 : List Int} {s1 s2 : Int} {A_g : Option Addr} {n_g c_g : Nat} {rr : List Int × List S43 × Int × Bool × Int × Int} : ConQ Try.prog 14 (spec_l1AnyDev.f k s0 s1 s2) rr #[.pointer (some ⟨g, 0, none⟩)] (A_g, n_g, c_g) (fun w0 w => Kd.C (Kd.int .u8) w0 A_g n_g s0) [box g #[.slice A_g n_g c_g, .int .i64 s1, .int .i64 s2] 53] (fun q => .agg #[.slice (q 0).1 rr.1.length (q 0).2, .slice (q 1).1 rr.2.1.length (q 1).2, .int .i64 rr.2.2.1, .bool rr.2.2.2.1]) (fun q => [rdv (Kd.int .u8) (.slice (q 0).1 rr.1.length (q 0).2) rr.1, rdv k43 (.slice (q 1).1 rr.2.1.length (q 1).2) rr.2.1, box g #[.slice A_g n_g c_g, .int .i64 rr.2.2.2.2.1, .int .i64 rr.2.2.2.2.2] 53]) := ⟨fun w0 L w H pc E => by
  simp only [List.cons_append, List.nil_append] at H
  obtain rfl := pc.1
  replace pc := Aside0.mk pc
  replace H := Aside0.mk H
  replace E := Aside0.mk E
  unfold spec_l1AnyDev.f at E
  go_in
  exact walkM⟩
end Go.Proofs.Ytlpghnhcgljhoaa.Q
end
section
namespace Go.Proofs.Ytlpghnhcgljhoaa.Q
open Go.RowKit Go.Proofs.YtlpghnhcgljhoaaW.PrintWords Go.Proofs.YtlpghnhcgljhoaaW.PrintLast Go.Proofs.Ytlpghnhcgljhoaa.LK Go.Proofs.YtlpghnhcgljhoaaW.PrintMore Go.Proofs.Ytlpghnhcgljhoaa.SP
set_option linter.unusedVariables false
def spec_l1Crash.l0 : Nat → Int → Int → Int → List Int → Int → Int → List Bool → Int → Int → Option (List Bool × Int × Int × Int × Int)
  | 0, _, _, _, _, _, _, _, _, _ => none
  | k + 1, x1, x6, x7, x1000, x1001, x1002, x103000, x103001, x103002 => if x7 < x6 then ((spec_l1Once.f x1000 x1001 x1002 2).bind fun bt106 => (if x103000.length < 140737488355328 then (spec_l1Crash.l0 k x1 x6 (wrap64 (x7 + 1)) x1000 bt106.2.1 bt106.2.2 (x103000 ++ [bt106.1]) x103001 x103002) else (none))) else ((spec_l1Below.f x1000 x1001 x1002 (wrap64 (x1 + 2))).bind fun bt112 => ((spec_l1Below.f x1000 bt112.2.1 bt112.2.2 65).bind fun bt115 => ((spec_l1Below.f x1000 bt115.2.1 bt115.2.2 8).bind fun bt118 => (if bt118.1 < 3 then ((spec_l1Below.f x1000 bt118.2.1 bt118.2.2 9).bind fun bt121 => (if bt118.1 = 3 then ((spec_l1Below.f x1000 bt121.2.1 bt121.2.2 140).bind fun bt124 => (some (x103000, wrap64 (bt112.1 - 1), wrap64 (bt124.1 - 40), bt124.2.1, bt124.2.2))) else (some (x103000, wrap64 (bt112.1 - 1), wrap64 (56 + bt121.1), bt121.2.1, bt121.2.2)))) else (if bt118.1 = 3 then ((spec_l1Below.f x1000 bt118.2.1 bt118.2.2 140).bind fun bt127 => (some (x103000, wrap64 (bt112.1 - 1), wrap64 (bt127.1 - 40), bt127.2.1, bt127.2.2))) else (some (x103000, wrap64 (bt112.1 - 1), bt115.1, bt118.2.1, bt118.2.2)))))))
def spec_l1Crash.f (k : Nat) (s0_0 : List Int) (s0_1 : Int) (s0_2 : Int) (a1 : Int) : Option (List Bool × Int × Int × Int × Int) := (spec_l1Below.f s0_0 s0_1 s0_2 (wrap64 (a1 + 2))).bind fun bt103 => (spec_l1Crash.l0 k a1 bt103.1 0 s0_0 bt103.2.1 bt103.2.2 ([] : List Bool) 0 0)
def spec_l1Crash.l0a {z1 : Nat} {z2 : Int} {z3 : Int} {z4 : Int} {z5 : List Int} {z6 : Int} {z7 : Int} {z8 : List Bool} {z9 : Int} {z10 : Int} {q_ : Option (List Bool × Int × Int × Int × Int)} (_ : Aside0 (spec_l1Crash.l0 z1 z2 z3 z4 z5 z6 z7 z8 z9 z10 = q_)) : Int := z3
theorem spec_l1Crash.loop0 {G : Prop} (h : G := by
    obtain ⟨G1_, X10_, X11_, X12_, L1_, hG1, hX10_, hX11_, hX12_, hL1⟩ := lpB3 28 H
    obtain ⟨Mu103000_, hMu103000_⟩ := lpRn Kd.bool 4 hX10_ hL1
    obtain ⟨G2_, X20_, X21_, X22_, L2_, hG2, hX20_, hX21_, hX22_, hL2⟩ := lpD3 53 hMu103000_
    go_loopg [7] k (fun kq v7 w' => ∃ (x7_1 : Int) (x1001_1 : Int) (x1002_1 : Int) (x103000_1 : List Bool) (A_u103000 : Option Addr) (n_u103000 : Nat) (c_u103000 : Nat), Aside0 (spec_l1Crash.l0 kq a1 (spec_l1Crash.l0a E) x7_1 s0_0 x1001_1 x1002_1 x103000_1 0 0 = some rr) ∧ Aside0 (kq ≤ k) ∧ v7 = .int .i64 x7_1 ∧ Aside0 (Sep w0 (box G1_ #[.slice A_u103000 n_u103000 c_u103000, X11_, X12_] 28 :: row Kd.bool 4 (.slice A_u103000 n_u103000 c_u103000) x103000_1 :: box G2_ #[X20_, .int .i64 x1001_1, .int .i64 x1002_1] 53 :: L2_) w'))
    case atStart => cases hG1.out; cases hX10_.out; cases hX11_.out; cases hX12_.out; cases hL1.out; cases hG2.out; cases hX20_.out; cases hX21_.out; cases hX22_.out; cases hL2.out; cases hMu103000_.out; exact relM
    case round =>
      clear H
      cases hG1.out
      cases hX10_.out
      cases hX11_.out
      cases hX12_.out
      cases hL1.out
      cases hG2.out
      cases hX20_.out
      cases hX21_.out
      cases hX22_.out
      cases hL2.out
      cases hMu103000_.out
      obtain ⟨x7_1, x1001_1, x1002_1, x103000_1, A_u103000, n_u103000, c_u103000, E, ⟨K⟩, rfl, H⟩ := hrel
      cases gk with
      | zero => simp only [spec_l1Crash.l0] at E; exact esN E
      | succ k => simp only [spec_l1Crash.l0] at E; dsimp only [spec_l1Crash.l0a] at E; exact walkM) : G := h
set_option maxHeartbeats 8000000 in
set_option maxRecDepth 100000 in
instance spec_l1Crash.con {k : Nat} {g : Nat} {s0_0 : List Int} {s0_1 : Int} {s0_2 : Int} {a1 : Int} {A_g : Option Addr} {n_g : Nat} {c_g : Nat} {rr : (List Bool) × Int × Int × Int × Int} : ConQ Try.prog 15 (spec_l1Crash.f k s0_0 s0_1 s0_2 a1) rr #[.pointer (some ⟨g, 0, none⟩), .int .i64 a1] (A_g, n_g, c_g) (fun w0 w => Kd.C (Kd.int .u8) w0 A_g n_g s0_0) [box g #[.slice A_g n_g c_g, .int .i64 s0_1, .int .i64 s0_2] 53] (fun q => .agg #[(.slice (q 0).1 rr.1.length (q 0).2), .int .i64 rr.2.1, .int .i64 rr.2.2.1]) (fun q => [row Kd.bool 4 (.slice (q 0).1 rr.1.length (q 0).2) rr.1, box g #[.slice A_g n_g c_g, .int .i64 rr.2.2.2.1, .int .i64 rr.2.2.2.2] 53]) := ⟨fun w0 L w H pc E => by
  simp only [List.cons_append, List.nil_append] at H
  obtain rfl := pc.1
  replace pc := Aside0.mk pc
  replace H := Aside0.mk H
  replace E := Aside0.mk E
  unfold spec_l1Crash.f at E
  go_in
  exact walkM⟩
end Go.Proofs.Ytlpghnhcgljhoaa.Q
end
section
namespace Go.Proofs.Ytlpghnhcgljhoaa.Q
open Go.RowKit Go.Proofs.YtlpghnhcgljhoaaW.PrintWords Go.Proofs.YtlpghnhcgljhoaaW.PrintLast Go.Proofs.Ytlpghnhcgljhoaa.LK Go.Proofs.YtlpghnhcgljhoaaW.PrintMore Go.Proofs.Ytlpghnhcgljhoaa.SP
set_option linter.unusedVariables false
def spec_DrawDevCrash.f (k : Nat) (l : List Int) : Option (List Int × List S43 × Int × Bool × List Bool × Int × Int) :=
  (spec_l1New.f k l).bind fun h => (spec_l1AnyDev.f k l 0 h).bind fun d => (spec_l1Crash.f k l d.2.2.2.2.1 d.2.2.2.2.2 (d.2.1.length : Int)).bind fun x => some (d.1, d.2.1, d.2.2.1, d.2.2.2.1, x.1, x.2.1, x.2.2.1)
set_option maxHeartbeats 8000000 in
set_option maxRecDepth 100000 in
instance spec_DrawDevCrash.con {k : Nat} {A0 : Option Addr} {c0 : Nat} {l0 : List Int} {n0 : Nat} {rr : List Int × List S43 × Int × Bool × List Bool × Int × Int} : Con Try.prog 4 (spec_DrawDevCrash.f k l0) rr #[.slice A0 n0 c0] (fun w => Kd.C (Kd.int .u8) w A0 n0 l0 ∧ l0.length ≤ c0) (fun q => .tuple #[.agg #[.slice (q 0).1 rr.1.length (q 0).2, .slice (q 1).1 rr.2.1.length (q 1).2, .int .i64 rr.2.2.1, .bool rr.2.2.2.1], .agg #[.slice (q 2).1 rr.2.2.2.2.1.length (q 2).2, .int .i64 rr.2.2.2.2.2.1, .int .i64 rr.2.2.2.2.2.2]]) (fun q => [rdv (Kd.int .u8) (.slice (q 0).1 rr.1.length (q 0).2) rr.1, rdv k43 (.slice (q 1).1 rr.2.1.length (q 1).2) rr.2.1, row Kd.bool 4 (.slice (q 2).1 rr.2.2.2.2.1.length (q 2).2) rr.2.2.2.2.1]) := ⟨fun w ⟨p0, p1⟩ E => by
  obtain rfl := p0.1
  replace p0 := Aside0.mk p0
  replace p1 := Aside0.mk p1
  have H := Aside0.mk (Sep.refl w)
  replace E := Aside0.mk E
  unfold spec_DrawDevCrash.f at E
  go_in
  exact walkM⟩
end Go.Proofs.Ytlpghnhcgljhoaa.Q
end
