/- Part 3 of 6 of the proof that the law FnTear returns true at every input. No further condition. -/
import Derived.Test.YtgfadfahbhcllaaMFnTear2
namespace Go.Proofs.Ytgfadfahbhcllaa.Q
open Go.RowKit Go.Proofs.YtgfadfahbhcllaaW.PrintWords Go.Proofs.YtgfadfahbhcllaaW.PrintLast Go.Proofs.YtgfadfahbhcllaaW.PrintMore Go.Proofs.Ytgfadfahbhcllaa.LK
set_option linter.unusedVariables false
set_option linter.unusedSimpArgs false
def specF_T3 : Bool × List (List Nat × List Nat) := (true, [([], []), ([0], [0]), ([1], [1]), ([], []), ([3], [3]), ([], []), ([5], [5]), ([6], [6]), ([7], [7]), ([], []), ([9], [9]), ([10, 2], [10]), ([], []), ([12], [12]), ([13, 11], [13]), ([14], []), ([2, 4, 8, 11, 14, 15], [2, 4, 8, 11, 14, 15]), ([16, 15], [16]), ([17, 17, 0, 1, 2, 3, 4, 5, 6, 7, 8, 9, 10, 11, 12, 13, 14, 15, 16, 17], [17])])
def specF_B3 : List Nat := [0, 1, 3, 0, 8, 0, 32, 96, 224, 0, 512, 1543, 0, 4096, 15879, 32263, 65535, 131071, 262143]
theorem specF_tab3 : rtab .any (opsOf Try.f11 3) = specF_T3 := by kernel_rfl
theorem specF_bits3 : waitsOk specF_T3.2 specF_B3 = true := by kernel_rfl
def specF_T4 : Bool × List (List Nat × List Nat) := (true, [([], []), ([], []), ([1], [1]), ([2, 2], [2]), ([], []), ([4], [4]), ([5, 3], [5]), ([0, 3, 6], [0, 3, 6]), ([7, 6], [7]), ([8, 8, 0, 1, 2, 3, 4, 5, 6, 7, 8], [8])])
def specF_B4 : List Nat := [0, 0, 2, 6, 0, 16, 62, 127, 255, 511]
theorem specF_tab4 : rtab .any (opsOf Try.f11 4) = specF_T4 := by kernel_rfl
theorem specF_bits4 : waitsOk specF_T4.2 specF_B4 = true := by kernel_rfl
def spec_EncodeFrame.f (a0_0 : Int) (a0_1 : Int) (a0_2 : Int) (a0_3 : Int) : Option (List Int) :=
  if (0 ≤ a0_0 ∧ a0_0 ≤ 4294967295) ∧ (0 ≤ a0_2 ∧ a0_2 ≤ 4294967295) ∧ (0 ≤ a0_3 ∧ a0_3 ≤ 4294967295) then some (if 1 ≤ a0_1 ∧ a0_1 ≤ 3 then frameCode a0_0 a0_1 a0_2 a0_3 else []) else none
set_option maxHeartbeats 8000000 in
set_option maxRecDepth 100000 in
theorem specFrame_raw {q kd a b : Int} {kz k1 k2 kc : Nat} {w : World} (hq : 0 ≤ q ∧ q ≤ 4294967295) (ha : 0 ≤ a ∧ a ≤ 4294967295) (hb : 0 ≤ b ∧ b ≤ 4294967295) (hk : 1 ≤ kd ∧ kd ≤ 3)
    (hz : spec_l1Zeros.f kz 40 = some (List.replicate 40 0)) (hc1 : spec_l2Cat.f k1 [P.leB 4 q, [74, 49], [kd % 256, 0], P.leB 4 a, P.leB 4 b, List.replicate 40 0] = some (frameHead q kd a b))
    {c : Int} (hcr : spec_Crc32.f kc (frameHead q kd a b) = some c) (hc : 0 ≤ c ∧ c ≤ 4294967295) {r : List Int} (hc2 : spec_l2Cat.f k2 [frameHead q kd a b, P.leB 4 c, P.leB 4 q] = some r) :
    Calls Try.prog 11 #[.agg #[.int .u32 q, .int .i64 kd, .int .u32 a, .int .u32 b]] w fun e w' => ∃ v0_ : Value, e = .returned (v0_) ∧ Kd.R (Kd.int .u8) 5 w' w.heap.size (fun _ => True) v0_ r ∧ Below w.heap.size w w' := by
  have jk : IntKind.u8.wrap kd = kd % 256 := by rw [IntKind.wrap_u8]
  have k1b : decide (kd < 1) = false := decide_eq_false (by omega)
  have k3b : decide (3 < kd) = false := decide_eq_false (by omega)
  have HQ := Aside0.mk hq
  have HA := Aside0.mk ha
  have HBb := Aside0.mk hb
  have HC := Aside0.mk hc
  have HZ := Aside0.mk hz
  have HC1 := Aside0.mk hc1
  have HC2 := Aside0.mk hc2
  have HCR := Aside0.mk hcr
  obtain ⟨fh, hfh⟩ : ∃ fh, fh = frameHead q kd a b := ⟨_, rfl⟩
  rw [← hfh] at HC1 HC2 HCR
  have HFL := Aside0.mk (show fh.length ≤ 56 from by rw [hfh]; exact Nat.le_refl _)
  have H0 := Aside0.mk (Bx.refl w)
  clear hq ha hb hc hz hc1 hc2 hcr hk hfh
  go_enter Try.func11, Try.ntmps11
  go_wp2_with (first | ((with_reducible refine gate_dst (N := 1) rfl ?_); refine Aside0.out ?_))
  refine Aside0.mk ?_
  refine mk ?hw1 (N := 1) ?hd1 (cs := #[.int .u32 q, .int .i64 kd, .int .u32 a, .int .u32 b]) (t := 27) ?hr1 ?_
  case hd1 => rfl
  case hw1 => rfl
  case hr1 => first | (go_simp; done) | (go_simp; rfl)
  intro g1 hg1_ w101 hb1 hB1
  have H102 := Aside0.mk (H0.out.new hg1_ hb1 hB1)
  clear hg1_ hb1 hB1 H0
  have hk1 : w101.cell? ⟨g1, 1, none⟩ = some (.int .i64 kd) := (blk_cell H102.out.gt0 1).trans rfl
  go_wp2
  clear hk1
  have H104 := Aside0.mk H102.out.drew
  refine start_ (n := 19) (S := fun w' => True) (ds := []) #[false, false, false, false, false, false, false, false, false, false, false, false, false, false, false, false, false, false, false] (by kernel_rfl) rfl rfl trivial (fun hHeld => ?_)
  clear H102
  generalize w101.drew = w103 at H104 hHeld ⊢
  refine with_tabW specF_tab3 specF_bits3 (fun HT_ HW_ => ?_)
  refine pure_ (i := 0) (N := some 13) (v := ?_) (a' := ?_) #[true, false, false, false, false, false, false, false, false, false, false, false, false, false, false, false, false, false, false] rfl rfl (any_of HT_.out (by kernel_rfl)) (fun _ _ _ h => h) (Or.inl ⟨by rfl, ?_⟩) ?_ ?_
  rotate_left
  · intro w'
    go_simp
    with_reducible rfl
  rotate_left
  · simp only [Act.put, List.setIfInBounds_toArray, List.set_cons_zero, List.set_cons_succ, i64_w, i32_w]
    rfl
  refine pure_ (i := 5) (N := some 18) (v := ?_) (a' := ?_) #[true, false, false, false, false, true, false, false, false, false, false, false, false, false, false, false, false, false, false] rfl rfl (any_of HT_.out (by kernel_rfl)) (fun _ _ _ h => h) (Or.inl ⟨by rfl, ?_⟩) ?_ ?_
  rotate_left
  · intro w'
    go_simp
    with_reducible rfl
  rotate_left
  · simp only [Act.put, List.setIfInBounds_toArray, List.set_cons_zero, List.set_cons_succ, i64_w, i32_w]
    rfl
  refine pure_ (i := 9) (N := some 22) (v := ?_) (a' := ?_) #[true, false, false, false, false, true, false, false, false, true, false, false, false, false, false, false, false, false, false] rfl rfl (any_of HT_.out (by kernel_rfl)) (fun _ _ _ h => h) (Or.inl ⟨by rfl, ?_⟩) ?_ ?_
  rotate_left
  · intro w'
    go_simp
    with_reducible rfl
  rotate_left
  · simp only [Act.put, List.setIfInBounds_toArray, List.set_cons_zero, List.set_cons_succ, i64_w, i32_w]
    rfl
  refine pure_ (i := 12) (N := some 25) (v := ?_) (a' := ?_) #[true, false, false, false, false, true, false, false, false, true, false, false, true, false, false, false, false, false, false] rfl rfl (any_of HT_.out (by kernel_rfl)) (fun _ _ _ h => h) (Or.inl ⟨by rfl, ?_⟩) ?_ ?_
  rotate_left
  · intro w'
    go_simp
    with_reducible rfl
  rotate_left
  · simp only [Act.put, List.setIfInBounds_toArray, List.set_cons_zero, List.set_cons_succ, i64_w, i32_w]
    rfl
  refine inv_at [1, 2, 3, 4, 6, 7, 8, 10, 11, 13, 14, 15, 16, 17, 18] (fun a0_ b_ a_ w' => ∃ (v2 : Value) (v3 : Value) (m4 : Value) (v8 : Value) (v11 : Value) (v14 : Value) (v15 : Value) (v16 : Value) (v17 : Value) (m18 : Value), a_ = putSel a0_ b_ [(1, 14, .int .u32 q), (2, 15, v2), (3, 16, v3), (4, 17, m4), (6, 19, .int .i64 kd), (7, 20, .int .u8 (kd % 256)), (8, 21, v8), (10, 23, .int .u32 a), (11, 24, v11), (13, 26, .int .u32 b), (14, 27, v14), (15, 28, v15), (16, 29, v16), (17, 30, v17), (18, 3, m18)] ∧ Bx w [(g1, #[.int .u32 q, .int .i64 kd, .int .u32 a, .int .u32 b], 27)] w' ∧ (b_ 2 = true → RdP w' v2 (P.leB 4 q)) ∧ (b_ 3 = true → LitP w.heap.size w' v3 [74, 49]) ∧ (b_ 4 = true → m4 = v3 ∧ RdP w' m4 [74, 49]) ∧ (b_ 8 = true → RdP w' v8 [kd % 256, 0]) ∧ (b_ 11 = true → RdP w' v11 (P.leB 4 a)) ∧ (b_ 14 = true → RdP w' v14 (P.leB 4 b)) ∧ (b_ 15 = true → RdP w' v15 (List.replicate 40 0)) ∧ (b_ 16 = true → RowsP w' v16 [P.leB 4 q, [74, 49], [kd % 256, 0], P.leB 4 a, P.leB 4 b, List.replicate 40 0]) ∧ (b_ 17 = true → RdP w' v17 fh) ∧ (b_ 18 = true → m18 = v17)) HT_.out HW_.out (by kernel_rfl) (by kernel_rfl) ?_ ?_ ?_
  · exact ⟨.bool false, .bool false, .bool false, .bool false, .bool false, .bool false, .bool false, .bool false, .bool false, .bool false, by simp only [putSel, Bool.false_eq_true, if_false], H104.out, fun h_ => absurd h_ (by decide), fun h_ => absurd h_ (by decide), fun h_ => absurd h_ (by decide), fun h_ => absurd h_ (by decide), fun h_ => absurd h_ (by decide), fun h_ => absurd h_ (by decide), fun h_ => absurd h_ (by decide), fun h_ => absurd h_ (by decide), fun h_ => absurd h_ (by decide), fun h_ => absurd h_ (by decide)⟩
  · skip
    clear H104
    refine steps_cons ?_ ?_
    · rintro b_ a_ w' ⟨v2, v3, m4, v8, v11, v14, v15, v16, v17, m18, ha, QX, Q2, Q3, Q4, Q8, Q11, Q14, Q15, Q16, Q17, Q18⟩ hbo_ hon hoff
      refine ⟨_, rfl, fun K hK => ?_⟩
      have e13 : a_.tmps[13]? = some (.pointer (some ⟨g1, 0, none⟩)) := by rw [ha]; exact (putSel_off rfl).trans rfl
      replace ha := Aside0.mk ha
      have HX := Aside0.mk QX
      clear QX
      have hc_ : w'.cell? ⟨g1, 0, none⟩ = some (.int .u32 q) := (blk_cell HX.out.gt0 0).trans rfl
      refine value_ (w1 := w') (v := .int .u32 q) (by rfl) rfl ?_ ?_
      · go_simp
        (try simp only [i64_w])
        try rfl
      refine hK.out _ _ ⟨v2, v3, m4, v8, v11, v14, v15, v16, v17, m18, (by rw [ha.out]; exact putSel_upk 0 hbo_ rfl rfl rfl), HX.out, fun h0_ => absurd ((hoff 2 (by kernel_rfl)).symm.trans h0_) (by decide), Q3, Q4, Q8, fun h0_ => absurd ((hoff 11 (by kernel_rfl)).symm.trans h0_) (by decide), fun h0_ => absurd ((hoff 14 (by kernel_rfl)).symm.trans h0_) (by decide), fun h0_ => absurd ((hoff 15 (by kernel_rfl)).symm.trans h0_) (by decide), fun h0_ => absurd ((hoff 16 (by kernel_rfl)).symm.trans h0_) (by decide), fun h0_ => absurd ((hoff 17 (by kernel_rfl)).symm.trans h0_) (by decide), fun h0_ => absurd ((hoff 18 (by kernel_rfl)).symm.trans h0_) (by decide)⟩
    refine steps_cons ?_ ?_
    · rintro b_ a_ w' ⟨v2, v3, m4, v8, v11, v14, v15, v16, v17, m18, ha, QX, Q2, Q3, Q4, Q8, Q11, Q14, Q15, Q16, Q17, Q18⟩ hbo_ hon hoff
      refine ⟨_, rfl, fun K hK => ?_⟩
      have e14 : a_.tmps[14]? = some (.int .u32 q) := by rw [ha]; exact putSel_on (e := (1, 14, .int .u32 q)) 0 rfl rfl (hon 1 (by kernel_rfl)) rfl
      replace ha := Aside0.mk ha
      have HX := Aside0.mk QX
      clear QX
      refine goes_ Try.func48 (by kernel_rfl) rfl #[.int .u32 q] (by rfl) rfl rfl (by first | (simp only [List.map_toArray, List.map_cons, List.map_nil, Act.eval, Array.getD_eq_getD_getElem?, Option.getD_some, e14]; done) | (simp only [List.map_toArray, List.map_cons, List.map_nil, Act.eval, Array.getD_eq_getD_getElem?, Option.getD_some, e14]; rfl)) ?_
      refine (spec_l2Four.calls q (P.leB 4 q) _ (P.four_is q HQ.out)).mono ?_
      rintro e w2_ ⟨vn_, rfl, ho, hb_⟩
      refine ⟨_, rfl, ?_⟩
      replace HX := Aside0.mk (HX.out.step hb_)
      refine hK.out _ _ ⟨vn_, v3, m4, v8, v11, v14, v15, v16, v17, m18, (by rw [ha.out]; exact putSel_upk 1 hbo_ rfl rfl rfl), HX.out, fun _ => RdP.of_R ho, fun h0_ => (Q3 h0_).below hb_, fun h0_ => ⟨(Q4 h0_).1, (Q4 h0_).2.below hb_⟩, fun h0_ => (Q8 h0_).below hb_, fun h0_ => absurd ((hoff 11 (by kernel_rfl)).symm.trans h0_) (by decide), fun h0_ => absurd ((hoff 14 (by kernel_rfl)).symm.trans h0_) (by decide), fun h0_ => absurd ((hoff 15 (by kernel_rfl)).symm.trans h0_) (by decide), fun h0_ => absurd ((hoff 16 (by kernel_rfl)).symm.trans h0_) (by decide), fun h0_ => absurd ((hoff 17 (by kernel_rfl)).symm.trans h0_) (by decide), fun h0_ => absurd ((hoff 18 (by kernel_rfl)).symm.trans h0_) (by decide)⟩
    refine steps_cons ?_ ?_
    · rintro b_ a_ w' ⟨v2, v3, m4, v8, v11, v14, v15, v16, v17, m18, ha, QX, Q2, Q3, Q4, Q8, Q11, Q14, Q15, Q16, Q17, Q18⟩ hbo_ hon hoff
      refine ⟨_, rfl, fun K hK => ?_⟩
      replace ha := Aside0.mk ha
      have HX := Aside0.mk QX
      clear QX
      refine Kd.R_lit_step (Kd.int .u8) _ 5 ?hg (N := 16) ?hd (xs := ([74, 49] : List Int)) (inner := [.int .u8 74, .int .u8 49]) (ok := fun _ => True) (okp := fun _ => True) ?hr ?hp (fun _ hk => hk) trivial (Below.refl _ _) (Nat.le_refl _) (by simp) ?_; (case hd => rfl); (case hg => rfl); (case hr => first | (go_simp; done) | (go_simp; rfl)); (case hp => exact (Reps.one (show Kd.M (Kd.int .u8) _ _ _ _ [_] from rfl) (Reps.one (show Kd.M (Kd.int .u8) _ _ _ _ [_] from rfl) (Reps.none _ _))))
      intro vn_ w2_ ho hb_ hg_ hnew_
      clear hg_ hnew_
      have HBW := Aside0.mk HX.out.below.size
      replace HX := Aside0.mk (HX.out.step hb_)
      refine hK.out _ _ ⟨v2, vn_, m4, v8, v11, v14, v15, v16, v17, m18, (by rw [ha.out]; exact putSel_upk 2 hbo_ rfl rfl rfl), HX.out, fun h0_ => (Q2 h0_).below hb_, fun _ => LitP.of_R ho (by decide) HBW.out, fun h0_ => absurd ((hoff 4 (by kernel_rfl)).symm.trans h0_) (by decide), fun h0_ => (Q8 h0_).below hb_, fun h0_ => (Q11 h0_).below hb_, fun h0_ => (Q14 h0_).below hb_, fun h0_ => (Q15 h0_).below hb_, fun h0_ => absurd ((hoff 16 (by kernel_rfl)).symm.trans h0_) (by decide), fun h0_ => absurd ((hoff 17 (by kernel_rfl)).symm.trans h0_) (by decide), fun h0_ => absurd ((hoff 18 (by kernel_rfl)).symm.trans h0_) (by decide)⟩
    refine steps_cons ?_ ?_
    · rintro b_ a_ w' ⟨v2, v3, m4, v8, v11, v14, v15, v16, v17, m18, ha, QX, Q2, Q3, Q4, Q8, Q11, Q14, Q15, Q16, Q17, Q18⟩ hbo_ hon hoff
      refine ⟨_, rfl, fun K hK => ?_⟩
      have e16 : a_.tmps[16]? = some (v3) := by rw [ha]; exact putSel_on (e := (3, 16, v3)) 2 rfl rfl (hon 3 (by kernel_rfl)) rfl
      replace ha := Aside0.mk ha
      have HX := Aside0.mk QX
      clear QX
      obtain ⟨g_, c_, tl_, fr_, ev_, hl_, hm_, hg_, hh_⟩ := Q3 (hon 3 (by kernel_rfl))
      obtain ⟨w2_, hrun_, hS_, fr2_, hh2_⟩ := conv_mark (P := Try.prog) (t := 25) (n := 2) (c := c_) Try.underlying25 Try.underlying5 hh_
      rw [ev_] at e16
      refine value_ (w1 := w2_) (v := v3) (by rfl) rfl ?_ ?_
      · rw [ev_]
        go_simp
        try (first | exact hrun_ | (rw [hrun_]; rfl) | rfl)
      replace HX := Aside0.mk (Bx_mark HX.out hS_ hg_ hh_ (by intro b hb; simp only [List.mem_cons, List.not_mem_nil, or_false] at hb; rcases hb with rfl; exact (show 27 ≠ 5 from by decide)))
      refine hK.out _ _ ⟨v2, v3, v3, v8, v11, v14, v15, v16, v17, m18, (by rw [ha.out]; exact putSel_upk 3 hbo_ rfl rfl rfl), HX.out, fun h0_ => (Q2 h0_).cells (cells_of_mark hS_ hh_ hh2_), fun h0_ => LitP.mark (Q3 h0_) hS_ hh_ hh2_, fun _ => ⟨rfl, (LitP.mark (Q3 (hon 3 (by kernel_rfl))) hS_ hh_ hh2_).rd⟩, fun h0_ => (Q8 h0_).cells (cells_of_mark hS_ hh_ hh2_), fun h0_ => (Q11 h0_).cells (cells_of_mark hS_ hh_ hh2_), fun h0_ => (Q14 h0_).cells (cells_of_mark hS_ hh_ hh2_), fun h0_ => (Q15 h0_).cells (cells_of_mark hS_ hh_ hh2_), fun h0_ => absurd ((hoff 16 (by kernel_rfl)).symm.trans h0_) (by decide), fun h0_ => absurd ((hoff 17 (by kernel_rfl)).symm.trans h0_) (by decide), fun h0_ => absurd ((hoff 18 (by kernel_rfl)).symm.trans h0_) (by decide)⟩
    refine steps_cons ?_ ?_
    · rintro b_ a_ w' ⟨v2, v3, m4, v8, v11, v14, v15, v16, v17, m18, ha, QX, Q2, Q3, Q4, Q8, Q11, Q14, Q15, Q16, Q17, Q18⟩ hbo_ hon hoff
      refine ⟨_, rfl, fun K hK => ?_⟩
      have e18 : a_.tmps[18]? = some (.pointer (some ⟨g1, 1, none⟩)) := by rw [ha]; exact (putSel_off rfl).trans rfl
      replace ha := Aside0.mk ha
      have HX := Aside0.mk QX
      clear QX
      have hc_ : w'.cell? ⟨g1, 1, none⟩ = some (.int .i64 kd) := (blk_cell HX.out.gt0 1).trans rfl
      refine value_ (w1 := w') (v := .int .i64 kd) (by rfl) rfl ?_ ?_
      · go_simp
        (try simp only [i64_w])
        try rfl
      refine hK.out _ _ ⟨v2, v3, m4, v8, v11, v14, v15, v16, v17, m18, (by rw [ha.out]; exact putSel_upk 4 hbo_ rfl rfl rfl), HX.out, Q2, Q3, Q4, fun h0_ => absurd ((hoff 8 (by kernel_rfl)).symm.trans h0_) (by decide), Q11, Q14, Q15, fun h0_ => absurd ((hoff 16 (by kernel_rfl)).symm.trans h0_) (by decide), fun h0_ => absurd ((hoff 17 (by kernel_rfl)).symm.trans h0_) (by decide), fun h0_ => absurd ((hoff 18 (by kernel_rfl)).symm.trans h0_) (by decide)⟩
    refine steps_cons ?_ ?_
    · rintro b_ a_ w' ⟨v2, v3, m4, v8, v11, v14, v15, v16, v17, m18, ha, QX, Q2, Q3, Q4, Q8, Q11, Q14, Q15, Q16, Q17, Q18⟩ hbo_ hon hoff
      refine ⟨_, rfl, fun K hK => ?_⟩
      have e19 : a_.tmps[19]? = some (.int .i64 kd) := by rw [ha]; exact putSel_on (e := (6, 19, .int .i64 kd)) 4 rfl rfl (hon 6 (by kernel_rfl)) rfl
      replace ha := Aside0.mk ha
      have HX := Aside0.mk QX
      clear QX
      refine value_ (w1 := w') (v := .int .u8 (kd % 256)) (by rfl) rfl ?_ ?_
      · go_simp
        (try simp only [i64_w])
        try rfl
      refine hK.out _ _ ⟨v2, v3, m4, v8, v11, v14, v15, v16, v17, m18, (by rw [ha.out]; exact putSel_upk 5 hbo_ rfl rfl rfl), HX.out, Q2, Q3, Q4, fun h0_ => absurd ((hoff 8 (by kernel_rfl)).symm.trans h0_) (by decide), Q11, Q14, Q15, fun h0_ => absurd ((hoff 16 (by kernel_rfl)).symm.trans h0_) (by decide), fun h0_ => absurd ((hoff 17 (by kernel_rfl)).symm.trans h0_) (by decide), fun h0_ => absurd ((hoff 18 (by kernel_rfl)).symm.trans h0_) (by decide)⟩
    refine steps_cons ?_ ?_
    · rintro b_ a_ w' ⟨v2, v3, m4, v8, v11, v14, v15, v16, v17, m18, ha, QX, Q2, Q3, Q4, Q8, Q11, Q14, Q15, Q16, Q17, Q18⟩ hbo_ hon hoff
      refine ⟨_, rfl, fun K hK => ?_⟩
      have e20 : a_.tmps[20]? = some (.int .u8 (kd % 256)) := by rw [ha]; exact putSel_on (e := (7, 20, .int .u8 (kd % 256))) 5 rfl rfl (hon 7 (by kernel_rfl)) rfl
      replace ha := Aside0.mk ha
      have HX := Aside0.mk QX
      clear QX
      refine Kd.R_lit_step (Kd.int .u8) _ 5 ?hg (N := 21) ?hd (xs := ([kd % 256, 0] : List Int)) (inner := [.int .u8 (kd % 256), .int .u8 0]) (ok := fun _ => True) (okp := fun _ => True) ?hr ?hp (fun _ hk => hk) trivial (Below.refl _ _) (Nat.le_refl _) (by simp) ?_; (case hd => rfl); (case hg => rfl); (case hr => first | (go_simp; done) | (go_simp; rfl)); (case hp => exact (Reps.one (show Kd.M (Kd.int .u8) _ _ _ _ [_] from rfl) (Reps.one (show Kd.M (Kd.int .u8) _ _ _ _ [_] from rfl) (Reps.none _ _))))
      intro vn_ w2_ ho hb_ hg_ hnew_
      clear hg_ hnew_
      have HBW := Aside0.mk HX.out.below.size
      replace HX := Aside0.mk (HX.out.step hb_)
      refine hK.out _ _ ⟨v2, v3, m4, vn_, v11, v14, v15, v16, v17, m18, (by rw [ha.out]; exact putSel_upk 6 hbo_ rfl rfl rfl), HX.out, fun h0_ => (Q2 h0_).below hb_, fun h0_ => (Q3 h0_).below hb_, fun h0_ => ⟨(Q4 h0_).1, (Q4 h0_).2.below hb_⟩, fun _ => RdP.of_R ho, fun h0_ => (Q11 h0_).below hb_, fun h0_ => (Q14 h0_).below hb_, fun h0_ => (Q15 h0_).below hb_, fun h0_ => absurd ((hoff 16 (by kernel_rfl)).symm.trans h0_) (by decide), fun h0_ => absurd ((hoff 17 (by kernel_rfl)).symm.trans h0_) (by decide), fun h0_ => absurd ((hoff 18 (by kernel_rfl)).symm.trans h0_) (by decide)⟩
    refine steps_cons ?_ ?_
    · rintro b_ a_ w' ⟨v2, v3, m4, v8, v11, v14, v15, v16, v17, m18, ha, QX, Q2, Q3, Q4, Q8, Q11, Q14, Q15, Q16, Q17, Q18⟩ hbo_ hon hoff
      refine ⟨_, rfl, fun K hK => ?_⟩
      have e22 : a_.tmps[22]? = some (.pointer (some ⟨g1, 2, none⟩)) := by rw [ha]; exact (putSel_off rfl).trans rfl
      replace ha := Aside0.mk ha
      have HX := Aside0.mk QX
      clear QX
      have hc_ : w'.cell? ⟨g1, 2, none⟩ = some (.int .u32 a) := (blk_cell HX.out.gt0 2).trans rfl
      refine value_ (w1 := w') (v := .int .u32 a) (by rfl) rfl ?_ ?_
      · go_simp
        (try simp only [i64_w])
        try rfl
      refine hK.out _ _ ⟨v2, v3, m4, v8, v11, v14, v15, v16, v17, m18, (by rw [ha.out]; exact putSel_upk 7 hbo_ rfl rfl rfl), HX.out, Q2, Q3, Q4, Q8, fun h0_ => absurd ((hoff 11 (by kernel_rfl)).symm.trans h0_) (by decide), fun h0_ => absurd ((hoff 14 (by kernel_rfl)).symm.trans h0_) (by decide), fun h0_ => absurd ((hoff 15 (by kernel_rfl)).symm.trans h0_) (by decide), fun h0_ => absurd ((hoff 16 (by kernel_rfl)).symm.trans h0_) (by decide), fun h0_ => absurd ((hoff 17 (by kernel_rfl)).symm.trans h0_) (by decide), fun h0_ => absurd ((hoff 18 (by kernel_rfl)).symm.trans h0_) (by decide)⟩
    refine steps_cons ?_ ?_
    · rintro b_ a_ w' ⟨v2, v3, m4, v8, v11, v14, v15, v16, v17, m18, ha, QX, Q2, Q3, Q4, Q8, Q11, Q14, Q15, Q16, Q17, Q18⟩ hbo_ hon hoff
      refine ⟨_, rfl, fun K hK => ?_⟩
      have e23 : a_.tmps[23]? = some (.int .u32 a) := by rw [ha]; exact putSel_on (e := (10, 23, .int .u32 a)) 7 rfl rfl (hon 10 (by kernel_rfl)) rfl
      replace ha := Aside0.mk ha
      have HX := Aside0.mk QX
      clear QX
      refine goes_ Try.func48 (by kernel_rfl) rfl #[.int .u32 a] (by rfl) rfl rfl (by first | (simp only [List.map_toArray, List.map_cons, List.map_nil, Act.eval, Array.getD_eq_getD_getElem?, Option.getD_some, e23]; done) | (simp only [List.map_toArray, List.map_cons, List.map_nil, Act.eval, Array.getD_eq_getD_getElem?, Option.getD_some, e23]; rfl)) ?_
      refine (spec_l2Four.calls a (P.leB 4 a) _ (P.four_is a HA.out)).mono ?_
      rintro e w2_ ⟨vn_, rfl, ho, hb_⟩
      refine ⟨_, rfl, ?_⟩
      replace HX := Aside0.mk (HX.out.step hb_)
      refine hK.out _ _ ⟨v2, v3, m4, v8, vn_, v14, v15, v16, v17, m18, (by rw [ha.out]; exact putSel_upk 8 hbo_ rfl rfl rfl), HX.out, fun h0_ => (Q2 h0_).below hb_, fun h0_ => (Q3 h0_).below hb_, fun h0_ => ⟨(Q4 h0_).1, (Q4 h0_).2.below hb_⟩, fun h0_ => (Q8 h0_).below hb_, fun _ => RdP.of_R ho, fun h0_ => absurd ((hoff 14 (by kernel_rfl)).symm.trans h0_) (by decide), fun h0_ => absurd ((hoff 15 (by kernel_rfl)).symm.trans h0_) (by decide), fun h0_ => absurd ((hoff 16 (by kernel_rfl)).symm.trans h0_) (by decide), fun h0_ => absurd ((hoff 17 (by kernel_rfl)).symm.trans h0_) (by decide), fun h0_ => absurd ((hoff 18 (by kernel_rfl)).symm.trans h0_) (by decide)⟩
    refine steps_cons ?_ ?_
    · rintro b_ a_ w' ⟨v2, v3, m4, v8, v11, v14, v15, v16, v17, m18, ha, QX, Q2, Q3, Q4, Q8, Q11, Q14, Q15, Q16, Q17, Q18⟩ hbo_ hon hoff
      refine ⟨_, rfl, fun K hK => ?_⟩
      have e25 : a_.tmps[25]? = some (.pointer (some ⟨g1, 3, none⟩)) := by rw [ha]; exact (putSel_off rfl).trans rfl
      replace ha := Aside0.mk ha
      have HX := Aside0.mk QX
      clear QX
      have hc_ : w'.cell? ⟨g1, 3, none⟩ = some (.int .u32 b) := (blk_cell HX.out.gt0 3).trans rfl
      refine value_ (w1 := w') (v := .int .u32 b) (by rfl) rfl ?_ ?_
      · go_simp
        (try simp only [i64_w])
        try rfl
      refine hK.out _ _ ⟨v2, v3, m4, v8, v11, v14, v15, v16, v17, m18, (by rw [ha.out]; exact putSel_upk 9 hbo_ rfl rfl rfl), HX.out, Q2, Q3, Q4, Q8, Q11, fun h0_ => absurd ((hoff 14 (by kernel_rfl)).symm.trans h0_) (by decide), fun h0_ => absurd ((hoff 15 (by kernel_rfl)).symm.trans h0_) (by decide), fun h0_ => absurd ((hoff 16 (by kernel_rfl)).symm.trans h0_) (by decide), fun h0_ => absurd ((hoff 17 (by kernel_rfl)).symm.trans h0_) (by decide), fun h0_ => absurd ((hoff 18 (by kernel_rfl)).symm.trans h0_) (by decide)⟩
    refine steps_cons ?_ ?_
    · rintro b_ a_ w' ⟨v2, v3, m4, v8, v11, v14, v15, v16, v17, m18, ha, QX, Q2, Q3, Q4, Q8, Q11, Q14, Q15, Q16, Q17, Q18⟩ hbo_ hon hoff
      refine ⟨_, rfl, fun K hK => ?_⟩
      have e26 : a_.tmps[26]? = some (.int .u32 b) := by rw [ha]; exact putSel_on (e := (13, 26, .int .u32 b)) 9 rfl rfl (hon 13 (by kernel_rfl)) rfl
      replace ha := Aside0.mk ha
      have HX := Aside0.mk QX
      clear QX
      refine goes_ Try.func48 (by kernel_rfl) rfl #[.int .u32 b] (by rfl) rfl rfl (by first | (simp only [List.map_toArray, List.map_cons, List.map_nil, Act.eval, Array.getD_eq_getD_getElem?, Option.getD_some, e26]; done) | (simp only [List.map_toArray, List.map_cons, List.map_nil, Act.eval, Array.getD_eq_getD_getElem?, Option.getD_some, e26]; rfl)) ?_
      refine (spec_l2Four.calls b (P.leB 4 b) _ (P.four_is b HBb.out)).mono ?_
      rintro e w2_ ⟨vn_, rfl, ho, hb_⟩
      refine ⟨_, rfl, ?_⟩
      replace HX := Aside0.mk (HX.out.step hb_)
      refine hK.out _ _ ⟨v2, v3, m4, v8, v11, vn_, v15, v16, v17, m18, (by rw [ha.out]; exact putSel_upk 10 hbo_ rfl rfl rfl), HX.out, fun h0_ => (Q2 h0_).below hb_, fun h0_ => (Q3 h0_).below hb_, fun h0_ => ⟨(Q4 h0_).1, (Q4 h0_).2.below hb_⟩, fun h0_ => (Q8 h0_).below hb_, fun h0_ => (Q11 h0_).below hb_, fun _ => RdP.of_R ho, fun h0_ => absurd ((hoff 15 (by kernel_rfl)).symm.trans h0_) (by decide), fun h0_ => absurd ((hoff 16 (by kernel_rfl)).symm.trans h0_) (by decide), fun h0_ => absurd ((hoff 17 (by kernel_rfl)).symm.trans h0_) (by decide), fun h0_ => absurd ((hoff 18 (by kernel_rfl)).symm.trans h0_) (by decide)⟩
    refine steps_cons ?_ ?_
    · rintro b_ a_ w' ⟨v2, v3, m4, v8, v11, v14, v15, v16, v17, m18, ha, QX, Q2, Q3, Q4, Q8, Q11, Q14, Q15, Q16, Q17, Q18⟩ hbo_ hon hoff
      refine ⟨_, rfl, fun K hK => ?_⟩
      replace ha := Aside0.mk ha
      have HX := Aside0.mk QX
      clear QX
      refine goes_ Try.func49 (by kernel_rfl) rfl #[.int .i64 40] (by rfl) rfl rfl (by first | (simp only [List.map_toArray, List.map_cons, List.map_nil, Act.eval, Array.getD_eq_getD_getElem?, Option.getD_some, List.map_nil]; done) | (simp only [List.map_toArray, List.map_cons, List.map_nil, Act.eval, Array.getD_eq_getD_getElem?, Option.getD_some, List.map_nil]; rfl)) ?_
      refine (spec_l1Zeros.calls kz 40 (List.replicate 40 0) _ HZ.out).mono ?_
      rintro e w2_ ⟨vn_, rfl, ho, hb_⟩
      refine ⟨_, rfl, ?_⟩
      replace HX := Aside0.mk (HX.out.step hb_)
      refine hK.out _ _ ⟨v2, v3, m4, v8, v11, v14, vn_, v16, v17, m18, (by rw [ha.out]; exact putSel_upk 11 hbo_ rfl rfl rfl), HX.out, fun h0_ => (Q2 h0_).below hb_, fun h0_ => (Q3 h0_).below hb_, fun h0_ => ⟨(Q4 h0_).1, (Q4 h0_).2.below hb_⟩, fun h0_ => (Q8 h0_).below hb_, fun h0_ => (Q11 h0_).below hb_, fun h0_ => (Q14 h0_).below hb_, fun _ => RdP.of_R ho, fun h0_ => absurd ((hoff 16 (by kernel_rfl)).symm.trans h0_) (by decide), fun h0_ => absurd ((hoff 17 (by kernel_rfl)).symm.trans h0_) (by decide), fun h0_ => absurd ((hoff 18 (by kernel_rfl)).symm.trans h0_) (by decide)⟩
    refine steps_cons ?_ ?_
    · rintro b_ a_ w' ⟨v2, v3, m4, v8, v11, v14, v15, v16, v17, m18, ha, QX, Q2, Q3, Q4, Q8, Q11, Q14, Q15, Q16, Q17, Q18⟩ hbo_ hon hoff
      refine ⟨_, rfl, fun K hK => ?_⟩
      have e15 : a_.tmps[15]? = some (v2) := by rw [ha]; exact putSel_on (e := (2, 15, v2)) 1 rfl rfl (hon 2 (by kernel_rfl)) rfl
      have e17 : a_.tmps[17]? = some (m4) := by rw [ha]; exact putSel_on (e := (4, 17, m4)) 3 rfl rfl (hon 4 (by kernel_rfl)) rfl
      have e21 : a_.tmps[21]? = some (v8) := by rw [ha]; exact putSel_on (e := (8, 21, v8)) 6 rfl rfl (hon 8 (by kernel_rfl)) rfl
      have e24 : a_.tmps[24]? = some (v11) := by rw [ha]; exact putSel_on (e := (11, 24, v11)) 8 rfl rfl (hon 11 (by kernel_rfl)) rfl
      have e27 : a_.tmps[27]? = some (v14) := by rw [ha]; exact putSel_on (e := (14, 27, v14)) 10 rfl rfl (hon 14 (by kernel_rfl)) rfl
      have e28 : a_.tmps[28]? = some (v15) := by rw [ha]; exact putSel_on (e := (15, 28, v15)) 11 rfl rfl (hon 15 (by kernel_rfl)) rfl
      replace ha := Aside0.mk ha
      have HX := Aside0.mk QX
      clear QX
      obtain ⟨A0_, c0_, ev0_, hl0_, hC0_⟩ := Q2 (hon 2 (by kernel_rfl))
      rw [ev0_] at e15
      obtain ⟨A1_, c1_, ev1_, hl1_, hC1_⟩ := (Q4 (hon 4 (by kernel_rfl))).2
      rw [ev1_] at e17
      obtain ⟨A2_, c2_, ev2_, hl2_, hC2_⟩ := Q8 (hon 8 (by kernel_rfl))
      rw [ev2_] at e21
      obtain ⟨A3_, c3_, ev3_, hl3_, hC3_⟩ := Q11 (hon 11 (by kernel_rfl))
      rw [ev3_] at e24
      obtain ⟨A4_, c4_, ev4_, hl4_, hC4_⟩ := Q14 (hon 14 (by kernel_rfl))
      rw [ev4_] at e27
      obtain ⟨A5_, c5_, ev5_, hl5_, hC5_⟩ := Q15 (hon 15 (by kernel_rfl))
      rw [ev5_] at e28
      refine Kd.N_lit_step (Kd.slice 5 (Kd.int .u8)) _ 25 ?hg (N' := 29) ?hd (xs := ([P.leB 4 q, [74, 49], [kd % 256, 0], P.leB 4 a, P.leB 4 b, List.replicate 40 0] : List (List Int))) (inner := [.slice A0_ (P.leB 4 q).length c0_, .slice A1_ ([74, 49]).length c1_, .slice A2_ ([kd % 256, 0]).length c2_, .slice A3_ (P.leB 4 a).length c3_, .slice A4_ (P.leB 4 b).length c4_, .slice A5_ (List.replicate 40 0).length c5_]) (ok := fun _ => True) (okp := fun _ => True) ?hr ?hp (fun _ hk => hk) trivial (Below.refl _ _) (Nat.le_refl _) (by simp) ?_; (case hd => rfl); (case hg => rfl); (case hr => first | (go_simp; done) | (go_simp; rfl)); (case hp => exact (Reps.one (RdP.FK hl0_ hC0_) (Reps.one (RdP.FK hl1_ hC1_) (Reps.one (RdP.FK hl2_ hC2_) (Reps.one (RdP.FK hl3_ hC3_) (Reps.one (RdP.FK hl4_ hC4_) (Reps.one (RdP.FK hl5_ hC5_) (Reps.none _ _))))))))
      intro vn_ w2_ ho hb_ hg_ hnew_
      clear hg_ hnew_
      replace HX := Aside0.mk (HX.out.step hb_)
      refine hK.out _ _ ⟨v2, v3, m4, v8, v11, v14, v15, vn_, v17, m18, (by rw [ha.out]; exact putSel_upk 12 hbo_ rfl rfl rfl), HX.out, fun h0_ => (Q2 h0_).below hb_, fun h0_ => (Q3 h0_).below hb_, fun h0_ => ⟨(Q4 h0_).1, (Q4 h0_).2.below hb_⟩, fun h0_ => (Q8 h0_).below hb_, fun h0_ => (Q11 h0_).below hb_, fun h0_ => (Q14 h0_).below hb_, fun h0_ => (Q15 h0_).below hb_, fun _ => RowsP.of_N ho, fun h0_ => absurd ((hoff 17 (by kernel_rfl)).symm.trans h0_) (by decide), fun h0_ => absurd ((hoff 18 (by kernel_rfl)).symm.trans h0_) (by decide)⟩
    refine steps_cons ?_ ?_
    · rintro b_ a_ w' ⟨v2, v3, m4, v8, v11, v14, v15, v16, v17, m18, ha, QX, Q2, Q3, Q4, Q8, Q11, Q14, Q15, Q16, Q17, Q18⟩ hbo_ hon hoff
      refine ⟨_, rfl, fun K hK => ?_⟩
      have e29 : a_.tmps[29]? = some (v16) := by rw [ha]; exact putSel_on (e := (16, 29, v16)) 12 rfl rfl (hon 16 (by kernel_rfl)) rfl
      replace ha := Aside0.mk ha
      have HX := Aside0.mk QX
      clear QX
      obtain ⟨A_, c_, ev_, hl_, hC_⟩ := Q16 (hon 16 (by kernel_rfl))
      rw [ev_] at e29
      refine goes_ Try.func47 (by kernel_rfl) rfl #[.slice A_ ([P.leB 4 q, [74, 49], [kd % 256, 0], P.leB 4 a, P.leB 4 b, List.replicate 40 0]).length c_] (by rfl) rfl rfl (by first | (simp only [List.map_toArray, List.map_cons, List.map_nil, Act.eval, Array.getD_eq_getD_getElem?, Option.getD_some, e29]; done) | (simp only [List.map_toArray, List.map_cons, List.map_nil, Act.eval, Array.getD_eq_getD_getElem?, Option.getD_some, e29]; rfl)) ?_
      refine (spec_l2Cat.calls k1 _ c_ [P.leB 4 q, [74, 49], [kd % 256, 0], P.leB 4 a, P.leB 4 b, List.replicate 40 0] fh _ hC_ hl_ HC1.out).mono ?_
      rintro e w2_ ⟨vn_, rfl, ho, hb_⟩
      refine ⟨_, rfl, ?_⟩
      replace HX := Aside0.mk (HX.out.step hb_)
      refine hK.out _ _ ⟨v2, v3, m4, v8, v11, v14, v15, v16, vn_, m18, (by rw [ha.out]; exact putSel_upk 13 hbo_ rfl rfl rfl), HX.out, fun h0_ => (Q2 h0_).below hb_, fun h0_ => (Q3 h0_).below hb_, fun h0_ => ⟨(Q4 h0_).1, (Q4 h0_).2.below hb_⟩, fun h0_ => (Q8 h0_).below hb_, fun h0_ => (Q11 h0_).below hb_, fun h0_ => (Q14 h0_).below hb_, fun h0_ => (Q15 h0_).below hb_, fun h0_ => (Q16 h0_).below hb_, fun _ => RdP.of_R ho, fun h0_ => absurd ((hoff 18 (by kernel_rfl)).symm.trans h0_) (by decide)⟩
    refine steps_cons ?_ ?_
    · rintro b_ a_ w' ⟨v2, v3, m4, v8, v11, v14, v15, v16, v17, m18, ha, QX, Q2, Q3, Q4, Q8, Q11, Q14, Q15, Q16, Q17, Q18⟩ hbo_ hon hoff
      refine ⟨_, rfl, fun K hK => ?_⟩
      have e30 : a_.tmps[30]? = some (v17) := by rw [ha]; exact putSel_on (e := (17, 30, v17)) 13 rfl rfl (hon 17 (by kernel_rfl)) rfl
      replace ha := Aside0.mk ha
      have HX := Aside0.mk QX
      clear QX
      refine value_ (w1 := w') (v := v17) (by rfl) rfl ?_ ?_
      · go_simp
        try rfl
      refine hK.out _ _ ⟨v2, v3, m4, v8, v11, v14, v15, v16, v17, v17, (by rw [ha.out]; exact putSel_upk 14 hbo_ rfl rfl rfl), HX.out, Q2, Q3, Q4, Q8, Q11, Q14, Q15, Q16, Q17, fun _ => rfl⟩
    exact steps_nil
  rintro b_ a_ w105 hall ⟨v2, v3, m4, v8, v11, v14, v15, v16, v17, m18, ha, QX, Q2, Q3, Q4, Q8, Q11, Q14, Q15, Q16, Q17, Q18⟩
  have hb1_ := hall 1 (by kernel_rfl)
  have hb2_ := hall 2 (by kernel_rfl)
  have hb3_ := hall 3 (by kernel_rfl)
  have hb4_ := hall 4 (by kernel_rfl)
  have hb6_ := hall 6 (by kernel_rfl)
  have hb7_ := hall 7 (by kernel_rfl)
  have hb8_ := hall 8 (by kernel_rfl)
  have hb10_ := hall 10 (by kernel_rfl)
  have hb11_ := hall 11 (by kernel_rfl)
  have hb13_ := hall 13 (by kernel_rfl)
  have hb14_ := hall 14 (by kernel_rfl)
  have hb15_ := hall 15 (by kernel_rfl)
  have hb16_ := hall 16 (by kernel_rfl)
  have hb17_ := hall 17 (by kernel_rfl)
  have hb18_ := hall 18 (by kernel_rfl)
  subst ha
  simp only [putSel, hb1_, hb2_, hb3_, hb4_, hb6_, hb7_, hb8_, hb10_, hb11_, hb13_, hb14_, hb15_, hb16_, hb17_, hb18_, if_true, Act.put, List.setIfInBounds_toArray, List.set_cons_zero, List.set_cons_succ]
  have H106 := Aside0.mk QX
  clear QX
  have F2 := Aside0.mk (Q2 hb2_)
  clear Q2
  have F3 := Aside0.mk (Q3 hb3_)
  clear Q3
  have F4 := Aside0.mk (Q4 hb4_)
  clear Q4
  have F8 := Aside0.mk (Q8 hb8_)
  clear Q8
  have F11 := Aside0.mk (Q11 hb11_)
  clear Q11
  have F14 := Aside0.mk (Q14 hb14_)
  clear Q14
  have F15 := Aside0.mk (Q15 hb15_)
  clear Q15
  have F16 := Aside0.mk (Q16 hb16_)
  clear Q16
  have F17 := Aside0.mk (Q17 hb17_)
  clear Q17
  have F18 := Aside0.mk (Q18 hb18_)
  clear Q18
  clear hall hb1_ hb2_ hb3_ hb4_ hb6_ hb7_ hb8_ hb10_ hb11_ hb13_ hb14_ hb15_ hb16_ hb17_ hb18_
  have hm18 := F18.out
  subst hm18
  obtain ⟨A17, c17, e17, hl17, hC17⟩ := F17.out
  subst e17
  have HL17 := Aside0.mk hl17
  have FC := Aside0.mk hC17
  clear F2 F3 F4 F8 F11 F14 F15 F16 F18 F17 hl17 hC17
  try go_wp2
  have H108 := Aside0.mk H106.out.drew
  have n9_ := Aside0.mk (Kd.C_below FC.out (below_drew1 (Below.refl w105.heap.size w105)))
  clear FC
  have FC := n9_
  clear n9_
  refine start_ (n := 10) (S := fun w' => w'.cell? ⟨g1, 0, none⟩ = some (.int .u32 q)) (ds := []) #[false, false, false, false, false, false, false, false, false, false] (by kernel_rfl) rfl rfl ((blk_cell H108.out.gt0 0).trans rfl) (fun hHeld => ?_)
  clear H106
  generalize w105.drew = w107 at H108 FC hHeld ⊢
  refine pure_ (i := 0) (N := some 31) (v := ?_) (a' := ?_) #[true, false, false, false, false, false, false, false, false, false] rfl rfl (by kernel_rfl) (fun _ _ _ h => h) (Or.inl ⟨by rfl, ?_⟩) ?_ ?_
  rotate_left
  · intro w'
    go_simp
    with_reducible rfl
  rotate_left
  · simp only [Act.put, List.setIfInBounds_toArray, List.set_cons_zero, List.set_cons_succ, i64_w, i32_w]
    rfl
  refine pure_ (i := 1) (N := some 32) (v := ?_) (a' := ?_) #[true, true, false, false, false, false, false, false, false, false] rfl rfl (by kernel_rfl) (fun _ _ _ h => h) (Or.inl ⟨by rfl, ?_⟩) ?_ ?_
  rotate_left
  · intro w'
    go_simp
    with_reducible rfl
  rotate_left
  · simp only [Act.put, List.setIfInBounds_toArray, List.set_cons_zero, List.set_cons_succ, i64_w, i32_w]
    rfl
  refine pure_ (i := 4) (N := some 35) (v := ?_) (a' := ?_) #[true, true, false, false, true, false, false, false, false, false] rfl rfl (by kernel_rfl) (fun _ _ _ h => h) (Or.inl ⟨by rfl, ?_⟩) ?_ ?_
  rotate_left
  · intro w'
    go_simp
    with_reducible rfl
  rotate_left
  · simp only [Act.put, List.setIfInBounds_toArray, List.set_cons_zero, List.set_cons_succ, i64_w, i32_w]
    rfl
  refine take_ (i := 5) (N := some 36) (v := ?_) (a' := ?_) #[true, true, false, false, true, true, false, false, false, false] rfl rfl (by kernel_rfl) (fun _ _ _ h => h) (Or.inl ⟨by rfl, ?_⟩) hHeld ?_ ?_
  rotate_left
  · rintro w' s0
    go_simp
    with_reducible rfl
  rotate_left
  · simp only [Act.put, List.setIfInBounds_toArray, List.set_cons_zero, List.set_cons_succ, i64_w, i32_w]
    rfl
  refine one_ (i := 2) (N := some 33) #[true, true, true, false, true, true, false, false, false, false] rfl rfl (by kernel_rfl) (by decide) (fun K hK => ?_)
  refine goes_ Try.func50 (by kernel_rfl) rfl #[.slice A17 fh.length c17] (by rfl) rfl rfl (by (try simp only [List.map_toArray, List.map_cons, List.map_nil]); first | done | rfl) ?_
  refine (spec_Crc32.calls kc _ c17 fh c _ FC.out HL17.out HCR.out).mono ?_
  rintro e w110 ⟨rfl, hd_⟩
  refine ⟨_, rfl, ?_⟩
  have hb_ := hd_.below
  clear hd_
  have HBW2 := Aside0.mk H108.out.below.size
  have H111 := Aside0.mk (H108.out.step hb_)
  have n12_ := Aside0.mk (Kd.C_below FC.out hb_)
  clear FC
  have FC := n12_
  clear n12_
  clear hb_ H108
  refine hK.out _ _ ((blk_cell H111.out.gt0 0).trans rfl) (fun hHeld => ?_)
  clear hK K
  refine norm_ (a' := ?_) ?_ ?_
  rotate_left
  · show Act.put _ (some 33) _ = _
    simp only [Act.put, List.setIfInBounds_toArray, List.set_cons_zero, List.set_cons_succ, i64_w, i32_w]
    rfl
  refine one_ (i := 3) (N := some 34) #[true, true, true, true, true, true, false, false, false, false] rfl rfl (by kernel_rfl) (by decide) (fun K hK => ?_)
  refine goes_ Try.func48 (by kernel_rfl) rfl #[.int .u32 c] (by rfl) rfl rfl (by (try simp only [List.map_toArray, List.map_cons, List.map_nil]); first | done | rfl) ?_
  refine (spec_l2Four.calls c (P.leB 4 c) _ (P.four_is c HC.out)).mono ?_
  rintro e w113 ⟨v3_, rfl, ho, hb_⟩
  refine ⟨_, rfl, ?_⟩
  have HBW3 := Aside0.mk H111.out.below.size
  have H114 := Aside0.mk (H111.out.step hb_)
  have n15_ := Aside0.mk (Kd.C_below FC.out hb_)
  clear FC
  have FC := n15_
  clear n15_
  clear hb_ H111
  obtain ⟨A3, c3, e3, hl3, hC3⟩ := RdP.of_R ho
  subst e3
  have HL3 := Aside0.mk hl3
  have FC3 := Aside0.mk hC3
  clear hl3 hC3 ho
  refine hK.out _ _ ((blk_cell H114.out.gt0 0).trans rfl) (fun hHeld => ?_)
  clear hK K
  refine norm_ (a' := ?_) ?_ ?_
  rotate_left
  · show Act.put _ (some 34) _ = _
    simp only [Act.put, List.setIfInBounds_toArray, List.set_cons_zero, List.set_cons_succ, i64_w, i32_w]
    rfl
  refine one_ (i := 6) (N := some 37) #[true, true, true, true, true, true, true, false, false, false] rfl rfl (by kernel_rfl) (by decide) (fun K hK => ?_)
  refine goes_ Try.func48 (by kernel_rfl) rfl #[.int .u32 q] (by rfl) rfl rfl (by (try simp only [List.map_toArray, List.map_cons, List.map_nil]); first | done | rfl) ?_
  refine (spec_l2Four.calls q (P.leB 4 q) _ (P.four_is q HQ.out)).mono ?_
  rintro e w116 ⟨v6_, rfl, ho, hb_⟩
  refine ⟨_, rfl, ?_⟩
  have HBW6 := Aside0.mk H114.out.below.size
  have H117 := Aside0.mk (H114.out.step hb_)
  have n18_ := Aside0.mk (Kd.C_below FC.out hb_)
  clear FC
  have FC := n18_
  clear n18_
  have n19_ := Aside0.mk (Kd.C_below FC3.out hb_)
  clear FC3
  have FC3 := n19_
  clear n19_
  clear hb_ H114
  obtain ⟨A6, c6, e6, hl6, hC6⟩ := RdP.of_R ho
  subst e6
  have HL6 := Aside0.mk hl6
  have FC6 := Aside0.mk hC6
  clear hl6 hC6 ho
  refine hK.out _ _ ((blk_cell H117.out.gt0 0).trans rfl) (fun hHeld => ?_)
  clear hK K
  refine norm_ (a' := ?_) ?_ ?_
  rotate_left
  · show Act.put _ (some 37) _ = _
    simp only [Act.put, List.setIfInBounds_toArray, List.set_cons_zero, List.set_cons_succ, i64_w, i32_w]
    rfl
  refine one_ (i := 7) (N := some 38) #[true, true, true, true, true, true, true, true, false, false] rfl rfl (by kernel_rfl) (by decide) (fun K hK => ?_)
  refine Kd.N_lit_step (Kd.slice 5 (Kd.int .u8)) _ 25 ?hg (N' := 38) ?hd (xs := ([fh, P.leB 4 c, P.leB 4 q] : List (List Int))) (inner := [.slice A17 fh.length c17, .slice A3 (P.leB 4 c).length c3, .slice A6 (P.leB 4 q).length c6]) (ok := fun _ => True) (okp := fun _ => True) ?hr ?hp (fun _ hk => hk) trivial (Below.refl _ _) (Nat.le_refl _) (by simp) ?_; (case hd => rfl); (case hg => rfl); (case hr => first | (go_simp; done) | (go_simp; rfl)); (case hp => exact (Reps.one (RdP.FK HL17.out FC.out) (Reps.one (RdP.FK HL3.out FC3.out) (Reps.one (RdP.FK HL6.out FC6.out) (Reps.none _ _)))))
  intro v7_ w120 ho hb_ hg_ hnew_
  clear hg_ hnew_
  obtain ⟨A7, c7, e7, hl7, hC7⟩ := RowsP.of_N ho
  subst e7
  have HL7 := Aside0.mk hl7
  have FC7 := Aside0.mk hC7
  clear hl7 hC7 ho
  have H121 := Aside0.mk (H117.out.step hb_)
  have n22_ := Aside0.mk (Kd.C_below FC.out hb_)
  clear FC
  have FC := n22_
  clear n22_
  have n23_ := Aside0.mk (Kd.C_below FC3.out hb_)
  clear FC3
  have FC3 := n23_
  clear n23_
  have n24_ := Aside0.mk (Kd.C_below FC6.out hb_)
  clear FC6
  have FC6 := n24_
  clear n24_
  clear hb_ H117
  refine hK.out _ _ ((blk_cell H121.out.gt0 0).trans rfl) (fun hHeld => ?_)
  clear hK K
  refine norm_ (a' := ?_) ?_ ?_
  rotate_left
  · show Act.put _ (some 38) _ = _
    simp only [Act.put, List.setIfInBounds_toArray, List.set_cons_zero, List.set_cons_succ, i64_w, i32_w]
    rfl
  refine one_ (i := 8) (N := some 39) #[true, true, true, true, true, true, true, true, true, false] rfl rfl (by kernel_rfl) (by decide) (fun K hK => ?_)
  refine goes_ Try.func47 (by kernel_rfl) rfl #[.slice A7 ([fh, P.leB 4 c, P.leB 4 q]).length c7] (by rfl) rfl rfl (by (try simp only [List.map_toArray, List.map_cons, List.map_nil]); first | done | rfl) ?_
  refine (spec_l2Cat.calls k2 _ c7 [fh, P.leB 4 c, P.leB 4 q] r _ FC7.out HL7.out HC2.out).mono ?_
  rintro e w125 ⟨v8_, rfl, ho, hb_⟩
  refine ⟨_, rfl, ?_⟩
  have HBW8 := Aside0.mk H121.out.below.size
  have H126 := Aside0.mk (H121.out.step hb_)
  clear hb_ H121
  refine hK.out _ _ ((blk_cell H126.out.gt0 0).trans rfl) (fun hHeld => ?_)
  clear hK K
  refine norm_ (a' := ?_) ?_ ?_
  rotate_left
  · show Act.put _ (some 39) _ = _
    simp only [Act.put, List.setIfInBounds_toArray, List.set_cons_zero, List.set_cons_succ, i64_w, i32_w]
    rfl
  have HRr := Aside0.mk (Kd.R_lower ho HBW8.out)
  clear ho
  refine pure_ (i := 9) (N := some 2) (v := ?_) (a' := ?_) #[true, true, true, true, true, true, true, true, true, true] rfl rfl (by kernel_rfl) (fun _ _ _ h => h) (Or.inl ⟨by rfl, ?_⟩) ?_ ?_
  rotate_left
  · intro w'
    go_simp
    with_reducible rfl
  rotate_left
  · simp only [Act.put, List.setIfInBounds_toArray, List.set_cons_zero, List.set_cons_succ, i64_w, i32_w]
    rfl
  refine done_ (by kernel_rfl) ?_
  clear hHeld
  go_wp2
  go_ret
  exact ⟨_, rfl, HRr.out, H126.out.below⟩
set_option maxHeartbeats 8000000 in
set_option maxRecDepth 100000 in
theorem specFrame_none {q kd a b : Int} {w : World} (hk : ¬ (1 ≤ kd ∧ kd ≤ 3)) :
    Calls Try.prog 11 #[.agg #[.int .u32 q, .int .i64 kd, .int .u32 a, .int .u32 b]] w fun e w' => ∃ v0_ : Value, e = .returned (v0_) ∧ Kd.R (Kd.int .u8) 5 w' w.heap.size (fun _ => True) v0_ [] ∧ Below w.heap.size w w' := by
  have H0 := Aside0.mk (Bx.refl w)
  have HK := Aside0.mk hk
  clear hk
  go_enter Try.func11, Try.ntmps11
  go_wp2_with (first | ((with_reducible refine gate_dst (N := 1) rfl ?_); refine Aside0.out ?_))
  refine Aside0.mk ?_
  refine mk ?hw1 (N := 1) ?hd1 (cs := #[.int .u32 q, .int .i64 kd, .int .u32 a, .int .u32 b]) (t := 27) ?hr1 ?_
  case hd1 => rfl
  case hw1 => rfl
  case hr1 => first | (go_simp; done) | (go_simp; rfl)
  intro g1 hg1_ w101 hb1 hB1
  have H102 := Aside0.mk (H0.out.new hg1_ hb1 hB1)
  clear hg1_ hb1 hB1 H0
  have hk1 : w101.cell? ⟨g1, 1, none⟩ = some (.int .i64 kd) := (blk_cell H102.out.gt0 1).trans rfl
  by_cases c1 : kd < 1
  all_goals
    first | have k1b : decide (kd < 1) = true := decide_eq_true (by assumption) | have k1b : decide (kd < 1) = false := decide_eq_false (by assumption)
    try have k3b : decide (3 < kd) = true := decide_eq_true (by have := HK.out; omega)
    clear c1
    go_wp2_with (first | ((with_reducible refine gate_dst (N := 12) rfl ?_); refine Aside0.out ?_))
    refine Aside0.mk ?_
    refine Kd.R_lit (Kd.int .u8) _ 5 ?hg (N := 12) ?hd (xs := ([] : List Int)) (inner := []) (ok := fun _ => True) (okp := fun _ => True) ?hr ?hp (fun _ hk => hk) trivial (Below.refl _ _) (Nat.le_refl _) (by simp) ?_
    case hd => rfl
    case hg => rfl
    case hr => first | (go_simp; done) | (go_simp; rfl)
    case hp => exact (Reps.none _ _)
    intro v12_ w2_ ho hb_ hg_ hnew_
    clear hg_ hnew_
    have HRr := Aside0.mk (Kd.R_lower ho H102.out.below.size)
    have HX := Aside0.mk (H102.out.step hb_)
    clear ho hb_ hk1
    go_wp2
    go_ret
    exact ⟨_, rfl, HRr.out, HX.out.below⟩
theorem spec_EncodeFrame.calls (a0_0 : Int) (a0_1 : Int) (a0_2 : Int) (a0_3 : Int) (r : List Int) (w : World) (h : spec_EncodeFrame.f a0_0 a0_1 a0_2 a0_3 = some r) :
    Calls Try.prog 11 #[.agg #[.int .u32 a0_0, .int .i64 a0_1, .int .u32 a0_2, .int .u32 a0_3]] w fun e w' => ∃ v0_ : Value, e = .returned (v0_) ∧ Kd.R (Kd.int .u8) 5 w' w.heap.size (fun _ => True) v0_ r ∧ Below w.heap.size w w' := by
  unfold spec_EncodeFrame.f at h
  by_cases hsz : (0 ≤ a0_0 ∧ a0_0 ≤ 4294967295) ∧ (0 ≤ a0_2 ∧ a0_2 ≤ 4294967295) ∧ (0 ≤ a0_3 ∧ a0_3 ≤ 4294967295)
  case neg => rw [if_neg hsz] at h; cases h
  rw [if_pos hsz] at h
  have h := Option.some.inj h
  by_cases hk : 1 ≤ a0_1 ∧ a0_1 ≤ 3
  · rw [if_pos hk] at h
    subst h
    have hc := P.crc32_range (frameHead a0_0 a0_1 a0_2 a0_3)
    unfold P.U32 at hc
    obtain ⟨kz, hz⟩ := (P.zeros_ev 40 (by decide)).ex
    obtain ⟨k1, hc1⟩ := (P.cat_ev [P.leB 4 a0_0, [74, 49], [a0_1 % 256, 0], P.leB 4 a0_2, P.leB 4 a0_3, List.replicate 40 0] (by show 6 ≤ 1048576; decide) (by show 56 ≤ 1048576; decide)).ex
    obtain ⟨kc, hcr⟩ := (P.spec_Crc32_ev (frameHead a0_0 a0_1 a0_2 a0_3) (by show 56 ≤ 4611686018427387904; decide)).ex
    obtain ⟨k2, hc2⟩ := (P.cat_ev [frameHead a0_0 a0_1 a0_2 a0_3, P.leB 4 (P.crc32 (frameHead a0_0 a0_1 a0_2 a0_3)), P.leB 4 a0_0] (by show 3 ≤ 1048576; decide) (by show 64 ≤ 1048576; decide)).ex
    exact specFrame_raw hsz.1 hsz.2.1 hsz.2.2 hk hz hc1 hcr (by omega) hc2
  · rw [if_neg hk] at h
    subst h
    exact specFrame_none hk
end Go.Proofs.Ytgfadfahbhcllaa.Q
namespace Go.Proofs.Ytgfadfahbhcllaa.P
open Go.RowKit Go.Proofs.YtgfadfahbhcllaaW.PrintWords Go.Proofs.YtgfadfahbhcllaaW.PrintMore Go.Proofs.Ytgfadfahbhcllaa.Q
set_option linter.unusedVariables false
set_option linter.unusedSimpArgs false
/-- The bytes that EncodeFrame answers. -/
def encF (q kd a b : Int) : List Int := if 1 ≤ kd ∧ kd ≤ 3 then frameCode q kd a b else []
theorem encF_length (q kd a b : Int) : (encF q kd a b).length ≤ 64 := by
  unfold encF
  split
  · exact Nat.le_of_eq rfl
  · simp
/-- Bytes as text: the same text, the same bytes. -/
theorem str_inj {l m : List Int} (hl : U8s l) (hm : U8s m) (h : (strOfNums l).toList = (strOfNums m).toList) : l = m := by
  have e : ∀ x : List Int, (strOfNums x).toList = x.map fun n => UInt8.ofNat n.toNat := fun x => by rw [ByteArray.toList_eq]; rfl
  rw [e, e] at h
  have hlen : l.length = m.length := by have := congrArg List.length h; simpa using this
  refine List.ext_getElem hlen (fun i h1 h2 => ?_)
  have h3 := congrArg (·[i]?) h
  simp only [List.getElem?_map, List.getElem?_eq_getElem h1, List.getElem?_eq_getElem h2, Option.map_some, Option.some.injEq] at h3
  have r1 := hl _ (List.getElem_mem h1)
  have r2 := hm _ (List.getElem_mem h2)
  have h4 := congrArg UInt8.toNat h3
  simp [UInt8.toNat_ofNat'] at h4
  omega
theorem leB_u8 (n : Nat) (x : Int) : U8s (leB n x) := by
  intro z hz
  unfold leB at hz
  obtain ⟨i, _, rfl⟩ := List.mem_map.1 hz
  omega
theorem frameHead_u8 (q kd a b : Int) : U8s (frameHead q kd a b) := by
  intro z hz
  unfold frameHead at hz
  simp only [List.mem_append, List.mem_cons, List.not_mem_nil, or_false] at hz
  rcases hz with hz | (hz | hz | hz | hz) | hz | hz | hz
  · exact leB_u8 _ _ z hz
  · omega
  · omega
  · omega
  · omega
  · exact leB_u8 _ _ z hz
  · exact leB_u8 _ _ z hz
  · have := List.eq_of_mem_replicate hz; omega
theorem frameCode_u8 (q kd a b : Int) : U8s (frameCode q kd a b) := by
  intro z hz
  unfold frameCode at hz
  simp only [List.mem_append] at hz
  rcases hz with hz | hz | hz
  · exact frameHead_u8 _ _ _ _ z hz
  · exact leB_u8 _ _ z hz
  · exact leB_u8 _ _ z hz
theorem encF_u8 (q kd a b : Int) : U8s (encF q kd a b) := by
  unfold encF
  split
  · exact frameCode_u8 _ _ _ _
  · exact fun z hz => by cases hz
end Go.Proofs.Ytgfadfahbhcllaa.P
namespace Go.Proofs.Ytgfadfahbhcllaa.Q
open Go.RowKit Go.Proofs.YtgfadfahbhcllaaW.PrintWords Go.Proofs.YtgfadfahbhcllaaW.PrintLast Go.Proofs.YtgfadfahbhcllaaW.PrintMore Go.Proofs.Ytgfadfahbhcllaa.LK
theorem str_frame {l : List Int} {q kd a b : Int} (hu : P.U8s l) (h64 : l.length = 64) (hI : isFrame l = ((1 ≤ kd ∧ kd ≤ 3) ∧ frameCode q kd a b = l)) : ((strOfNums (P.encF q kd a b)).toList == (strOfNums l).toList) = decide (isFrame l) := by
  by_cases hf : isFrame l
  · have h := hf
    rw [hI] at h
    rw [decide_eq_true hf, beq_iff_eq]
    unfold P.encF
    rw [if_pos h.1, h.2]
  · rw [decide_eq_false hf, beq_eq_false_iff_ne]
    intro he
    have e := P.str_inj (P.encF_u8 q kd a b) hu he
    apply hf
    rw [hI]
    unfold P.encF at e
    by_cases hk : 1 ≤ kd ∧ kd ≤ 3
    · rw [if_pos hk] at e
      exact ⟨hk, e⟩
    · rw [if_neg hk] at e
      rw [← e] at h64
      cases h64
/-- A slice of bytes as a text. -/
theorem conv_str {P : Program} {t e u : TypeId} {w : World} {A : Option Addr} {c : Nat} {xs : List Int} (ht : P.underlying t = some (.slice e)) (he : P.underlying e = some (.int .u8)) (hu : P.underlying u = some .string) (h : Kd.C (Kd.int .u8) w A xs.length xs) :
    (convert t u (.slice A xs.length c)).run P w = .ok (.string (strOfNums xs)) w := by
  obtain ⟨h1, h2, h3⟩ := Kd.reads_of_C (enc := Value.int .u8) (d := (0 : Int)) (h1 := fun _ => rfl) h
  cases A with
  | none =>
    have h0 : xs.length = 0 := by
      rcases Nat.eq_zero_or_pos xs.length with h0 | h0
      · exact h0
      · obtain ⟨ad, e, _⟩ := h3 h0
        cases e
    obtain rfl := List.eq_nil_of_length_eq_zero h0
    exact run_convert_bytes_nil w t e ht he 0 c u hu
  | some ad =>
    have hl : (loadCells ad xs.length).run P w = .ok (xs.map (Value.int .u8)).toArray w := by
      have := run_loadCells_list (P := P) w ad (xs.map (Value.int .u8)) (fun j v hj => by
        have hjl : j < xs.length := by
          rcases Nat.lt_or_ge j xs.length with h | h
          · exact h
          · simp [List.getElem?_eq_none (show (xs.map (Value.int .u8)).length ≤ j by simpa using h)] at hj
        obtain ⟨ad', e', hc⟩ := h3 (by omega)
        injection e' with e'
        subst e'
        rw [hc j hjl]
        simp [List.getElem?_eq_getElem hjl] at hj
        subst hj
        simp [List.getD, List.getElem?_eq_getElem hjl])
      simpa using this
    rw [run_convert_bytes_string w t u e _ xs.length c ht he hu, run_bytesToString w _ xs.length c xs hl, foldl_push_bytes]
    simp [strOfNums, ByteArray.empty, ByteArray.emptyWithCapacity]
    rfl
end Go.Proofs.Ytgfadfahbhcllaa.Q
namespace Go.Proofs.Ytgfadfahbhcllaa.Q
open Go.RowKit Go.Proofs.YtgfadfahbhcllaaW.PrintWords Go.Proofs.YtgfadfahbhcllaaW.PrintLast Go.Proofs.YtgfadfahbhcllaaW.PrintMore Go.Proofs.Ytgfadfahbhcllaa.LK
set_option linter.unusedVariables false
set_option linter.unusedSimpArgs false
def spec_DecodeFrame.f (l0 : List Int) : Option (Bool × Int × Int × Int × Int) :=
  if P.U8s l0 then some (if l0.length = 64 ∧ isFrame l0 then (true, fSeq l0, fKind l0, fA l0, fB l0) else (false, 0, 0, 0, 0)) else none
set_option maxHeartbeats 8000000 in
set_option maxRecDepth 100000 in
theorem spec_DecodeFrame.calls (A0 : Option Addr) (c0 : Nat) (l0 : List Int) (r1 : Bool) (r2 : Int) (r3 : Int) (r4 : Int) (r5 : Int) (w : World) (hr0 : Kd.C (Kd.int .u8) w A0 l0.length l0) (hc0 : l0.length ≤ c0) (h : spec_DecodeFrame.f l0 = some (r1, r2, r3, r4, r5)) :
    Calls Try.prog 17 #[.slice A0 l0.length c0] w fun e w' => e = .returned (.agg #[.bool r1, .int .u32 r2, .int .i64 r3, .int .u32 r4, .int .u32 r5]) ∧ Below w.heap.size w w' := by
  unfold spec_DecodeFrame.f at h
  by_cases hu : P.U8s l0
  case neg => rw [if_neg hu] at h; cases h
  rw [if_pos hu] at h
  have h := Option.some.inj h
  have HU := Aside0.mk hu
  have HR0 := Aside0.mk hr0
  have HC0 := Aside0.mk hc0
  have H := Aside0.mk h
  have H0 := Aside0.mk (Bx.refl w)
  clear hu hr0 hc0 h
  go_enter Try.func17, Try.ntmps17
  go_wp2_with (first | ((with_reducible refine gate_dst (N := 2) rfl ?_); refine Aside0.out ?_))
  refine Aside0.mk ?_
  refine mk ?hw1 (N := 2) ?hd1 (cs := #[.bool false, .int .u32 0, .int .i64 0, .int .u32 0, .int .u32 0]) (t := 33) ?hr1 ?_
  case hd1 => rfl
  case hw1 => rfl
  case hr1 => first | (go_simp; done) | (go_simp; rfl)
  intro g2 hg2_ w101 hb1 hB1
  have H102 := Aside0.mk (H0.out.new hg2_ hb1 hB1)
  clear hg2_ hb1 hB1 H0
  by_cases h64 : l0.length = 64
  · have h64b : ((l0.length : Int) != 64) = false := bne_eq_false_iff_eq.mpr (by omega)
    have H64 := Aside0.mk h64
    have g0 := P.spec_get l0 0 HU.out (by decide) (by omega) (by omega)
    have g8 := P.spec_get l0 8 HU.out (by decide) (by omega) (by omega)
    have g12 := P.spec_get l0 12 HU.out (by decide) (by omega) (by omega)
    have h6 : l0[6]? = some (fKind l0) := by unfold fKind; rw [List.getD_eq_getElem?_getD, List.getElem?_eq_getElem (by omega)]; rfl
    have r6 := HU.out.at_ h6
    have r0 := num4 HU.out 0 (by omega)
    have r8 := num4 HU.out 8 (by omega)
    have r12 := num4 HU.out 12 (by omega)
    obtain ⟨q, eq⟩ : ∃ q, q = fSeq l0 := ⟨_, rfl⟩
    obtain ⟨a, ea⟩ : ∃ a, a = fA l0 := ⟨_, rfl⟩
    obtain ⟨b, eb⟩ : ∃ b, b = fB l0 := ⟨_, rfl⟩
    obtain ⟨kd, ek⟩ : ∃ kd, kd = fKind l0 := ⟨_, rfl⟩
    have G0 := Aside0.mk (show spec_l2Get.f l0 0 = some q from by rw [eq]; exact g0)
    have G8 := Aside0.mk (show spec_l2Get.f l0 8 = some a from by rw [ea]; exact g8)
    have G12 := Aside0.mk (show spec_l2Get.f l0 12 = some b from by rw [eb]; exact g12)
    have R0 := Aside0.mk (show 0 ≤ q ∧ q ≤ 4294967295 from by rw [eq]; exact r0)
    have R8 := Aside0.mk (show 0 ≤ a ∧ a ≤ 4294967295 from by rw [ea]; exact r8)
    have R12 := Aside0.mk (show 0 ≤ b ∧ b ≤ 4294967295 from by rw [eb]; exact r12)
    rw [← ek] at h6 r6
    have jk : IntKind.i64.wrap kd = kd := by rw [IntKind.wrap_i64]; omega
    have HI := Aside0.mk (show isFrame l0 = ((1 ≤ kd ∧ kd ≤ 3) ∧ frameCode q kd a b = l0) from by rw [eq, ea, eb, ek]; rfl)
    have h := H.out
    rw [← eq, ← ea, ← eb, ← ek] at h
    replace H := Aside0.mk h
    have hrd := Kd.reads_of_C (enc := Value.int .u8) (d := (0 : Int)) (h1 := fun _ => rfl) HR0.out
    have HRd := Aside0.mk hrd
    obtain ⟨ad, eA, hcell⟩ := hrd.2.2 (by omega)
    subst eA
    have hc6 := hcell 6 (by omega)
    rw [show l0.getD 6 0 = kd from by rw [List.getD_eq_getElem?_getD, h6]; rfl] at hc6
    have HC6 := Aside0.mk (show w.cell? ⟨ad.block, ad.off + 6, none⟩ = some (.int .u8 kd) from hc6)
    have q6 : ((6 : Int) < (l0.length : Int)) = True := eq_true (by omega)
    clear g0 g8 g12 h6 r6 r0 r8 r12 eq ea eb ek h hrd hcell hc6 h64
    try go_wp2
    have H104 := Aside0.mk H102.out.drew
    refine start_ (n := 13) (S := fun w' => w'.cell? ⟨ad.block, ad.off + 6, none⟩ = some (.int .u8 kd)) (ds := [12]) #[false, false, false, false, false, false, false, false, false, false, false, false, false] (by kernel_rfl) rfl rfl (pw_cell_below H104.out.below HC6.out) (fun hHeld => ?_)
    clear H102
    generalize w101.drew = w103 at H104 hHeld ⊢
    refine pure_ (i := 0) (N := some 8) (v := ?_) (a' := ?_) #[true, false, false, false, false, false, false, false, false, false, false, false, false] rfl rfl (by kernel_rfl) (fun _ _ _ h => h) (Or.inl ⟨by rfl, ?_⟩) ?_ ?_
    rotate_left
    · intro w'
      go_simp
      with_reducible rfl
    rotate_left
    · simp only [Act.put, List.setIfInBounds_toArray, List.set_cons_zero, List.set_cons_succ, i64_w, i32_w]
      rfl
    refine pure_ (i := 2) (N := some 10) (v := ?_) (a' := ?_) #[true, false, true, false, false, false, false, false, false, false, false, false, false] rfl rfl (by kernel_rfl) (fun _ _ _ h => h) (Or.inl ⟨by rfl, ?_⟩) ?_ ?_
    rotate_left
    · intro w'
      go_simp
      with_reducible rfl
    rotate_left
    · simp only [Act.put, List.setIfInBounds_toArray, List.set_cons_zero, List.set_cons_succ, i64_w, i32_w]
      rfl
    refine pure_ (i := 3) (N := some 11) (v := ?_) (a' := ?_) #[true, false, true, true, false, false, false, false, false, false, false, false, false] rfl rfl (by kernel_rfl) (fun _ _ _ h => h) (Or.inl ⟨by rfl, ?_⟩) ?_ ?_
    rotate_left
    · intro w'
      go_simp
      with_reducible rfl
    rotate_left
    · simp only [Act.put, List.setIfInBounds_toArray, List.set_cons_zero, List.set_cons_succ, i64_w, i32_w]
      rfl
    refine pure_ (i := 6) (N := some 14) (v := ?_) (a' := ?_) #[true, false, true, true, false, false, true, false, false, false, false, false, false] rfl rfl (by kernel_rfl) (fun _ _ _ h => h) (Or.inl ⟨by rfl, ?_⟩) ?_ ?_
    rotate_left
    · intro w'
      go_simp
      with_reducible rfl
    rotate_left
    · simp only [Act.put, List.setIfInBounds_toArray, List.set_cons_zero, List.set_cons_succ, i64_w, i32_w]
      rfl
    refine pure_ (i := 8) (N := some 16) (v := ?_) (a' := ?_) #[true, false, true, true, false, false, true, false, true, false, false, false, false] rfl rfl (by kernel_rfl) (fun _ _ _ h => h) (Or.inl ⟨by rfl, ?_⟩) ?_ ?_
    rotate_left
    · intro w'
      go_simp
      with_reducible rfl
    rotate_left
    · simp only [Act.put, List.setIfInBounds_toArray, List.set_cons_zero, List.set_cons_succ, i64_w, i32_w]
      rfl
    refine take_ (i := 4) (N := some 12) (v := ?_) (a' := ?_) #[true, false, true, true, true, false, true, false, true, false, false, false, false] rfl rfl (by kernel_rfl) (fun _ _ _ h => h) (Or.inl ⟨by rfl, ?_⟩) hHeld ?_ ?_
    rotate_left
    · rintro w' s0
      go_simp
      with_reducible rfl
    rotate_left
    · simp only [Act.put, List.setIfInBounds_toArray, List.set_cons_zero, List.set_cons_succ, i64_w, i32_w]
      rfl
    refine pure_ (i := 5) (N := some 13) (v := ?_) (a' := ?_) #[true, false, true, true, true, true, true, false, true, false, false, false, false] rfl rfl (by kernel_rfl) (fun _ _ _ h => h) (Or.inl ⟨by rfl, ?_⟩) ?_ ?_
    rotate_left
    · intro w'
      go_simp
      with_reducible rfl
    rotate_left
    · simp only [Act.put, List.setIfInBounds_toArray, List.set_cons_zero, List.set_cons_succ, i64_w, i32_w]
      rfl
    refine join_ (σ := Nat) 1 #[true, true, true, true, true, true, true, true, true, true, true, true, false] (fun s_ => [(9, .int .u32 q), (15, .int .u32 a), (17, .int .u32 b), (18, .agg #[.int .u32 q, .int .i64 kd, .int .u32 a, .int .u32 b]), (3, .pointer (some ⟨s_, 0, none⟩))]) (fun s_ w' => (w'.cell? ⟨ad.block, ad.off + 6, none⟩ = some (.int .u8 kd)) ∧ Bx w [(s_, #[.int .u32 0, .int .i64 0, .int .u32 0, .int .u32 0], 27), (g2, #[.bool false, .int .u32 0, .int .i64 0, .int .u32 0, .int .u32 0], 33)] w') ?_ ?_
    rotate_left
    · intro hCont
      refine two_ (i := 1) (j := 11) (Ni := some 9) (Nj := some 3) #[true, true, true, true, true, true, true, false, true, false, false, false, false] #[true, false, true, true, true, true, true, false, true, false, false, true, false] rfl rfl rfl rfl (by kernel_rfl) (by decide) (by decide) (fun K hK => ?_) (fun K hK => ?_)
      · skip
        refine goes_ Try.func53 (by kernel_rfl) rfl #[.slice (some ad) l0.length c0, .int .i64 0] (by rfl) rfl rfl (by (try simp only [List.map_toArray, List.map_cons, List.map_nil]); first | done | rfl) ?_
        refine (spec_l2Get.calls _ c0 l0 0 q _ (Kd.C_below HR0.out H104.out.below) HC0.out G0.out).mono ?_
        rintro e w105 ⟨rfl, hd_⟩
        refine ⟨_, rfl, ?_⟩
        have hb_ := hd_.below
        clear hd_
        have H106 := Aside0.mk (H104.out.step hb_)
        clear hb_ H104
        refine hK.out _ _ (pw_cell_below H106.out.below HC6.out) (fun hHeld => ?_)
        clear hK K
        refine norm_ (a' := ?_) ?_ ?_
        rotate_left
        · show Act.put _ (some 9) _ = _
          simp only [Act.put, List.setIfInBounds_toArray, List.set_cons_zero, List.set_cons_succ, i64_w, i32_w]
          rfl
        refine two_ (i := 7) (j := 11) (Ni := some 15) (Nj := some 3) #[true, true, true, true, true, true, true, true, true, false, false, false, false] #[true, true, true, true, true, true, true, false, true, false, false, true, false] rfl rfl rfl rfl (by kernel_rfl) (by decide) (by decide) (fun K hK => ?_) (fun K hK => ?_)
        · skip
          refine goes_ Try.func53 (by kernel_rfl) rfl #[.slice (some ad) l0.length c0, .int .i64 8] (by rfl) rfl rfl (by (try simp only [List.map_toArray, List.map_cons, List.map_nil]); first | done | rfl) ?_
          refine (spec_l2Get.calls _ c0 l0 8 a _ (Kd.C_below HR0.out H106.out.below) HC0.out G8.out).mono ?_
          rintro e w107 ⟨rfl, hd_⟩
          refine ⟨_, rfl, ?_⟩
          have hb_ := hd_.below
          clear hd_
          have H108 := Aside0.mk (H106.out.step hb_)
          clear hb_ H106
          refine hK.out _ _ (pw_cell_below H108.out.below HC6.out) (fun hHeld => ?_)
          clear hK K
          refine norm_ (a' := ?_) ?_ ?_
          rotate_left
          · show Act.put _ (some 15) _ = _
            simp only [Act.put, List.setIfInBounds_toArray, List.set_cons_zero, List.set_cons_succ, i64_w, i32_w]
            rfl
          refine two_ (i := 9) (j := 11) (Ni := some 17) (Nj := some 3) #[true, true, true, true, true, true, true, true, true, true, false, false, false] #[true, true, true, true, true, true, true, true, true, false, false, true, false] rfl rfl rfl rfl (by kernel_rfl) (by decide) (by decide) (fun K hK => ?_) (fun K hK => ?_)
          · skip
            refine goes_ Try.func53 (by kernel_rfl) rfl #[.slice (some ad) l0.length c0, .int .i64 12] (by rfl) rfl rfl (by (try simp only [List.map_toArray, List.map_cons, List.map_nil]); first | done | rfl) ?_
            refine (spec_l2Get.calls _ c0 l0 12 b _ (Kd.C_below HR0.out H108.out.below) HC0.out G12.out).mono ?_
            rintro e w109 ⟨rfl, hd_⟩
            refine ⟨_, rfl, ?_⟩
            have hb_ := hd_.below
            clear hd_
            have H110 := Aside0.mk (H108.out.step hb_)
            clear hb_ H108
            refine hK.out _ _ (pw_cell_below H110.out.below HC6.out) (fun hHeld => ?_)
            clear hK K
            refine norm_ (a' := ?_) ?_ ?_
            rotate_left
            · show Act.put _ (some 17) _ = _
              simp only [Act.put, List.setIfInBounds_toArray, List.set_cons_zero, List.set_cons_succ, i64_w, i32_w]
              rfl
            refine pure_ (i := 10) (N := some 18) (v := ?_) (a' := ?_) #[true, true, true, true, true, true, true, true, true, true, true, false, false] rfl rfl (by kernel_rfl) (fun _ _ _ h => h) (Or.inl ⟨by rfl, ?_⟩) ?_ ?_
            rotate_left
            · intro w'
              go_simp
              with_reducible rfl
            rotate_left
            · simp only [Act.put, List.setIfInBounds_toArray, List.set_cons_zero, List.set_cons_succ, i64_w, i32_w]
              rfl
            refine one_ (i := 11) (N := some 3) #[true, true, true, true, true, true, true, true, true, true, true, true, false] rfl rfl (by kernel_rfl) (by decide) (fun K hK => ?_)
            refine box_step ?hg11 (N := 3) ?hd11 (cs := #[.int .u32 0, .int .i64 0, .int .u32 0, .int .u32 0]) (t := 27) ?hr11 ?_
            case hd11 => rfl
            case hg11 => rfl
            case hr11 => first | (go_simp; done) | (go_simp; rfl)
            intro g3 hg3_ w111 hb11 hB11
            have H112 := Aside0.mk (H110.out.new hg3_ hb11 hB11)
            clear hg3_ hb11 hB11 H110
            refine hK.out _ _ (pw_cell_below H112.out.below HC6.out) (fun hHeld => ?_)
            clear hK K
            refine norm_ (a' := ?_) ?_ ?_
            rotate_left
            · show Act.put _ (some 3) _ = _
              simp only [Act.put, List.setIfInBounds_toArray, List.set_cons_zero, List.set_cons_succ, i64_w, i32_w]
              rfl
            exact norm_ (by simp only [putAll, Act.put, List.setIfInBounds_toArray, List.set_cons_zero, List.set_cons_succ]) (hCont g3 _ ⟨hHeld, H112.out⟩)
          · skip
            refine box_step ?hg13 (N := 3) ?hd13 (cs := #[.int .u32 0, .int .i64 0, .int .u32 0, .int .u32 0]) (t := 27) ?hr13 ?_
            case hd13 => rfl
            case hg13 => rfl
            case hr13 => first | (go_simp; done) | (go_simp; rfl)
            intro g3 hg3_ w113 hb13 hB13
            have H114 := Aside0.mk (H108.out.new hg3_ hb13 hB13)
            clear hg3_ hb13 hB13 H108
            refine hK.out _ _ (pw_cell_below H114.out.below HC6.out) (fun hHeld => ?_)
            clear hK K
            refine norm_ (a' := ?_) ?_ ?_
            rotate_left
            · show Act.put _ (some 3) _ = _
              simp only [Act.put, List.setIfInBounds_toArray, List.set_cons_zero, List.set_cons_succ, i64_w, i32_w]
              rfl
            refine one_ (i := 9) (N := some 17) #[true, true, true, true, true, true, true, true, true, true, false, true, false] rfl rfl (by kernel_rfl) (by decide) (fun K hK => ?_)
            refine goes_ Try.func53 (by kernel_rfl) rfl #[.slice (some ad) l0.length c0, .int .i64 12] (by rfl) rfl rfl (by (try simp only [List.map_toArray, List.map_cons, List.map_nil]); first | done | rfl) ?_
            refine (spec_l2Get.calls _ c0 l0 12 b _ (Kd.C_below HR0.out H114.out.below) HC0.out G12.out).mono ?_
            rintro e w115 ⟨rfl, hd_⟩
            refine ⟨_, rfl, ?_⟩
            have hb_ := hd_.below
            clear hd_
            have H116 := Aside0.mk (H114.out.step hb_)
            clear hb_ H114
            refine hK.out _ _ (pw_cell_below H116.out.below HC6.out) (fun hHeld => ?_)
            clear hK K
            refine norm_ (a' := ?_) ?_ ?_
            rotate_left
            · show Act.put _ (some 17) _ = _
              simp only [Act.put, List.setIfInBounds_toArray, List.set_cons_zero, List.set_cons_succ, i64_w, i32_w]
              rfl
            refine pure_ (i := 10) (N := some 18) (v := ?_) (a' := ?_) #[true, true, true, true, true, true, true, true, true, true, true, true, false] rfl rfl (by kernel_rfl) (fun _ _ _ h => h) (Or.inl ⟨by rfl, ?_⟩) ?_ ?_
            rotate_left
            · intro w'
              go_simp
              with_reducible rfl
            rotate_left
            · simp only [Act.put, List.setIfInBounds_toArray, List.set_cons_zero, List.set_cons_succ, i64_w, i32_w]
              rfl
            exact norm_ (by simp only [putAll, Act.put, List.setIfInBounds_toArray, List.set_cons_zero, List.set_cons_succ]) (hCont g3 _ ⟨hHeld, H116.out⟩)
        · skip
          refine box_step ?hg17 (N := 3) ?hd17 (cs := #[.int .u32 0, .int .i64 0, .int .u32 0, .int .u32 0]) (t := 27) ?hr17 ?_
          case hd17 => rfl
          case hg17 => rfl
          case hr17 => first | (go_simp; done) | (go_simp; rfl)
          intro g3 hg3_ w117 hb17 hB17
          have H118 := Aside0.mk (H106.out.new hg3_ hb17 hB17)
          clear hg3_ hb17 hB17 H106
          refine hK.out _ _ (pw_cell_below H118.out.below HC6.out) (fun hHeld => ?_)
          clear hK K
          refine norm_ (a' := ?_) ?_ ?_
          rotate_left
          · show Act.put _ (some 3) _ = _
            simp only [Act.put, List.setIfInBounds_toArray, List.set_cons_zero, List.set_cons_succ, i64_w, i32_w]
            rfl
          refine one_ (i := 7) (N := some 15) #[true, true, true, true, true, true, true, true, true, false, false, true, false] rfl rfl (by kernel_rfl) (by decide) (fun K hK => ?_)
          refine goes_ Try.func53 (by kernel_rfl) rfl #[.slice (some ad) l0.length c0, .int .i64 8] (by rfl) rfl rfl (by (try simp only [List.map_toArray, List.map_cons, List.map_nil]); first | done | rfl) ?_
          refine (spec_l2Get.calls _ c0 l0 8 a _ (Kd.C_below HR0.out H118.out.below) HC0.out G8.out).mono ?_
          rintro e w119 ⟨rfl, hd_⟩
          refine ⟨_, rfl, ?_⟩
          have hb_ := hd_.below
          clear hd_
          have H120 := Aside0.mk (H118.out.step hb_)
          clear hb_ H118
          refine hK.out _ _ (pw_cell_below H120.out.below HC6.out) (fun hHeld => ?_)
          clear hK K
          refine norm_ (a' := ?_) ?_ ?_
          rotate_left
          · show Act.put _ (some 15) _ = _
            simp only [Act.put, List.setIfInBounds_toArray, List.set_cons_zero, List.set_cons_succ, i64_w, i32_w]
            rfl
          refine one_ (i := 9) (N := some 17) #[true, true, true, true, true, true, true, true, true, true, false, true, false] rfl rfl (by kernel_rfl) (by decide) (fun K hK => ?_)
          refine goes_ Try.func53 (by kernel_rfl) rfl #[.slice (some ad) l0.length c0, .int .i64 12] (by rfl) rfl rfl (by (try simp only [List.map_toArray, List.map_cons, List.map_nil]); first | done | rfl) ?_
          refine (spec_l2Get.calls _ c0 l0 12 b _ (Kd.C_below HR0.out H120.out.below) HC0.out G12.out).mono ?_
          rintro e w121 ⟨rfl, hd_⟩
          refine ⟨_, rfl, ?_⟩
          have hb_ := hd_.below
          clear hd_
          have H122 := Aside0.mk (H120.out.step hb_)
          clear hb_ H120
          refine hK.out _ _ (pw_cell_below H122.out.below HC6.out) (fun hHeld => ?_)
          clear hK K
          refine norm_ (a' := ?_) ?_ ?_
          rotate_left
          · show Act.put _ (some 17) _ = _
            simp only [Act.put, List.setIfInBounds_toArray, List.set_cons_zero, List.set_cons_succ, i64_w, i32_w]
            rfl
          refine pure_ (i := 10) (N := some 18) (v := ?_) (a' := ?_) #[true, true, true, true, true, true, true, true, true, true, true, true, false] rfl rfl (by kernel_rfl) (fun _ _ _ h => h) (Or.inl ⟨by rfl, ?_⟩) ?_ ?_
          rotate_left
          · intro w'
            go_simp
            with_reducible rfl
          rotate_left
          · simp only [Act.put, List.setIfInBounds_toArray, List.set_cons_zero, List.set_cons_succ, i64_w, i32_w]
            rfl
          exact norm_ (by simp only [putAll, Act.put, List.setIfInBounds_toArray, List.set_cons_zero, List.set_cons_succ]) (hCont g3 _ ⟨hHeld, H122.out⟩)
      · skip
        refine box_step ?hg23 (N := 3) ?hd23 (cs := #[.int .u32 0, .int .i64 0, .int .u32 0, .int .u32 0]) (t := 27) ?hr23 ?_
        case hd23 => rfl
        case hg23 => rfl
        case hr23 => first | (go_simp; done) | (go_simp; rfl)
        intro g3 hg3_ w123 hb23 hB23
        have H124 := Aside0.mk (H104.out.new hg3_ hb23 hB23)
        clear hg3_ hb23 hB23 H104
        refine hK.out _ _ (pw_cell_below H124.out.below HC6.out) (fun hHeld => ?_)
        clear hK K
        refine norm_ (a' := ?_) ?_ ?_
        rotate_left
        · show Act.put _ (some 3) _ = _
          simp only [Act.put, List.setIfInBounds_toArray, List.set_cons_zero, List.set_cons_succ, i64_w, i32_w]
          rfl
        refine one_ (i := 1) (N := some 9) #[true, true, true, true, true, true, true, false, true, false, false, true, false] rfl rfl (by kernel_rfl) (by decide) (fun K hK => ?_)
        refine goes_ Try.func53 (by kernel_rfl) rfl #[.slice (some ad) l0.length c0, .int .i64 0] (by rfl) rfl rfl (by (try simp only [List.map_toArray, List.map_cons, List.map_nil]); first | done | rfl) ?_
        refine (spec_l2Get.calls _ c0 l0 0 q _ (Kd.C_below HR0.out H124.out.below) HC0.out G0.out).mono ?_
        rintro e w125 ⟨rfl, hd_⟩
        refine ⟨_, rfl, ?_⟩
        have hb_ := hd_.below
        clear hd_
        have H126 := Aside0.mk (H124.out.step hb_)
        clear hb_ H124
        refine hK.out _ _ (pw_cell_below H126.out.below HC6.out) (fun hHeld => ?_)
        clear hK K
        refine norm_ (a' := ?_) ?_ ?_
        rotate_left
        · show Act.put _ (some 9) _ = _
          simp only [Act.put, List.setIfInBounds_toArray, List.set_cons_zero, List.set_cons_succ, i64_w, i32_w]
          rfl
        refine one_ (i := 7) (N := some 15) #[true, true, true, true, true, true, true, true, true, false, false, true, false] rfl rfl (by kernel_rfl) (by decide) (fun K hK => ?_)
        refine goes_ Try.func53 (by kernel_rfl) rfl #[.slice (some ad) l0.length c0, .int .i64 8] (by rfl) rfl rfl (by (try simp only [List.map_toArray, List.map_cons, List.map_nil]); first | done | rfl) ?_
        refine (spec_l2Get.calls _ c0 l0 8 a _ (Kd.C_below HR0.out H126.out.below) HC0.out G8.out).mono ?_
        rintro e w127 ⟨rfl, hd_⟩
        refine ⟨_, rfl, ?_⟩
        have hb_ := hd_.below
        clear hd_
        have H128 := Aside0.mk (H126.out.step hb_)
        clear hb_ H126
        refine hK.out _ _ (pw_cell_below H128.out.below HC6.out) (fun hHeld => ?_)
        clear hK K
        refine norm_ (a' := ?_) ?_ ?_
        rotate_left
        · show Act.put _ (some 15) _ = _
          simp only [Act.put, List.setIfInBounds_toArray, List.set_cons_zero, List.set_cons_succ, i64_w, i32_w]
          rfl
        refine one_ (i := 9) (N := some 17) #[true, true, true, true, true, true, true, true, true, true, false, true, false] rfl rfl (by kernel_rfl) (by decide) (fun K hK => ?_)
        refine goes_ Try.func53 (by kernel_rfl) rfl #[.slice (some ad) l0.length c0, .int .i64 12] (by rfl) rfl rfl (by (try simp only [List.map_toArray, List.map_cons, List.map_nil]); first | done | rfl) ?_
        refine (spec_l2Get.calls _ c0 l0 12 b _ (Kd.C_below HR0.out H128.out.below) HC0.out G12.out).mono ?_
        rintro e w129 ⟨rfl, hd_⟩
        refine ⟨_, rfl, ?_⟩
        have hb_ := hd_.below
        clear hd_
        have H130 := Aside0.mk (H128.out.step hb_)
        clear hb_ H128
        refine hK.out _ _ (pw_cell_below H130.out.below HC6.out) (fun hHeld => ?_)
        clear hK K
        refine norm_ (a' := ?_) ?_ ?_
        rotate_left
        · show Act.put _ (some 17) _ = _
          simp only [Act.put, List.setIfInBounds_toArray, List.set_cons_zero, List.set_cons_succ, i64_w, i32_w]
          rfl
        refine pure_ (i := 10) (N := some 18) (v := ?_) (a' := ?_) #[true, true, true, true, true, true, true, true, true, true, true, true, false] rfl rfl (by kernel_rfl) (fun _ _ _ h => h) (Or.inl ⟨by rfl, ?_⟩) ?_ ?_
        rotate_left
        · intro w'
          go_simp
          with_reducible rfl
        rotate_left
        · simp only [Act.put, List.setIfInBounds_toArray, List.set_cons_zero, List.set_cons_succ, i64_w, i32_w]
          rfl
        exact norm_ (by simp only [putAll, Act.put, List.setIfInBounds_toArray, List.set_cons_zero, List.set_cons_succ]) (hCont g3 _ ⟨hHeld, H130.out⟩)
    rintro g3 w131 ⟨hHeld, hX_⟩
    have H132 := Aside0.mk hX_
    clear hX_ H104
    refine norm_ (a' := ?_) ?_ ?_
    rotate_left
    · simp only [putAll, Act.put, List.setIfInBounds_toArray, List.set_cons_zero, List.set_cons_succ]
      rfl
    refine last_ (i := 12) (N := none) #[true, true, true, true, true, true, true, true, true, true, true, true, true] rfl rfl (by kernel_rfl) (by decide) (fun K hK => ?_)
    refine st_step (by rfl) rfl rfl ?hp33 (cs := #[.int .u32 q, .int .i64 kd, .int .u32 a, .int .u32 b]) ?hx33 H132.out.gt0 (by kernel_rfl) (rfl) (by simp [Value.oneCell']) ?_
    case hp33 => rfl
    case hx33 => rfl
    intro w133 hb33 hS33
    have H134 := Aside0.mk (H132.out.wr0 (cs' := #[.int .u32 q, .int .i64 kd, .int .u32 a, .int .u32 b]) hb33 hS33)
    clear hb33 hS33 H132
    refine hK.out _ _ ?_
    clear hK K
    refine done_ (by kernel_rfl) ?_
    try go_wp2
    have H136 := Aside0.mk H134.out.drew
    refine start_ (n := 6) (S := fun w' => w'.heap[g3]? = some (.cells #[.int .u32 q, .int .i64 kd, .int .u32 a, .int .u32 b] 27 (0, 0)) ∧ Kd.C (Kd.int .u8) w' (some ad) l0.length l0) (ds := []) #[false, false, false, false, false, false] (by kernel_rfl) rfl rfl ⟨H136.out.gt0, Kd.C_below HR0.out H136.out.below⟩ (fun hHeld => ?_)
    clear H134
    generalize w133.drew = w135 at H136 hHeld ⊢
    refine pure_ (i := 3) (N := some 22) (v := ?_) (a' := ?_) #[false, false, false, true, false, false] rfl rfl (by kernel_rfl) (fun _ _ _ h => h) (Or.inl ⟨by rfl, ?_⟩) ?_ ?_
    rotate_left
    · intro w'
      go_simp
      with_reducible rfl
    rotate_left
    · simp only [Act.put, List.setIfInBounds_toArray, List.set_cons_zero, List.set_cons_succ, i64_w, i32_w]
      rfl
    refine take_ (i := 0) (N := some 19) (v := .agg #[.int .u32 q, .int .i64 kd, .int .u32 a, .int .u32 b]) (a' := ?_) #[true, false, false, true, false, false] rfl rfl (by kernel_rfl) (fun _ _ _ h => h) (Or.inl ⟨by rfl, ?yl37⟩) hHeld ?ha37 ?hh37
    case yl37 =>
      rintro w' ⟨s0, s1⟩
      exact ld_run (x := .tmp 3) (by rfl) (by rfl) s0 Try.underlying27 rfl (by kernel_rfl)
    case ha37 =>
      simp only [Act.put, List.setIfInBounds_toArray, List.set_cons_zero, List.set_cons_succ, i64_w, i32_w]
      rfl
    refine take_ (i := 4) (N := some 23) (v := .string (strOfNums l0)) (a' := ?_) #[true, false, false, true, true, false] rfl rfl (by kernel_rfl) (fun _ _ _ h => h) (Or.inl ⟨by rfl, ?yl38⟩) hHeld ?ha38 ?hh38
    case yl38 =>
      rintro w' ⟨s0, s1⟩
      go_simp
      rw [conv_str (P := Try.prog) (t := 25) (e := 5) (u := 9) Try.underlying25 Try.underlying5 Try.underlying9 s1]
      first | rfl | (simp [Result.andThen]; done)
    case ha38 =>
      simp only [Act.put, List.setIfInBounds_toArray, List.set_cons_zero, List.set_cons_succ, i64_w, i32_w]
      rfl
    refine one_ (i := 1) (N := some 20) #[true, true, false, true, true, false] rfl rfl (by kernel_rfl) (by decide) (fun K hK => ?_)
    have he_ : spec_EncodeFrame.f q kd a b = some (P.encF q kd a b) := by unfold spec_EncodeFrame.f P.encF; rw [if_pos ⟨R0.out, R8.out, R12.out⟩]
    refine goes_ Try.func11 (by kernel_rfl) rfl #[.agg #[.int .u32 q, .int .i64 kd, .int .u32 a, .int .u32 b]] (by rfl) rfl rfl (by (try simp only [List.map_toArray, List.map_cons, List.map_nil]); first | done | rfl) ?_
    refine (spec_EncodeFrame.calls q kd a b _ _ he_).mono ?_
    rintro e w139 ⟨v_, rfl, ho, hb_⟩
    refine ⟨_, rfl, ?_⟩
    obtain ⟨Ao, co, eo⟩ := Kd.R_slice ho
    subst eo
    have HCo := Aside0.mk (Kd.R_reads' ho).2.2
    clear ho he_
    have H140 := Aside0.mk (H136.out.step hb_)
    clear hb_ H136
    refine hK.out _ _ ⟨H140.out.gt0, Kd.C_below HR0.out H140.out.below⟩ (fun hHeld => ?_)
    clear hK K
    refine norm_ (a' := ?_) ?_ ?_
    rotate_left
    · show Act.put _ (some 20) _ = _
      simp only [Act.put, List.setIfInBounds_toArray, List.set_cons_zero, List.set_cons_succ, i64_w, i32_w]
      rfl
    refine one_ (i := 2) (N := some 21) #[true, true, true, true, true, false] rfl rfl (by kernel_rfl) (by decide) (fun K hK => ?_)
    refine value_ (w1 := w139) (v := .string (strOfNums (P.encF q kd a b))) (by rfl) rfl ?_ ?_
    · go_simp
      rw [conv_str (P := Try.prog) (t := 25) (e := 5) (u := 9) Try.underlying25 Try.underlying5 Try.underlying9 HCo.out]
      first | rfl | (simp [Result.andThen]; done)
    refine hK.out _ _ ⟨H140.out.gt0, Kd.C_below HR0.out H140.out.below⟩ (fun hHeld => ?_)
    clear hK K
    refine norm_ (a' := ?_) ?_ ?_
    rotate_left
    · show Act.put _ (some 21) _ = _
      simp only [Act.put, List.setIfInBounds_toArray, List.set_cons_zero, List.set_cons_succ, i64_w, i32_w]
      rfl
    refine pure_ (i := 5) (N := some 24) (v := ?_) (a' := ?_) #[true, true, true, true, true, true] rfl rfl (by kernel_rfl) (fun _ _ _ h => h) (Or.inl ⟨by rfl, ?_⟩) ?_ ?_
    rotate_left
    · intro w'
      go_simp
      first | with_reducible rfl | rfl
    rotate_left
    · simp only [Act.put, List.setIfInBounds_toArray, List.set_cons_zero, List.set_cons_succ, i64_w, i32_w]
      rfl
    refine done_ (by kernel_rfl) ?_
    clear hHeld
    have hstr : ((strOfNums (P.encF q kd a b)).toList == (strOfNums l0).toList) = decide (isFrame l0) := str_frame HU.out H64.out HI.out
    by_cases hf : isFrame l0
    · rw [decide_eq_true hf] at hstr
      rw [hstr]
      have HF := Aside0.mk hf
      clear hf hstr
      go_wp2_with (first | ((with_reducible refine gate_dst (N := 26) rfl ?_); refine Aside0.out ?_))
      refine Aside0.mk ?_
      refine ld ?hw41 rfl ?hx41 H140.out.gt0 Try.underlying27 rfl (by kernel_rfl) ?_
      case hw41 => rfl
      case hx41 => rfl
      go_wp2_with (first | ((with_reducible refine gate_store (t := 33) (p := 2) rfl ?_); refine Aside0.out ?_))
      refine Aside0.mk ?_
      refine st_all ?hw42 ?hN42 rfl ?hp42 (cs := #[.bool true, .int .u32 q, .int .i64 kd, .int .u32 a, .int .u32 b]) ?hx42 H140.out.gt1 (by kernel_rfl) rfl (by simp [Value.oneCell']) ?_
      case hw42 => rfl
      case hN42 => rfl
      case hp42 => rfl
      case hx42 => first | rfl | (go_simp; rfl)
      intro w142 hb42 hS42
      have H143 := Aside0.mk (H140.out.wr1 (cs' := #[.bool true, .int .u32 q, .int .i64 kd, .int .u32 a, .int .u32 b]) hb42 hS42)
      clear hb42 hS42 H140
      go_wp2
      refine bodyPost_ret (results_cell_row rfl _ _ g2 33 #[.bool true, .int .u32 q, .int .i64 kd, .int .u32 a, .int .u32 b] (0, 0) _ rfl H143.out.gt1 Try.underlying33 rfl (by kernel_rfl)) rfl ?_
      have h := H.out
      rw [if_pos ⟨H64.out, HF.out⟩] at h
      cases h
      exact ⟨rfl, H143.out.below⟩
    · rw [decide_eq_false hf] at hstr
      rw [hstr]
      have HF := Aside0.mk hf
      clear hf hstr
      go_wp2_with (first | ((with_reducible refine gate_store (t := 33) (p := 2) rfl ?_); refine Aside0.out ?_))
      refine Aside0.mk ?_
      refine st_all ?hw41 ?hN41 rfl ?hp41 (cs := #[.bool false, .int .u32 0, .int .i64 0, .int .u32 0, .int .u32 0]) ?hx41 H140.out.gt1 (by kernel_rfl) rfl (by simp [Value.oneCell']) ?_
      case hw41 => rfl
      case hN41 => rfl
      case hp41 => rfl
      case hx41 => first | rfl | (go_simp; rfl)
      intro w141 hb41 hS41
      have H142 := Aside0.mk (H140.out.wr1 (cs' := #[.bool false, .int .u32 0, .int .i64 0, .int .u32 0, .int .u32 0]) hb41 hS41)
      clear hb41 hS41 H140
      go_wp2
      refine bodyPost_ret (results_cell_row rfl _ _ g2 33 #[.bool false, .int .u32 0, .int .i64 0, .int .u32 0, .int .u32 0] (0, 0) _ rfl H142.out.gt1 Try.underlying33 rfl (by kernel_rfl)) rfl ?_
      have h := H.out
      rw [if_neg (fun h => HF.out h.2)] at h
      cases h
      exact ⟨rfl, H142.out.below⟩
  · have h64b : ((l0.length : Int) != 64) = true := bne_iff_ne.mpr (by omega)
    have H64 := Aside0.mk h64
    clear h64
    go_wp2_with (first | ((with_reducible refine gate_store (t := 33) (p := 2) rfl ?_); refine Aside0.out ?_))
    refine Aside0.mk ?_
    refine st_all ?hw3 ?hN3 rfl ?hp3 (cs := #[.bool false, .int .u32 0, .int .i64 0, .int .u32 0, .int .u32 0]) ?hx3 H102.out.gt0 (by kernel_rfl) rfl (by simp [Value.oneCell']) ?_
    case hw3 => rfl
    case hN3 => rfl
    case hp3 => rfl
    case hx3 => first | rfl | (go_simp; rfl)
    intro w103 hb3 hS3
    have H104 := Aside0.mk (H102.out.wr0 (cs' := #[.bool false, .int .u32 0, .int .i64 0, .int .u32 0, .int .u32 0]) hb3 hS3)
    clear hb3 hS3 H102
    go_wp2
    refine bodyPost_ret (results_cell_row rfl _ _ g2 33 #[.bool false, .int .u32 0, .int .i64 0, .int .u32 0, .int .u32 0] (0, 0) _ rfl H104.out.gt0 Try.underlying33 rfl (by kernel_rfl)) rfl ?_
    have h := H.out
    rw [if_neg (fun h => H64.out h.1)] at h
    cases h
    exact ⟨rfl, H104.out.below⟩
end Go.Proofs.Ytgfadfahbhcllaa.Q
namespace Go.Proofs.Ytgfadfahbhcllaa.P
open Go.RowKit Go.Proofs.YtgfadfahbhcllaaW.PrintWords Go.Proofs.YtgfadfahbhcllaaW.PrintMore Go.Proofs.Ytgfadfahbhcllaa.Q
set_option linter.unusedVariables false
set_option linter.unusedSimpArgs false
theorem spec_enc (q kd a b : Int) (hq : 0 ≤ q ∧ q ≤ 4294967295) (ha : 0 ≤ a ∧ a ≤ 4294967295) (hb : 0 ≤ b ∧ b ≤ 4294967295) : spec_EncodeFrame.f q kd a b = some (encF q kd a b) := by
  unfold spec_EncodeFrame.f encF
  rw [if_pos ⟨hq, ha, hb⟩]
theorem impl_enc (q kd a b : Int) (hq : 0 ≤ q ∧ q ≤ 4294967295) (ha : 0 ≤ a ∧ a ≤ 4294967295) (hb : 0 ≤ b ∧ b ≤ 4294967295) : impl_EncodeFrame.f q kd a b = some (encF q kd a b) := by
  unfold impl_EncodeFrame.f encF
  rw [if_pos ⟨hq, ha, hb⟩]
/-- What DecodeFrame answers. -/
def decF (l : List Int) : Bool × Int × Int × Int × Int := if l.length = 64 ∧ isFrame l then (true, fSeq l, fKind l, fA l, fB l) else (false, 0, 0, 0, 0)
theorem impl_dec {l : List Int} (hu : U8s l) : impl_DecodeFrame.f l = some (decF l) := by
  unfold impl_DecodeFrame.f decF
  rw [if_pos hu]
theorem spec_dec {l : List Int} (hu : U8s l) : spec_DecodeFrame.f l = some (decF l) := by
  unfold spec_DecodeFrame.f decF
  rw [if_pos hu]
end Go.Proofs.Ytgfadfahbhcllaa.P
namespace Go.Proofs.Ytgfadfahbhcllaa.Q
open Go.RowKit Go.Proofs.YtgfadfahbhcllaaW.PrintWords Go.Proofs.YtgfadfahbhcllaaW.PrintLast Go.Proofs.Ytgfadfahbhcllaa.LK Go.Proofs.YtgfadfahbhcllaaW.PrintMore
attribute [local go_sem] max2_int min2_int max_two min_two max_three min_three max_four min_four   -- for this text's walks alone
set_option linter.unusedVariables false
set_option linter.unusedSimpArgs false

/-- A state of type 121 at block g of W; what its slices lead to came in by w0. -/
def IsS121 (w0 W : World) (g : Nat) (f0 : List Int) (f1 : Int) (f2 : Int) : Prop := ∃ A0 c0, W.heap[g]? = some (.cells #[.slice A0 f0.length c0, .int .i64 f1, .int .i64 f2] 121 (0, 0)) ∧ w0.heap.size ≤ g ∧ Kd.C (Kd.int .u8) w0 A0 f0.length f0
theorem IsS121.grown {w0 W : World} {g : Nat} {f0 : List Int} {f1 : Int} {f2 : Int} {W1 : World} {row : Option Nat} (h : IsS121 w0 W g f0 f1 f2) (hw : W.grownBy W1 row) (hne : some g ≠ row) : IsS121 w0 W1 g f0 f1 f2 := by
  obtain ⟨A0, c0, hb, hg, hr0⟩ := h
  exact ⟨A0, c0, blk_grown hb hw hne, hg, hr0⟩
theorem IsS121.own_neN {w0 W : World} {g : Nat} {f0 : List Int} {f1 : Int} {f2 : Int} {α : Type} {d : Kd α} {e : Nat} {base : Nat} {ok : Nat → Prop} {v : Value} {xs : List α} (h : IsS121 w0 W g f0 f1 f2) (ho : Kd.N d e W base ok v xs) (ht : e ≠ 121) : some g ≠ v.ownBlock := by
  obtain ⟨A0, c0, hb, hg, hr0⟩ := h
  exact Kd.N_ne ho hb ht
theorem IsS121.fresh {w0 W : World} {g : Nat} {f0 : List Int} {f1 : Int} {f2 : Int} (h : IsS121 w0 W g f0 f1 f2) : ∀ k, W.heap.size ≤ k → k ≠ g := by
  obtain ⟨A0, c0, hb, hg, hr0⟩ := h
  exact Kd.freshB hb
theorem IsS121.kept {w0 W : World} {g : Nat} {f0 : List Int} {f1 : Int} {f2 : Int} {W1 : World} {S : Nat → Prop} (h : IsS121 w0 W g f0 f1 f2) (hk : Kept W W1 S) (hne : ¬ S g) : IsS121 w0 W1 g f0 f1 f2 := by
  obtain ⟨A0, c0, hb, hg, hr0⟩ := h
  exact ⟨A0, c0, blk_kept hb hk hne, hg, hr0⟩
theorem IsS121.below {w0 W : World} {g : Nat} {f0 : List Int} {f1 : Int} {f2 : Int} {W1 : World} (h : IsS121 w0 W g f0 f1 f2) (hw : Below W.heap.size W W1) : IsS121 w0 W1 g f0 f1 f2 := h.grown (grown_of_below hw none) (by simp)
theorem IsS121.alloc {w0 W : World} {g : Nat} {f0 : List Int} {f1 : Int} {f2 : Int} (h : IsS121 w0 W g f0 f1 f2) (o : Obj) : IsS121 w0 (W.alloc o) g f0 f1 f2 := h.below (below_alloc (Below.refl _ _) o)
theorem IsS121.drewN {w0 W : World} {g : Nat} {f0 : List Int} {f1 : Int} {f2 : Int} (h : IsS121 w0 W g f0 f1 f2) (m : Nat) : IsS121 w0 (W.drewN m) g f0 f1 f2 := h
theorem IsS121.drew {w0 W : World} {g : Nat} {f0 : List Int} {f1 : Int} {f2 : Int} (h : IsS121 w0 W g f0 f1 f2) : IsS121 w0 W.drew g f0 f1 f2 := h
theorem IsS121.at_ {w0 W : World} {g : Nat} {f0 : List Int} {f1 : Int} {f2 : Int} {w' : World} {m : Nat} (hq : W.drewN m = w') (h : IsS121 w0 W g f0 f1 f2) : IsS121 w0 w' g f0 f1 f2 := by subst hq; exact IsS121.drewN h m
theorem IsS121.apart {w0 W : World} {g : Nat} {f0 : List Int} {f1 : Int} {f2 : Int} {α : Type} {d : Kd α} {e : Nat} {base : Nat} {ok : Nat → Prop} {v : Value} {xs : List α} (h : IsS121 w0 W g f0 f1 f2) (ho : d.R e W base ok v xs) (ht : ∀ q, q ∈ e :: d.E → q ≠ 121) : d.R e W base (fun k => ok k ∧ k ≠ g) v xs := by
  obtain ⟨A0, c0, hb, hg, hr0⟩ := h
  exact Kd.R_types ho hb ht
theorem IsS121.own_ne {w0 W : World} {g : Nat} {f0 : List Int} {f1 : Int} {f2 : Int} {α : Type} {d : Kd α} {e : Nat} {base : Nat} {ok : Nat → Prop} {v : Value} {xs : List α} (h : IsS121 w0 W g f0 f1 f2) (ho : d.R e W base ok v xs) (ht : e ≠ 121) : some g ≠ v.ownBlock := by
  obtain ⟨A0, c0, hb, hg, hr0⟩ := h
  exact Kd.R_ne ho hb ht
theorem IsS121.apartQ {w0 W : World} {g : Nat} {f0 : List Int} {f1 : Int} {f2 : Int} {α : Type} {d : Kd α} {e : Nat} {base : Nat} {ok : Nat → Prop} {v : Value} {xs : List α} (h : IsS121 w0 W g f0 f1 f2) (ho : d.Q e W base ok v xs) (ht : ∀ q, q ∈ e :: d.E → q ≠ 121) : d.Q e W base (fun k => ok k ∧ k ≠ g) v xs := by
  obtain ⟨A0, c0, hb, hg, hr0⟩ := h
  exact Kd.Q_types ho hb ht
theorem IsS121.own_neQ {w0 W : World} {g : Nat} {f0 : List Int} {f1 : Int} {f2 : Int} {α : Type} {d : Kd α} {e : Nat} {base : Nat} {ok : Nat → Prop} {v : Value} {xs : List α} (h : IsS121 w0 W g f0 f1 f2) (ho : d.Q e W base ok v xs) (ht : e ≠ 121) : some g ≠ v.ownBlock := by
  obtain ⟨A0, c0, hb, hg, hr0⟩ := h
  exact Kd.Q_ne ho hb ht
theorem IsS121.apartS {w0 W : World} {g : Nat} {f0 : List Int} {f1 : Int} {f2 : Int} {α : Type} {d : Kd α} {e : Nat} {base : Nat} {ok : Nat → Prop} {v : Value} {xs : List α} (h : IsS121 w0 W g f0 f1 f2) (ho : d.S e W base ok v xs) (ht : ∀ q, q ∈ e :: d.E → q ≠ 121) : d.S e W base (fun k => ok k ∧ k ≠ g) v xs := by
  obtain ⟨A0, c0, hb, hg, hr0⟩ := h
  exact Kd.S_types ho hb ht
theorem IsS121.own_neS {w0 W : World} {g : Nat} {f0 : List Int} {f1 : Int} {f2 : Int} {α : Type} {d : Kd α} {e : Nat} {base : Nat} {ok : Nat → Prop} {v : Value} {xs : List α} (h : IsS121 w0 W g f0 f1 f2) (ho : d.S e W base ok v xs) (ht : e ≠ 121) : some g ≠ v.ownBlock := by
  obtain ⟨A0, c0, hb, hg, hr0⟩ := h
  exact Kd.S_ne ho hb ht
theorem IsS121.lt {w0 W : World} {g : Nat} {f0 : List Int} {f1 : Int} {f2 : Int} (h : IsS121 w0 W g f0 f1 f2) : g < W.heap.size := by
  obtain ⟨A0, c0, hb, hg, hr0⟩ := h
  exact blk_lt hb
theorem IsS121.ge {w0 W : World} {g : Nat} {f0 : List Int} {f1 : Int} {f2 : Int} (h : IsS121 w0 W g f0 f1 f2) : w0.heap.size ≤ g := by
  obtain ⟨A0, c0, hb, hg, hr0⟩ := h
  exact hg
theorem IsS121.ne_blk {w0 W : World} {g : Nat} {f0 : List Int} {f1 : Int} {f2 : Int} {a : Nat} {cs : Array Value} {t : TypeId} {fr : Nat × Nat} (h : IsS121 w0 W g f0 f1 f2) (hb2 : W.heap[a]? = some (.cells cs t fr)) (ht : t ≠ 121) : g ≠ a := by
  obtain ⟨A0, c0, hb, hg, hr0⟩ := h
  rintro rfl
  rw [hb] at hb2
  injection hb2 with hb2
  injection hb2 with _ ht2
  exact ht ht2.symm
theorem IsS121.far {w0 W : World} {g : Nat} {f0 : List Int} {f1 : Int} {f2 : Int} {p : Addr} (h : IsS121 w0 W g f0 f1 f2) (hne : g ≠ p.block) (u : Value) : IsS121 w0 (W.setCell p u) g f0 f1 f2 := by
  obtain ⟨A0, c0, hb, hg, hr0⟩ := h
  exact ⟨A0, c0, blk_far hb hne u, hg, hr0⟩
theorem cellS121_0 {W : World} {g : Nat} {A0 : Option Addr} {c0 : Nat} {f0 : List Int} {f1 : Int} {f2 : Int} (h : W.heap[g]? = some (.cells #[.slice A0 f0.length c0, .int .i64 f1, .int .i64 f2] 121 (0, 0))) : W.cell? ⟨g, 0, none⟩ = some (.slice A0 f0.length c0) := (blk_cell h 0).trans rfl
theorem cellS121_1 {W : World} {g : Nat} {A0 : Option Addr} {c0 : Nat} {f0 : List Int} {f1 : Int} {f2 : Int} (h : W.heap[g]? = some (.cells #[.slice A0 f0.length c0, .int .i64 f1, .int .i64 f2] 121 (0, 0))) : W.cell? ⟨g, 1, none⟩ = some (.int .i64 f1) := (blk_cell h 1).trans rfl
theorem IsS121.set_1 {w0 W : World} {g : Nat} {f0 : List Int} {f1 : Int} {f2 : Int} (h : IsS121 w0 W g f0 f1 f2) (x : Int) : IsS121 w0 (W.setCell ⟨g, 1, none⟩ (.int .i64 x)) g f0 x f2 := by
  obtain ⟨A0, c0, hb, hg, hr0⟩ := h
  exact ⟨A0, c0, by simpa using blk_set hb 1 (.int .i64 x), hg, hr0⟩
theorem cellS121_2 {W : World} {g : Nat} {A0 : Option Addr} {c0 : Nat} {f0 : List Int} {f1 : Int} {f2 : Int} (h : W.heap[g]? = some (.cells #[.slice A0 f0.length c0, .int .i64 f1, .int .i64 f2] 121 (0, 0))) : W.cell? ⟨g, 2, none⟩ = some (.int .i64 f2) := (blk_cell h 2).trans rfl
theorem IsS121.set_2 {w0 W : World} {g : Nat} {f0 : List Int} {f1 : Int} {f2 : Int} (h : IsS121 w0 W g f0 f1 f2) (x : Int) : IsS121 w0 (W.setCell ⟨g, 2, none⟩ (.int .i64 x)) g f0 f1 x := by
  obtain ⟨A0, c0, hb, hg, hr0⟩ := h
  exact ⟨A0, c0, by simpa using blk_set hb 2 (.int .i64 x), hg, hr0⟩
theorem IsS121.new (w0 W : World) (A0 : Option Addr) (c0 : Nat) (f0 : List Int) (f1 : Int) (f2 : Int) (hB : Below w0.heap.size w0 W) (hr0 : Kd.C (Kd.int .u8) w0 A0 f0.length f0) : IsS121 w0 (W.alloc (.cells #[.slice A0 f0.length c0, .int .i64 f1, .int .i64 f2] 121)) W.heap.size f0 f1 f2 := ⟨A0, c0, by simpa using heap_alloc_new W _, hB.size, hr0⟩

/-! ### spec_l1New: function 57 -/
def spec_l1New.l0 : Nat → List Int → Int → Int → Option (List Int × Int × Int)
  | 0, _, _, _ => none
  | k + 1, x0, x3, x4 => if x4 < (x0.length : Int) then (if 0 ≤ x4 then (spec_l1New.l0 k x0 (Go.bits .and .i64 (wrap64 ((wrap64 ((wrap64 (x3 * 131)) + (wrap64 (rd x0 x4)))) + 7)) 1073741823) (wrap64 (x4 + 1))) else (none)) else (some (x0, 0, x3))
def spec_l1New.f (k : Nat) (l0 : List Int) : Option (List Int × Int × Int) := spec_l1New.l0 k l0 (wrap64 (54321 + (l0.length : Int))) 0
theorem spec_l1New.mono_l : ∀ k, (∀ y0 y1 y2, LeO (spec_l1New.l0 k y0 y1 y2) (spec_l1New.l0 (k + 1) y0 y1 y2))
  | 0 => fun _ _ _ r h => by simp [spec_l1New.l0] at h
  | k + 1 => by
    have ih0 := spec_l1New.mono_l k
    · intro y0 y1 y2
      unfold spec_l1New.l0
      repeat' first
      | (with_reducible exact ih0 _ _ _)
      | (with_reducible exact LeO.refl _)
      | (with_reducible exact LeO.none _)
      | (with_reducible refine LeO.ite ?_ ?_)
      | (with_reducible refine LeO.bind ?_ (fun _ => ?_))
      | exact ih0 _ _ _
      | exact LeO.none _
      | refine LeO.ite ?_ ?_
      | refine LeO.bind ?_ (fun _ => ?_)
theorem spec_l1New.mono : ∀ a0 k, LeO (spec_l1New.f k a0) (spec_l1New.f (k + 1) a0) := by
  intro a0 k
  have ih0 := spec_l1New.mono_l k
  unfold spec_l1New.f
  repeat' first
      | (with_reducible exact ih0 _ _ _)
      | (with_reducible exact LeO.refl _)
      | (with_reducible exact LeO.none _)
      | (with_reducible refine LeO.ite ?_ ?_)
      | (with_reducible refine LeO.bind ?_ (fun _ => ?_))
      | exact ih0 _ _ _
      | exact LeO.none _
      | refine LeO.ite ?_ ?_
      | refine LeO.bind ?_ (fun _ => ?_)
set_option maxHeartbeats 8000000 in
set_option maxRecDepth 100000 in
theorem spec_l1New.calls (k : Nat) (A0 : Option Addr) (c0 : Nat) (l0 : List Int) (r1 : List Int) (r2 : Int) (r3 : Int) (w0 w : World) (hB : Below w0.heap.size w0 w) (hr0 : Kd.C (Kd.int .u8) w0 A0 l0.length l0) (hc0 : l0.length ≤ c0) (h : spec_l1New.f k l0 = some (r1, r2, r3)) :
    Calls Try.prog 57 #[.slice A0 l0.length c0] w fun e w' => ∃ g_ : Nat, e = .returned (.pointer (some ⟨g_, 0, none⟩)) ∧ IsS121 w0 w' g_ r1 r2 r3 ∧ Below w0.heap.size w0 w' ∧ Below w.heap.size w w' := by
  have hu121 := Try.underlying121
  have HR0 := Aside0.mk hr0
  have HC0 := Aside0.mk hc0
  clear hr0 hc0
  have HBW := Aside0.mk (Below.refl w.heap.size w)
  have HW0 := Aside0.mk hB.size
  have HB := Aside0.mk hB
  clear hB
  have H : (spec_l1New.l0 k l0 (wrap64 (54321 + (l0.length : Int))) 0) = some (r1, r2, r3) := h
  clear h
  have H' := Aside0.mk H
  clear H
  go_enter Try.func57, Try.ntmps57
  go_wp2
  go_loopg [3, 4] k (fun kq v3 v4 w' => ∃ (x3_1 : Int) (x4_1 : Int), v3 = .int .i64 x3_1 ∧ v4 = .int .i64 x4_1 ∧ Aside0 (spec_l1New.l0 kq l0 x3_1 x4_1 = some (r1, r2, r3)) ∧ Aside0 (kq ≤ k) ∧ Aside0 (Below w0.heap.size w0 w') ∧ Aside0 (Below w.heap.size w w'))
  case atStart => exact ⟨(wrap64 (54321 + (l0.length : Int))), (0), (by first | rfl | (simp; done) | (simp [*]; done)), (by first | rfl | (simp; done) | (simp [*]; done)), H', ⟨Nat.le_refl _⟩, ⟨by repeat (first | (with_reducible first | exact HB.out | apply below_alloc | apply pw_below_drewN | apply below_drew1) | exact HB.out)⟩, HBW⟩
  case round =>
    clear H'
    clear HBW
    obtain ⟨x3_1, x4_1, rfl, rfl, HA, HK1, HB, HBW⟩ := hrel
    cases gk with
    | zero => exact absurd HA.out (by simp [spec_l1New.l0])
    | succ k1 =>
      have H := HA.out
      clear HA
      simp only [spec_l1New.l0] at H
      by_cases c2 : x4_1 < (l0.length : Int)
      · rw [if_pos c2] at H
        have c2b0 : decide (x4_1 < (l0.length : Int)) = true := decide_eq_true c2
        clear c2
        by_cases c3 : 0 ≤ x4_1
        · rw [if_pos c3] at H
          have c3b0 : decide (0 ≤ x4_1) = true := decide_eq_true c3
          clear c3
          have H' := Aside0.mk H
          clear H
          have p101 : 0 ≤ (x4_1 : Int) := of_decide_eq_true (by first | (with_reducible assumption) | assumption)
          have q101 : x4_1 < (l0.length : Int) := of_decide_eq_true (by first | (with_reducible assumption) | assumption)
          obtain ⟨ad101, e101, hx101_0⟩ := Kd.at_int HR0.out x4_1 p101 q101
          cases e101
          replace hx101_0 := pw_cell_below HB.out hx101_0
          replace p101 := eq_true p101
          replace q101 := eq_true q101
          go_wp2
          go_roundg k1
          case measure => have := HK1.out; omega
          case rel => exact ⟨(Go.bits .and .i64 (wrap64 ((wrap64 ((wrap64 (x3_1 * 131)) + (wrap64 (rd l0 x4_1)))) + 7)) 1073741823), (wrap64 (x4_1 + 1)), (by first | rfl | (simp; done) | (simp [*]; done)), (by first | rfl | (simp; done) | (simp [*]; done)), H', ⟨by have := HK1.out; omega⟩, ⟨by repeat (first | (with_reducible first | exact HB.out | apply below_alloc | apply pw_below_drewN | apply below_drew1) | exact HB.out)⟩, HBW⟩
        · rw [if_neg c3] at H
          exact absurd H (by simp)
      · rw [if_neg c2] at H
        have c2b0 : decide (x4_1 < (l0.length : Int)) = false := decide_eq_false c2
        clear c2
        simp only [Option.some.injEq, Prod.mk.injEq] at H
        obtain ⟨rfl, rfl, rfl⟩ := H
        go_wp2_with (first | ((with_reducible refine gate_dst (N := 27) rfl ?_); refine box_event ?hg (N := 27) ?hd (cs := #[.slice A0 l0.length c0, .int .i64 0, .int .i64 x3_1]) (t := 121) ?hr ?_; (case hd => rfl); (case hg => rfl); (case hr => first | (go_simp; done) | (go_simp; rfl)); intro gb102 hg w4 hbox hb; have n0_ := Aside0.mk (below_step HBW.out hb); have n1_ := Aside0.mk (below_step (by repeat (first | (with_reducible first | exact HB.out | apply below_alloc | apply pw_below_drewN | apply below_drew1) | exact HB.out)) hb); have n2_ := Aside0.mk (hbox); have n3_ := Aside0.mk ((by rw [hg]; exact (below_size (by repeat (first | (with_reducible first | exact HBW.out | apply below_alloc | apply pw_below_drewN | apply below_drew1) | exact HBW.out))) : w.heap.size ≤ gb102)); have n4_ := Aside0.mk ((Nat.le_trans HW0.out (by rw [hg]; exact (below_size (by repeat (first | (with_reducible first | exact HBW.out | apply below_alloc | apply pw_below_drewN | apply below_drew1) | exact HBW.out))) : w.heap.size ≤ gb102) : w0.heap.size ≤ gb102)); clear HBW; clear HB; have HBW := n0_; have HB := n1_; have BK102 := n2_; have GW102 := n3_; have GE102 := n4_; clear n0_ n1_ n2_ n3_ n4_; clear hb hbox hg))
        go_ret
        exact ⟨_, rfl, (show IsS121 w0 _ gb102 l0 0 x3_1 from ⟨_, _, by (with_reducible repeat (first | refine blk_drewN ?_ _ | refine blk_drew ?_ | refine blk_alloc ?_ _)); exact BK102.out, GE102.out, HR0.out⟩), by repeat (first | (with_reducible first | exact HB.out | apply below_alloc | apply pw_below_drewN | apply below_drew1 | refine below_set ?_ GE102.out) | exact HB.out), by repeat (first | (with_reducible first | exact HBW.out | apply below_alloc | apply pw_below_drewN | apply below_drew1 | refine below_set ?_ GW102.out) | exact HBW.out)⟩

end Go.Proofs.Ytgfadfahbhcllaa.Q
namespace Go.Proofs.Ytgfadfahbhcllaa.Q
open Go.RowKit Go.Proofs.YtgfadfahbhcllaaW.PrintWords Go.Proofs.YtgfadfahbhcllaaW.PrintLast Go.Proofs.Ytgfadfahbhcllaa.LK Go.Proofs.YtgfadfahbhcllaaW.PrintMore
attribute [local go_sem] max2_int min2_int max_two min_two max_three min_three max_four min_four   -- for this text's walks alone
set_option linter.unusedVariables false
set_option linter.unusedSimpArgs false

/-! ### spec_l1Byte: function 91 -/
def spec_l1Byte.f (s0_0 : List Int) (s0_1 : Int) (s0_2 : Int) : Option (Int × Int × Int) := if s0_1 < (s0_0.length : Int) then (if 0 ≤ s0_1 then (some (Go.bits .and .i64 (wrap64 ((Go.bits .and .i64 (Go.bits .xor .i64 ((wrap64 ((wrap64 (s0_2 * 6364136223846793005)) + 1442695040888963407)) / 8589934592) ((wrap64 ((wrap64 (s0_2 * 6364136223846793005)) + 1442695040888963407)) / 35184372088832)) 255) + (wrap64 (rd s0_0 s0_1)))) 255, wrap64 (s0_1 + 1), wrap64 ((wrap64 (s0_2 * 6364136223846793005)) + 1442695040888963407))) else (none)) else (some (Go.bits .and .i64 (Go.bits .xor .i64 ((wrap64 ((wrap64 (s0_2 * 6364136223846793005)) + 1442695040888963407)) / 8589934592) ((wrap64 ((wrap64 (s0_2 * 6364136223846793005)) + 1442695040888963407)) / 35184372088832)) 255, s0_1, wrap64 ((wrap64 (s0_2 * 6364136223846793005)) + 1442695040888963407)))
set_option maxHeartbeats 8000000 in
set_option maxRecDepth 100000 in
theorem spec_l1Byte.calls (g : Nat) (s0_0 : List Int) (s0_1 : Int) (s0_2 : Int) (r1 : Int) (r2 : Int) (r3 : Int) (w0 w : World) (hI : IsS121 w0 w g s0_0 s0_1 s0_2) (hB : Below w0.heap.size w0 w) (h : spec_l1Byte.f s0_0 s0_1 s0_2 = some (r1, r2, r3)) :
    Calls Try.prog 91 #[.pointer (some ⟨g, 0, none⟩)] w fun e w' => e = .returned (.int .i64 r1) ∧ IsS121 w0 w' g s0_0 r2 r3 ∧ Below w0.heap.size w0 w' ∧ KeepBut w w' g none := by
  have HI0 := Aside0.mk hI
  have HK := Aside0.mk (KeepBut.refl w g none)
  have HL := Aside0.mk hB.size
  clear hI
  have HW0 := Aside0.mk hB.size
  have HB := Aside0.mk hB
  clear hB
  have H : (if s0_1 < (s0_0.length : Int) then (if 0 ≤ s0_1 then (some (Go.bits .and .i64 (wrap64 ((Go.bits .and .i64 (Go.bits .xor .i64 ((wrap64 ((wrap64 (s0_2 * 6364136223846793005)) + 1442695040888963407)) / 8589934592) ((wrap64 ((wrap64 (s0_2 * 6364136223846793005)) + 1442695040888963407)) / 35184372088832)) 255) + (wrap64 (rd s0_0 s0_1)))) 255, wrap64 (s0_1 + 1), wrap64 ((wrap64 (s0_2 * 6364136223846793005)) + 1442695040888963407))) else (none)) else (some (Go.bits .and .i64 (Go.bits .xor .i64 ((wrap64 ((wrap64 (s0_2 * 6364136223846793005)) + 1442695040888963407)) / 8589934592) ((wrap64 ((wrap64 (s0_2 * 6364136223846793005)) + 1442695040888963407)) / 35184372088832)) 255, s0_1, wrap64 ((wrap64 (s0_2 * 6364136223846793005)) + 1442695040888963407)))) = some (r1, r2, r3) := h
  clear h
  by_cases c2 : s0_1 < (s0_0.length : Int)
  · rw [if_pos c2] at H
    have c2b0 : decide (s0_1 < (s0_0.length : Int)) = true := decide_eq_true c2
    clear c2
    by_cases c3 : 0 ≤ s0_1
    · rw [if_pos c3] at H
      have c3b0 : decide (0 ≤ s0_1) = true := decide_eq_true c3
      clear c3
      simp only [Option.some.injEq, Prod.mk.injEq] at H
      obtain ⟨rfl, rfl, rfl⟩ := H
      obtain ⟨ASz4_0, cSz4_0, HGz4, hgz4, HSz4_0⟩ := HI0.out
      have hcz4_0 := cellS121_0 HGz4
      have hcz4_1 := cellS121_1 HGz4
      have hcz4_2 := cellS121_2 HGz4
      have hfz4_1 := blk_frozen HGz4 1
      have hfz4_2 := blk_frozen HGz4 2
      clear HGz4 hgz4
      have p101 : 0 ≤ (s0_1 : Int) := of_decide_eq_true (by first | (with_reducible assumption) | assumption)
      have q101 : s0_1 < (s0_0.length : Int) := of_decide_eq_true (by first | (with_reducible assumption) | assumption)
      obtain ⟨ad101, e101, hx101_0⟩ := Kd.at_int HSz4_0 s0_1 p101 q101
      cases e101
      have hn101_0 : ad101.block ≠ g := Nat.ne_of_lt (Nat.lt_of_lt_of_le (by have := World.block_lt_of_cell? _ _ hx101_0; first | rwa [add_block] at this | exact this) (IsS121.ge HI0.out))
      replace hx101_0 := pw_cell_below HB.out hx101_0
      replace hx101_0 := (cell_far (p := ⟨g, 2, none⟩) (by first | (rw [add_block]; exact hn101_0) | (show (Addr.add _ _).block ≠ _; rw [add_block]; exact hn101_0) | exact hn101_0) (.int .i64 (wrap64 ((wrap64 (s0_2 * 6364136223846793005)) + 1442695040888963407)))).trans hx101_0
      (try have hy101_0 := fun (n_ : Nat) => (show (((w.drewN n_).setCell ⟨g, 2, none⟩ (.int .i64 (wrap64 ((wrap64 (s0_2 * 6364136223846793005)) + 1442695040888963407))))).cell? _ = some _ from hx101_0))
      clear hn101_0
      replace p101 := eq_true p101
      replace q101 := eq_true q101
      go_enter Try.func91, Try.ntmps91
      go_wp2
      repeat (go_quiet (fail); try go_wp2)
      go_ret
      exact ⟨by first | rfl | (simp [errW_none, errW_some] <;> rfl) | (simp [*, errW_none, errW_some] <;> rfl), by repeat (first | (with_reducible first | exact HI0.out | apply IsS121.alloc | apply IsS121.drewN | apply IsS121.drew | apply IsS121.set_1 | apply IsS121.set_2) | exact HI0.out), by repeat (first | (with_reducible first | exact HB.out | apply below_alloc | apply pw_below_drewN | apply below_drew1 | refine below_set ?_ (IsS121.ge HI0.out)) | exact HB.out), by repeat (first | (with_reducible first | exact HK.out | apply KeepBut.set_ | apply keep_drewN | apply keep_drew | apply keep_alloc) | exact HK.out)⟩
    · rw [if_neg c3] at H
      exact absurd H (by simp)
  · rw [if_neg c2] at H
    have c2b0 : decide (s0_1 < (s0_0.length : Int)) = false := decide_eq_false c2
    clear c2
    simp only [Option.some.injEq, Prod.mk.injEq] at H
    obtain ⟨rfl, rfl, rfl⟩ := H
    obtain ⟨ASz5_0, cSz5_0, HGz5, hgz5, HSz5_0⟩ := HI0.out
    have hcz5_0 := cellS121_0 HGz5
    have hcz5_1 := cellS121_1 HGz5
    have hcz5_2 := cellS121_2 HGz5
    have hfz5_1 := blk_frozen HGz5 1
    have hfz5_2 := blk_frozen HGz5 2
    clear HGz5 hgz5
    go_enter Try.func91, Try.ntmps91
    go_wp2
    repeat (go_quiet (fail); try go_wp2)
    go_ret
    exact ⟨by first | rfl | (simp [errW_none, errW_some] <;> rfl) | (simp [*, errW_none, errW_some] <;> rfl), by repeat (first | (with_reducible first | exact HI0.out | apply IsS121.alloc | apply IsS121.drewN | apply IsS121.drew | apply IsS121.set_1 | apply IsS121.set_2) | exact HI0.out), by repeat (first | (with_reducible first | exact HB.out | apply below_alloc | apply pw_below_drewN | apply below_drew1 | refine below_set ?_ (IsS121.ge HI0.out)) | exact HB.out), by repeat (first | (with_reducible first | exact HK.out | apply KeepBut.set_ | apply keep_drewN | apply keep_drew | apply keep_alloc) | exact HK.out)⟩

end Go.Proofs.Ytgfadfahbhcllaa.Q
namespace Go.Proofs.Ytgfadfahbhcllaa.Q
open Go.RowKit Go.Proofs.YtgfadfahbhcllaaW.PrintWords Go.Proofs.YtgfadfahbhcllaaW.PrintLast Go.Proofs.Ytgfadfahbhcllaa.LK Go.Proofs.YtgfadfahbhcllaaW.PrintMore
attribute [local go_sem] max2_int min2_int max_two min_two max_three min_three max_four min_four   -- for this text's walks alone
set_option linter.unusedVariables false
set_option linter.unusedSimpArgs false

/-! ### spec_l1Below: function 60 -/
def spec_l1Below.f (s0_0 : List Int) (s0_1 : Int) (s0_2 : Int) (a1 : Int) : Option (Int × Int × Int) := if a1 ≤ 256 then ((spec_l1Byte.f s0_0 s0_1 s0_2).bind fun bt101 => (if a1 = 0 then (none) else (some (Int.tmod bt101.1 a1, bt101.2.1, bt101.2.2)))) else ((spec_l1Byte.f s0_0 s0_1 s0_2).bind fun bt104 => ((spec_l1Byte.f s0_0 bt104.2.1 bt104.2.2).bind fun bt107 => ((spec_l1Byte.f s0_0 bt107.2.1 bt107.2.2).bind fun bt110 => (if a1 = 0 then (none) else (some (Int.tmod (wrap64 ((wrap64 ((wrap64 (bt104.1 * 65536)) + (wrap64 (bt107.1 * 256)))) + bt110.1)) a1, bt110.2.1, bt110.2.2))))))
set_option maxHeartbeats 8000000 in
set_option maxRecDepth 100000 in
theorem spec_l1Below.calls (g : Nat) (s0_0 : List Int) (s0_1 : Int) (s0_2 : Int) (a1 : Int) (r1 : Int) (r2 : Int) (r3 : Int) (w0 w : World) (hI : IsS121 w0 w g s0_0 s0_1 s0_2) (hB : Below w0.heap.size w0 w) (h : spec_l1Below.f s0_0 s0_1 s0_2 a1 = some (r1, r2, r3)) :
    Calls Try.prog 60 #[.pointer (some ⟨g, 0, none⟩), .int .i64 a1] w fun e w' => e = .returned (.int .i64 r1) ∧ IsS121 w0 w' g s0_0 r2 r3 ∧ Below w0.heap.size w0 w' ∧ KeepBut w w' g none := by
  have HI0 := Aside0.mk hI
  have HK := Aside0.mk (KeepBut.refl w g none)
  have HL := Aside0.mk hB.size
  clear hI
  have HW0 := Aside0.mk hB.size
  have HB := Aside0.mk hB
  clear hB
  have H : (if a1 ≤ 256 then ((spec_l1Byte.f s0_0 s0_1 s0_2).bind fun bt101 => (if a1 = 0 then (none) else (some (Int.tmod bt101.1 a1, bt101.2.1, bt101.2.2)))) else ((spec_l1Byte.f s0_0 s0_1 s0_2).bind fun bt104 => ((spec_l1Byte.f s0_0 bt104.2.1 bt104.2.2).bind fun bt107 => ((spec_l1Byte.f s0_0 bt107.2.1 bt107.2.2).bind fun bt110 => (if a1 = 0 then (none) else (some (Int.tmod (wrap64 ((wrap64 ((wrap64 (bt104.1 * 65536)) + (wrap64 (bt107.1 * 256)))) + bt110.1)) a1, bt110.2.1, bt110.2.2))))))) = some (r1, r2, r3) := h
  clear h
  by_cases c3 : a1 ≤ 256
  · rw [if_pos c3] at H
    have c3b0 : decide (a1 ≤ 256) = true := decide_eq_true c3
    clear c3
    replace H := Option.bind_eq_some_iff.mp H
    obtain ⟨⟨t101, t102, t103⟩, A40, H⟩ := H
    replace H : (if a1 = 0 then (none) else (some (Int.tmod t101 a1, t102, t103))) = some (r1, r2, r3) := H
    have A4 := Aside0.mk A40
    clear A40
    by_cases c5 : a1 = 0
    · rw [if_pos c5] at H
      exact absurd H (by simp)
    · rw [if_neg c5] at H
      have c5b0 : (a1 == 0) = false := beq_eq_false_iff_ne.mpr c5
      have c5b1 : (a1 != 0) = true := bne_iff_ne.mpr c5
      simp only [Option.some.injEq, Prod.mk.injEq] at H
      obtain ⟨rfl, rfl, rfl⟩ := H
      go_enter Try.func60, Try.ntmps60
      go_wp2_with (first | ((with_reducible refine gate_callee (f := 91) rfl ?_); refine goesL_ (some 11) rfl rfl Try.func91 (by kernel_rfl) rfl #[.pointer (some ⟨g, 0, none⟩)] rfl (by (try simp only [List.map_toArray, List.map_cons, List.map_nil]); first | done | rfl | (simp only [List.length_drop, List.length_take]; rfl)) ?_; (with_reducible refine (spec_l1Byte.calls g s0_0 s0_1 s0_2 t101 t102 t103 w0 _ ?side1 ?side2 A4.out).mono ?_); (case side1 => repeat (first | (with_reducible first | exact HI0.out | apply IsS121.alloc | apply IsS121.drewN | apply IsS121.drew | apply IsS121.set_1 | apply IsS121.set_2) | exact HI0.out)); (case side2 => repeat (first | (with_reducible first | exact HB.out | apply below_alloc | apply pw_below_drewN | apply below_drew1 | refine below_set ?_ (IsS121.ge HI0.out)) | exact HB.out)); rintro e w6 ⟨rfl, hi, hb, hk⟩; refine ⟨_, rfl, ?_⟩; have n0_ := Aside0.mk (KeepBut.trans (by repeat (first | (with_reducible first | exact HK.out | apply KeepBut.set_ | apply keep_drewN | apply keep_drew | apply keep_alloc) | exact HK.out)) hk (.inl rfl)); have n1_ := Aside0.mk (hb); have n2_ := Aside0.mk (hi); clear HK; clear HB; clear HI0; have HK := n0_; have HB := n1_; have HI0 := n2_; clear n0_ n1_ n2_; (try clear hb); (try clear hb2); (try clear hk); (try clear hi)))
      go_ret
      exact ⟨by first | rfl | (simp [errW_none, errW_some] <;> rfl) | (simp [*, errW_none, errW_some] <;> rfl), by repeat (first | (with_reducible first | exact HI0.out | apply IsS121.alloc | apply IsS121.drewN | apply IsS121.drew | apply IsS121.set_1 | apply IsS121.set_2) | exact HI0.out), by repeat (first | (with_reducible first | exact HB.out | apply below_alloc | apply pw_below_drewN | apply below_drew1 | refine below_set ?_ (IsS121.ge HI0.out)) | exact HB.out), by repeat (first | (with_reducible first | exact HK.out | apply KeepBut.set_ | apply keep_drewN | apply keep_drew | apply keep_alloc) | exact HK.out)⟩
  · rw [if_neg c3] at H
    have c3b0 : decide (a1 ≤ 256) = false := decide_eq_false c3
    clear c3
    replace H := Option.bind_eq_some_iff.mp H
    obtain ⟨⟨t104, t105, t106⟩, A70, H⟩ := H
    replace H : ((spec_l1Byte.f s0_0 t105 t106).bind fun bt107 => ((spec_l1Byte.f s0_0 bt107.2.1 bt107.2.2).bind fun bt110 => (if a1 = 0 then (none) else (some (Int.tmod (wrap64 ((wrap64 ((wrap64 (t104 * 65536)) + (wrap64 (bt107.1 * 256)))) + bt110.1)) a1, bt110.2.1, bt110.2.2))))) = some (r1, r2, r3) := H
    have A7 := Aside0.mk A70
    clear A70
    replace H := Option.bind_eq_some_iff.mp H
    obtain ⟨⟨t107, t108, t109⟩, A80, H⟩ := H
    replace H : ((spec_l1Byte.f s0_0 t108 t109).bind fun bt110 => (if a1 = 0 then (none) else (some (Int.tmod (wrap64 ((wrap64 ((wrap64 (t104 * 65536)) + (wrap64 (t107 * 256)))) + bt110.1)) a1, bt110.2.1, bt110.2.2)))) = some (r1, r2, r3) := H
    have A8 := Aside0.mk A80
    clear A80
    replace H := Option.bind_eq_some_iff.mp H
    obtain ⟨⟨t110, t111, t112⟩, A90, H⟩ := H
    replace H : (if a1 = 0 then (none) else (some (Int.tmod (wrap64 ((wrap64 ((wrap64 (t104 * 65536)) + (wrap64 (t107 * 256)))) + t110)) a1, t111, t112))) = some (r1, r2, r3) := H
    have A9 := Aside0.mk A90
    clear A90
    by_cases c10 : a1 = 0
    · rw [if_pos c10] at H
      exact absurd H (by simp)
    · rw [if_neg c10] at H
      have c10b0 : (a1 == 0) = false := beq_eq_false_iff_ne.mpr c10
      have c10b1 : (a1 != 0) = true := bne_iff_ne.mpr c10
      simp only [Option.some.injEq, Prod.mk.injEq] at H
      obtain ⟨rfl, rfl, rfl⟩ := H
      go_enter Try.func60, Try.ntmps60
      go_wp2_with (first | ((with_reducible refine gate_callee (f := 91) rfl ?_); refine goesL_ (some 15) rfl rfl Try.func91 (by kernel_rfl) rfl #[.pointer (some ⟨g, 0, none⟩)] rfl (by (try simp only [List.map_toArray, List.map_cons, List.map_nil]); first | done | rfl | (simp only [List.length_drop, List.length_take]; rfl)) ?_; (with_reducible refine (spec_l1Byte.calls g s0_0 s0_1 s0_2 t104 t105 t106 w0 _ ?side1 ?side2 A7.out).mono ?_); (case side1 => repeat (first | (with_reducible first | exact HI0.out | apply IsS121.alloc | apply IsS121.drewN | apply IsS121.drew | apply IsS121.set_1 | apply IsS121.set_2) | exact HI0.out)); (case side2 => repeat (first | (with_reducible first | exact HB.out | apply below_alloc | apply pw_below_drewN | apply below_drew1 | refine below_set ?_ (IsS121.ge HI0.out)) | exact HB.out)); rintro e w11 ⟨rfl, hi, hb, hk⟩; refine ⟨_, rfl, ?_⟩; have n0_ := Aside0.mk (KeepBut.trans (by repeat (first | (with_reducible first | exact HK.out | apply KeepBut.set_ | apply keep_drewN | apply keep_drew | apply keep_alloc) | exact HK.out)) hk (.inl rfl)); have n1_ := Aside0.mk (hb); have n2_ := Aside0.mk (hi); clear HK; clear HB; clear HI0; have HK := n0_; have HB := n1_; have HI0 := n2_; clear n0_ n1_ n2_; (try clear hb); (try clear hb2); (try clear hk); (try clear hi)) | ((with_reducible refine gate_callee (f := 91) rfl ?_); refine goesL_ (some 17) rfl rfl Try.func91 (by kernel_rfl) rfl #[.pointer (some ⟨g, 0, none⟩)] rfl (by (try simp only [List.map_toArray, List.map_cons, List.map_nil]); first | done | rfl | (simp only [List.length_drop, List.length_take]; rfl)) ?_; (with_reducible refine (spec_l1Byte.calls g s0_0 t105 t106 t107 t108 t109 w0 _ ?side1 ?side2 A8.out).mono ?_); (case side1 => repeat (first | (with_reducible first | exact HI0.out | apply IsS121.alloc | apply IsS121.drewN | apply IsS121.drew | apply IsS121.set_1 | apply IsS121.set_2) | exact HI0.out)); (case side2 => repeat (first | (with_reducible first | exact HB.out | apply below_alloc | apply pw_below_drewN | apply below_drew1 | refine below_set ?_ (IsS121.ge HI0.out)) | exact HB.out)); rintro e w12 ⟨rfl, hi, hb, hk⟩; refine ⟨_, rfl, ?_⟩; have n0_ := Aside0.mk (KeepBut.trans (by repeat (first | (with_reducible first | exact HK.out | apply KeepBut.set_ | apply keep_drewN | apply keep_drew | apply keep_alloc) | exact HK.out)) hk (.inl rfl)); have n1_ := Aside0.mk (hb); have n2_ := Aside0.mk (hi); clear HK; clear HB; clear HI0; have HK := n0_; have HB := n1_; have HI0 := n2_; clear n0_ n1_ n2_; (try clear hb); (try clear hb2); (try clear hk); (try clear hi)) | ((with_reducible refine gate_callee (f := 91) rfl ?_); refine goesL_ (some 19) rfl rfl Try.func91 (by kernel_rfl) rfl #[.pointer (some ⟨g, 0, none⟩)] rfl (by (try simp only [List.map_toArray, List.map_cons, List.map_nil]); first | done | rfl | (simp only [List.length_drop, List.length_take]; rfl)) ?_; (with_reducible refine (spec_l1Byte.calls g s0_0 t108 t109 t110 t111 t112 w0 _ ?side1 ?side2 A9.out).mono ?_); (case side1 => repeat (first | (with_reducible first | exact HI0.out | apply IsS121.alloc | apply IsS121.drewN | apply IsS121.drew | apply IsS121.set_1 | apply IsS121.set_2) | exact HI0.out)); (case side2 => repeat (first | (with_reducible first | exact HB.out | apply below_alloc | apply pw_below_drewN | apply below_drew1 | refine below_set ?_ (IsS121.ge HI0.out)) | exact HB.out)); rintro e w13 ⟨rfl, hi, hb, hk⟩; refine ⟨_, rfl, ?_⟩; have n0_ := Aside0.mk (KeepBut.trans (by repeat (first | (with_reducible first | exact HK.out | apply KeepBut.set_ | apply keep_drewN | apply keep_drew | apply keep_alloc) | exact HK.out)) hk (.inl rfl)); have n1_ := Aside0.mk (hb); have n2_ := Aside0.mk (hi); clear HK; clear HB; clear HI0; have HK := n0_; have HB := n1_; have HI0 := n2_; clear n0_ n1_ n2_; (try clear hb); (try clear hb2); (try clear hk); (try clear hi)))
      go_ret
      exact ⟨by first | rfl | (simp [errW_none, errW_some] <;> rfl) | (simp [*, errW_none, errW_some] <;> rfl), by repeat (first | (with_reducible first | exact HI0.out | apply IsS121.alloc | apply IsS121.drewN | apply IsS121.drew | apply IsS121.set_1 | apply IsS121.set_2) | exact HI0.out), by repeat (first | (with_reducible first | exact HB.out | apply below_alloc | apply pw_below_drewN | apply below_drew1 | refine below_set ?_ (IsS121.ge HI0.out)) | exact HB.out), by repeat (first | (with_reducible first | exact HK.out | apply KeepBut.set_ | apply keep_drewN | apply keep_drew | apply keep_alloc) | exact HK.out)⟩

end Go.Proofs.Ytgfadfahbhcllaa.Q
namespace Go.Proofs.Ytgfadfahbhcllaa.Q
open Go.RowKit Go.Proofs.YtgfadfahbhcllaaW.PrintWords Go.Proofs.YtgfadfahbhcllaaW.PrintLast Go.Proofs.Ytgfadfahbhcllaa.LK Go.Proofs.YtgfadfahbhcllaaW.PrintMore
attribute [local go_sem] max2_int min2_int max_two min_two max_three min_three max_four min_four   -- for this text's walks alone
set_option linter.unusedVariables false
set_option linter.unusedSimpArgs false

/-! ### spec_l1Once: function 59 -/
def spec_l1Once.f (s0_0 : List Int) (s0_1 : Int) (s0_2 : Int) (a1 : Int) : Option (Bool × Int × Int) := (spec_l1Below.f s0_0 s0_1 s0_2 a1).bind fun bt101 => (some ((bt101.1 == 0), bt101.2.1, bt101.2.2))
set_option maxHeartbeats 8000000 in
set_option maxRecDepth 100000 in
theorem spec_l1Once.calls (g : Nat) (s0_0 : List Int) (s0_1 : Int) (s0_2 : Int) (a1 : Int) (r1 : Bool) (r2 : Int) (r3 : Int) (w0 w : World) (hI : IsS121 w0 w g s0_0 s0_1 s0_2) (hB : Below w0.heap.size w0 w) (h : spec_l1Once.f s0_0 s0_1 s0_2 a1 = some (r1, r2, r3)) :
    Calls Try.prog 59 #[.pointer (some ⟨g, 0, none⟩), .int .i64 a1] w fun e w' => e = .returned (.bool r1) ∧ IsS121 w0 w' g s0_0 r2 r3 ∧ Below w0.heap.size w0 w' ∧ KeepBut w w' g none := by
  have HI0 := Aside0.mk hI
  have HK := Aside0.mk (KeepBut.refl w g none)
  have HL := Aside0.mk hB.size
  clear hI
  have HW0 := Aside0.mk hB.size
  have HB := Aside0.mk hB
  clear hB
  have H : ((spec_l1Below.f s0_0 s0_1 s0_2 a1).bind fun bt101 => (some ((bt101.1 == 0), bt101.2.1, bt101.2.2))) = some (r1, r2, r3) := h
  clear h
  replace H := Option.bind_eq_some_iff.mp H
  obtain ⟨⟨t101, t102, t103⟩, A30, H⟩ := H
  replace H : (some ((t101 == 0), t102, t103)) = some (r1, r2, r3) := H
  have A3 := Aside0.mk A30
  clear A30
  simp only [Option.some.injEq, Prod.mk.injEq] at H
  obtain ⟨rfl, rfl, rfl⟩ := H
  go_enter Try.func59, Try.ntmps59
  go_wp2_with (first | ((with_reducible refine gate_callee (f := 60) rfl ?_); refine goesL_ (some 7) rfl rfl Try.func60 (by kernel_rfl) rfl #[.pointer (some ⟨g, 0, none⟩), .int .i64 a1] rfl (by (try simp only [List.map_toArray, List.map_cons, List.map_nil]); first | done | rfl | (simp only [List.length_drop, List.length_take]; rfl)) ?_; (with_reducible refine (spec_l1Below.calls g s0_0 s0_1 s0_2 a1 t101 t102 t103 w0 _ ?side1 ?side2 A3.out).mono ?_); (case side1 => repeat (first | (with_reducible first | exact HI0.out | apply IsS121.alloc | apply IsS121.drewN | apply IsS121.drew | apply IsS121.set_1 | apply IsS121.set_2) | exact HI0.out)); (case side2 => repeat (first | (with_reducible first | exact HB.out | apply below_alloc | apply pw_below_drewN | apply below_drew1 | refine below_set ?_ (IsS121.ge HI0.out)) | exact HB.out)); rintro e w4 ⟨rfl, hi, hb, hk⟩; refine ⟨_, rfl, ?_⟩; have n0_ := Aside0.mk (KeepBut.trans (by repeat (first | (with_reducible first | exact HK.out | apply KeepBut.set_ | apply keep_drewN | apply keep_drew | apply keep_alloc) | exact HK.out)) hk (.inl rfl)); have n1_ := Aside0.mk (hb); have n2_ := Aside0.mk (hi); clear HK; clear HB; clear HI0; have HK := n0_; have HB := n1_; have HI0 := n2_; clear n0_ n1_ n2_; (try clear hb); (try clear hb2); (try clear hk); (try clear hi)))
  go_ret
  exact ⟨by first | rfl | (simp [errW_none, errW_some] <;> rfl) | (simp [*, errW_none, errW_some] <;> rfl), by repeat (first | (with_reducible first | exact HI0.out | apply IsS121.alloc | apply IsS121.drewN | apply IsS121.drew | apply IsS121.set_1 | apply IsS121.set_2) | exact HI0.out), by repeat (first | (with_reducible first | exact HB.out | apply below_alloc | apply pw_below_drewN | apply below_drew1 | refine below_set ?_ (IsS121.ge HI0.out)) | exact HB.out), by repeat (first | (with_reducible first | exact HK.out | apply KeepBut.set_ | apply keep_drewN | apply keep_drew | apply keep_alloc) | exact HK.out)⟩

end Go.Proofs.Ytgfadfahbhcllaa.Q
