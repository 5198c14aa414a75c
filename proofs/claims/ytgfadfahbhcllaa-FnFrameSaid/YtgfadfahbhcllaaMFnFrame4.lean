/- Part 4 of 7 of the proof that the law FnFrame returns true at every input. No further condition. -/
import Derived.ChangeKeysEq
import Derived.Laws.StructEq
import Derived.Test.YtgfadfahbhcllaaMFnFrame3
namespace Go.Proofs.Ytgfadfahbhcllaa.Q
open Go.RowKit Go.Proofs.YtgfadfahbhcllaaW.PrintWords Go.Proofs.YtgfadfahbhcllaaW.PrintLast Go.Proofs.YtgfadfahbhcllaaW.PrintMore Go.Proofs.Ytgfadfahbhcllaa.LK
set_option linter.unusedVariables false
set_option linter.unusedSimpArgs false
def specF_T3 : Bool × List (List Nat × List Nat) := (true, [([], []), ([0], [0]), ([1], [1]), ([], []), ([3], [3]), ([], []), ([5], [5]), ([6], [6]), ([7], [7]), ([], []), ([9], [9]), ([10, 2], [10]), ([], []), ([12], [12]), ([13, 11], [13]), ([14], []), ([2, 4, 8, 11, 14, 15], [2, 4, 8, 11, 14, 15]), ([16, 15], [16]), ([17, 17, 0, 1, 2, 3, 4, 5, 6, 7, 8, 9, 10, 11, 12, 13, 14, 15, 16, 17], [17])])
def specF_B3 : List Nat := [0, 1, 3, 0, 8, 0, 32, 96, 224, 0, 512, 1543, 0, 4096, 15879, 32263, 65535, 131071, 262143]
theorem specF_tab3 : rtab .any (opsOf Try.f11 3) = specF_T3 := by kernel_rfl
theorem specF_bits3 : waitsOk specF_T3.2 specF_B3 = true := by kernel_rfl
def specF_T4 : Bool × List (List Nat × List Nat) := (true, [([], []), ([], []), ([1], [1]), ([2, 2], [2]), ([], []), ([4], [4]), ([5, 3], [5]), ([0, 3, 6], [0, 3, 6]), ([7, 6], [7]), ([8, 8, 0, 1, 2, 3, 4, 5, 6, 7, 8], [8])])
def specF_B4 : List Nat := [0, 0, 2, 6, 0, 16, 62, 127, 255, 511]
theorem specF_tab4 : rtab .any (opsOf Try.f11 4) = specF_T4 := by kernel_rfl
theorem specF_bits4 : waitsOk specF_T4.2 specF_B4 = true := by kernel_rfl
def spec_EncodeFrame.f (a0_0 : Int) (a0_1 : Int) (a0_2 : Int) (a0_3 : Int) : Option (List Int) :=
  if (0 ≤ a0_0 ∧ a0_0 ≤ 4294967295) ∧ (0 ≤ a0_2 ∧ a0_2 ≤ 4294967295) ∧ (0 ≤ a0_3 ∧ a0_3 ≤ 4294967295) then some (if 1 ≤ a0_1 ∧ a0_1 ≤ 3 then frameCode a0_0 a0_1 a0_2 a0_3 else []) else none
set_option maxHeartbeats 8000000 in
set_option maxRecDepth 100000 in
theorem specFrame_raw {q kd a b : Int} {kz k1 k2 kc : Nat} {w : World} (hq : 0 ≤ q ∧ q ≤ 4294967295) (ha : 0 ≤ a ∧ a ≤ 4294967295) (hb : 0 ≤ b ∧ b ≤ 4294967295) (hk : 1 ≤ kd ∧ kd ≤ 3)
    (hz : spec_l1Zeros.f kz 40 = some (List.replicate 40 0)) (hc1 : spec_l2Cat.f k1 [P.leB 4 q, [74, 49], [kd % 256, 0], P.leB 4 a, P.leB 4 b, List.replicate 40 0] = some (frameHead q kd a b))
    {c : Int} (hcr : spec_Crc32.f kc (frameHead q kd a b) = some c) (hc : 0 ≤ c ∧ c ≤ 4294967295) {r : List Int} (hc2 : spec_l2Cat.f k2 [frameHead q kd a b, P.leB 4 c, P.leB 4 q] = some r) :
    Calls Try.prog 11 #[.agg #[.int .u32 q, .int .i64 kd, .int .u32 a, .int .u32 b]] w fun e w' => ∃ v0_ : Value, e = .returned (v0_) ∧ Kd.R (Kd.int .u8) 5 w' w.heap.size (fun _ => True) v0_ r ∧ Below w.heap.size w w' := by
  have jk : IntKind.u8.wrap kd = kd % 256 := by rw [IntKind.wrap_u8]
  have k1b : decide (kd < 1) = false := decide_eq_false (by omega)
  have k3b : decide (3 < kd) = false := decide_eq_false (by omega)
  have HQ := Aside0.mk hq
  have HA := Aside0.mk ha
  have HBb := Aside0.mk hb
  have HC := Aside0.mk hc
  have HZ := Aside0.mk hz
  have HC1 := Aside0.mk hc1
  have HC2 := Aside0.mk hc2
  have HCR := Aside0.mk hcr
  obtain ⟨fh, hfh⟩ : ∃ fh, fh = frameHead q kd a b := ⟨_, rfl⟩
  rw [← hfh] at HC1 HC2 HCR
  have HFL := Aside0.mk (show fh.length ≤ 56 from by rw [hfh]; exact Nat.le_refl _)
  have H0 := Aside0.mk (Bx.refl w)
  clear hq ha hb hc hz hc1 hc2 hcr hk hfh
  go_enter Try.func11, Try.ntmps11
  go_wp2_with (first | ((with_reducible refine gate_dst (N := 1) rfl ?_); refine Aside0.out ?_))
  refine Aside0.mk ?_
  refine mk ?hw1 (N := 1) ?hd1 (cs := #[.int .u32 q, .int .i64 kd, .int .u32 a, .int .u32 b]) (t := 27) ?hr1 ?_
  case hd1 => rfl
  case hw1 => rfl
  case hr1 => first | (go_simp; done) | (go_simp; rfl)
  intro g1 hg1_ w101 hb1 hB1
  have H102 := Aside0.mk (H0.out.new hg1_ hb1 hB1)
  clear hg1_ hb1 hB1 H0
  have hk1 : w101.cell? ⟨g1, 1, none⟩ = some (.int .i64 kd) := (blk_cell H102.out.gt0 1).trans rfl
  go_wp2
  clear hk1
  have H104 := Aside0.mk H102.out.drew
  refine start_ (n := 19) (S := fun w' => True) (ds := []) #[false, false, false, false, false, false, false, false, false, false, false, false, false, false, false, false, false, false, false] (by kernel_rfl) rfl rfl trivial (fun hHeld => ?_)
  clear H102
  generalize w101.drew = w103 at H104 hHeld ⊢
  refine with_tabW specF_tab3 specF_bits3 (fun HT_ HW_ => ?_)
  refine pure_ (i := 0) (N := some 13) (v := ?_) (a' := ?_) #[true, false, false, false, false, false, false, false, false, false, false, false, false, false, false, false, false, false, false] rfl rfl (any_of HT_.out (by kernel_rfl)) (fun _ _ _ h => h) (Or.inl ⟨by rfl, ?_⟩) ?_ ?_
  rotate_left
  · intro w'
    go_simp
    with_reducible rfl
  rotate_left
  · simp only [Act.put, List.setIfInBounds_toArray, List.set_cons_zero, List.set_cons_succ, i64_w, i32_w]
    rfl
  refine pure_ (i := 5) (N := some 18) (v := ?_) (a' := ?_) #[true, false, false, false, false, true, false, false, false, false, false, false, false, false, false, false, false, false, false] rfl rfl (any_of HT_.out (by kernel_rfl)) (fun _ _ _ h => h) (Or.inl ⟨by rfl, ?_⟩) ?_ ?_
  rotate_left
  · intro w'
    go_simp
    with_reducible rfl
  rotate_left
  · simp only [Act.put, List.setIfInBounds_toArray, List.set_cons_zero, List.set_cons_succ, i64_w, i32_w]
    rfl
  refine pure_ (i := 9) (N := some 22) (v := ?_) (a' := ?_) #[true, false, false, false, false, true, false, false, false, true, false, false, false, false, false, false, false, false, false] rfl rfl (any_of HT_.out (by kernel_rfl)) (fun _ _ _ h => h) (Or.inl ⟨by rfl, ?_⟩) ?_ ?_
  rotate_left
  · intro w'
    go_simp
    with_reducible rfl
  rotate_left
  · simp only [Act.put, List.setIfInBounds_toArray, List.set_cons_zero, List.set_cons_succ, i64_w, i32_w]
    rfl
  refine pure_ (i := 12) (N := some 25) (v := ?_) (a' := ?_) #[true, false, false, false, false, true, false, false, false, true, false, false, true, false, false, false, false, false, false] rfl rfl (any_of HT_.out (by kernel_rfl)) (fun _ _ _ h => h) (Or.inl ⟨by rfl, ?_⟩) ?_ ?_
  rotate_left
  · intro w'
    go_simp
    with_reducible rfl
  rotate_left
  · simp only [Act.put, List.setIfInBounds_toArray, List.set_cons_zero, List.set_cons_succ, i64_w, i32_w]
    rfl
  refine inv_at [1, 2, 3, 4, 6, 7, 8, 10, 11, 13, 14, 15, 16, 17, 18] (fun a0_ b_ a_ w' => ∃ (v2 : Value) (v3 : Value) (m4 : Value) (v8 : Value) (v11 : Value) (v14 : Value) (v15 : Value) (v16 : Value) (v17 : Value) (m18 : Value), a_ = putSel a0_ b_ [(1, 14, .int .u32 q), (2, 15, v2), (3, 16, v3), (4, 17, m4), (6, 19, .int .i64 kd), (7, 20, .int .u8 (kd % 256)), (8, 21, v8), (10, 23, .int .u32 a), (11, 24, v11), (13, 26, .int .u32 b), (14, 27, v14), (15, 28, v15), (16, 29, v16), (17, 30, v17), (18, 3, m18)] ∧ Bx w [(g1, #[.int .u32 q, .int .i64 kd, .int .u32 a, .int .u32 b], 27)] w' ∧ (b_ 2 = true → RdP w' v2 (P.leB 4 q)) ∧ (b_ 3 = true → LitP w.heap.size w' v3 [74, 49]) ∧ (b_ 4 = true → m4 = v3 ∧ RdP w' m4 [74, 49]) ∧ (b_ 8 = true → RdP w' v8 [kd % 256, 0]) ∧ (b_ 11 = true → RdP w' v11 (P.leB 4 a)) ∧ (b_ 14 = true → RdP w' v14 (P.leB 4 b)) ∧ (b_ 15 = true → RdP w' v15 (List.replicate 40 0)) ∧ (b_ 16 = true → RowsP w' v16 [P.leB 4 q, [74, 49], [kd % 256, 0], P.leB 4 a, P.leB 4 b, List.replicate 40 0]) ∧ (b_ 17 = true → RdP w' v17 fh) ∧ (b_ 18 = true → m18 = v17)) HT_.out HW_.out (by kernel_rfl) (by kernel_rfl) ?_ ?_ ?_
  · exact ⟨.bool false, .bool false, .bool false, .bool false, .bool false, .bool false, .bool false, .bool false, .bool false, .bool false, by simp only [putSel, Bool.false_eq_true, if_false], H104.out, fun h_ => absurd h_ (by decide), fun h_ => absurd h_ (by decide), fun h_ => absurd h_ (by decide), fun h_ => absurd h_ (by decide), fun h_ => absurd h_ (by decide), fun h_ => absurd h_ (by decide), fun h_ => absurd h_ (by decide), fun h_ => absurd h_ (by decide), fun h_ => absurd h_ (by decide), fun h_ => absurd h_ (by decide)⟩
  · skip
    clear H104
    refine steps_cons ?_ ?_
    · rintro b_ a_ w' ⟨v2, v3, m4, v8, v11, v14, v15, v16, v17, m18, ha, QX, Q2, Q3, Q4, Q8, Q11, Q14, Q15, Q16, Q17, Q18⟩ hbo_ hon hoff
      refine ⟨_, rfl, fun K hK => ?_⟩
      have e13 : a_.tmps[13]? = some (.pointer (some ⟨g1, 0, none⟩)) := by rw [ha]; exact (putSel_off rfl).trans rfl
      replace ha := Aside0.mk ha
      have HX := Aside0.mk QX
      clear QX
      have hc_ : w'.cell? ⟨g1, 0, none⟩ = some (.int .u32 q) := (blk_cell HX.out.gt0 0).trans rfl
      refine value_ (w1 := w') (v := .int .u32 q) (by rfl) rfl ?_ ?_
      · go_simp
        (try simp only [i64_w])
        try rfl
      refine hK.out _ _ ⟨v2, v3, m4, v8, v11, v14, v15, v16, v17, m18, (by rw [ha.out]; exact putSel_upk 0 hbo_ rfl rfl rfl), HX.out, fun h0_ => absurd ((hoff 2 (by kernel_rfl)).symm.trans h0_) (by decide), Q3, Q4, Q8, fun h0_ => absurd ((hoff 11 (by kernel_rfl)).symm.trans h0_) (by decide), fun h0_ => absurd ((hoff 14 (by kernel_rfl)).symm.trans h0_) (by decide), fun h0_ => absurd ((hoff 15 (by kernel_rfl)).symm.trans h0_) (by decide), fun h0_ => absurd ((hoff 16 (by kernel_rfl)).symm.trans h0_) (by decide), fun h0_ => absurd ((hoff 17 (by kernel_rfl)).symm.trans h0_) (by decide), fun h0_ => absurd ((hoff 18 (by kernel_rfl)).symm.trans h0_) (by decide)⟩
    refine steps_cons ?_ ?_
    · rintro b_ a_ w' ⟨v2, v3, m4, v8, v11, v14, v15, v16, v17, m18, ha, QX, Q2, Q3, Q4, Q8, Q11, Q14, Q15, Q16, Q17, Q18⟩ hbo_ hon hoff
      refine ⟨_, rfl, fun K hK => ?_⟩
      have e14 : a_.tmps[14]? = some (.int .u32 q) := by rw [ha]; exact putSel_on (e := (1, 14, .int .u32 q)) 0 rfl rfl (hon 1 (by kernel_rfl)) rfl
      replace ha := Aside0.mk ha
      have HX := Aside0.mk QX
      clear QX
      refine goes_ Try.func48 (by kernel_rfl) rfl #[.int .u32 q] (by rfl) rfl rfl (by first | (simp only [List.map_toArray, List.map_cons, List.map_nil, Act.eval, Array.getD_eq_getD_getElem?, Option.getD_some, e14]; done) | (simp only [List.map_toArray, List.map_cons, List.map_nil, Act.eval, Array.getD_eq_getD_getElem?, Option.getD_some, e14]; rfl)) ?_
      refine (spec_l2Four.calls q (P.leB 4 q) _ (P.four_is q HQ.out)).mono ?_
      rintro e w2_ ⟨vn_, rfl, ho, hb_⟩
      refine ⟨_, rfl, ?_⟩
      replace HX := Aside0.mk (HX.out.step hb_)
      refine hK.out _ _ ⟨vn_, v3, m4, v8, v11, v14, v15, v16, v17, m18, (by rw [ha.out]; exact putSel_upk 1 hbo_ rfl rfl rfl), HX.out, fun _ => RdP.of_R ho, fun h0_ => (Q3 h0_).below hb_, fun h0_ => ⟨(Q4 h0_).1, (Q4 h0_).2.below hb_⟩, fun h0_ => (Q8 h0_).below hb_, fun h0_ => absurd ((hoff 11 (by kernel_rfl)).symm.trans h0_) (by decide), fun h0_ => absurd ((hoff 14 (by kernel_rfl)).symm.trans h0_) (by decide), fun h0_ => absurd ((hoff 15 (by kernel_rfl)).symm.trans h0_) (by decide), fun h0_ => absurd ((hoff 16 (by kernel_rfl)).symm.trans h0_) (by decide), fun h0_ => absurd ((hoff 17 (by kernel_rfl)).symm.trans h0_) (by decide), fun h0_ => absurd ((hoff 18 (by kernel_rfl)).symm.trans h0_) (by decide)⟩
    refine steps_cons ?_ ?_
    · rintro b_ a_ w' ⟨v2, v3, m4, v8, v11, v14, v15, v16, v17, m18, ha, QX, Q2, Q3, Q4, Q8, Q11, Q14, Q15, Q16, Q17, Q18⟩ hbo_ hon hoff
      refine ⟨_, rfl, fun K hK => ?_⟩
      replace ha := Aside0.mk ha
      have HX := Aside0.mk QX
      clear QX
      refine Kd.R_lit_step (Kd.int .u8) _ 5 ?hg (N := 16) ?hd (xs := ([74, 49] : List Int)) (inner := [.int .u8 74, .int .u8 49]) (ok := fun _ => True) (okp := fun _ => True) ?hr ?hp (fun _ hk => hk) trivial (Below.refl _ _) (Nat.le_refl _) (by simp) ?_; (case hd => rfl); (case hg => rfl); (case hr => first | (go_simp; done) | (go_simp; rfl)); (case hp => exact (Reps.one (show Kd.M (Kd.int .u8) _ _ _ _ [_] from rfl) (Reps.one (show Kd.M (Kd.int .u8) _ _ _ _ [_] from rfl) (Reps.none _ _))))
      intro vn_ w2_ ho hb_ hg_ hnew_
      clear hg_ hnew_
      have HBW := Aside0.mk HX.out.below.size
      replace HX := Aside0.mk (HX.out.step hb_)
      refine hK.out _ _ ⟨v2, vn_, m4, v8, v11, v14, v15, v16, v17, m18, (by rw [ha.out]; exact putSel_upk 2 hbo_ rfl rfl rfl), HX.out, fun h0_ => (Q2 h0_).below hb_, fun _ => LitP.of_R ho (by decide) HBW.out, fun h0_ => absurd ((hoff 4 (by kernel_rfl)).symm.trans h0_) (by decide), fun h0_ => (Q8 h0_).below hb_, fun h0_ => (Q11 h0_).below hb_, fun h0_ => (Q14 h0_).below hb_, fun h0_ => (Q15 h0_).below hb_, fun h0_ => absurd ((hoff 16 (by kernel_rfl)).symm.trans h0_) (by decide), fun h0_ => absurd ((hoff 17 (by kernel_rfl)).symm.trans h0_) (by decide), fun h0_ => absurd ((hoff 18 (by kernel_rfl)).symm.trans h0_) (by decide)⟩
    refine steps_cons ?_ ?_
    · rintro b_ a_ w' ⟨v2, v3, m4, v8, v11, v14, v15, v16, v17, m18, ha, QX, Q2, Q3, Q4, Q8, Q11, Q14, Q15, Q16, Q17, Q18⟩ hbo_ hon hoff
      refine ⟨_, rfl, fun K hK => ?_⟩
      have e16 : a_.tmps[16]? = some (v3) := by rw [ha]; exact putSel_on (e := (3, 16, v3)) 2 rfl rfl (hon 3 (by kernel_rfl)) rfl
      replace ha := Aside0.mk ha
      have HX := Aside0.mk QX
      clear QX
      obtain ⟨g_, c_, tl_, fr_, ev_, hl_, hm_, hg_, hh_⟩ := Q3 (hon 3 (by kernel_rfl))
      obtain ⟨w2_, hrun_, hS_, fr2_, hh2_⟩ := conv_mark (P := Try.prog) (t := 25) (n := 2) (c := c_) Try.underlying25 Try.underlying5 hh_
      rw [ev_] at e16
      refine value_ (w1 := w2_) (v := v3) (by rfl) rfl ?_ ?_
      · rw [ev_]
        go_simp
        try (first | exact hrun_ | (rw [hrun_]; rfl) | rfl)
      replace HX := Aside0.mk (Bx_mark HX.out hS_ hg_ hh_ (by intro b hb; simp only [List.mem_cons, List.not_mem_nil, or_false] at hb; rcases hb with rfl; exact (show 27 ≠ 5 from by decide)))
      refine hK.out _ _ ⟨v2, v3, v3, v8, v11, v14, v15, v16, v17, m18, (by rw [ha.out]; exact putSel_upk 3 hbo_ rfl rfl rfl), HX.out, fun h0_ => (Q2 h0_).cells (cells_of_mark hS_ hh_ hh2_), fun h0_ => LitP.mark (Q3 h0_) hS_ hh_ hh2_, fun _ => ⟨rfl, (LitP.mark (Q3 (hon 3 (by kernel_rfl))) hS_ hh_ hh2_).rd⟩, fun h0_ => (Q8 h0_).cells (cells_of_mark hS_ hh_ hh2_), fun h0_ => (Q11 h0_).cells (cells_of_mark hS_ hh_ hh2_), fun h0_ => (Q14 h0_).cells (cells_of_mark hS_ hh_ hh2_), fun h0_ => (Q15 h0_).cells (cells_of_mark hS_ hh_ hh2_), fun h0_ => absurd ((hoff 16 (by kernel_rfl)).symm.trans h0_) (by decide), fun h0_ => absurd ((hoff 17 (by kernel_rfl)).symm.trans h0_) (by decide), fun h0_ => absurd ((hoff 18 (by kernel_rfl)).symm.trans h0_) (by decide)⟩
    refine steps_cons ?_ ?_
    · rintro b_ a_ w' ⟨v2, v3, m4, v8, v11, v14, v15, v16, v17, m18, ha, QX, Q2, Q3, Q4, Q8, Q11, Q14, Q15, Q16, Q17, Q18⟩ hbo_ hon hoff
      refine ⟨_, rfl, fun K hK => ?_⟩
      have e18 : a_.tmps[18]? = some (.pointer (some ⟨g1, 1, none⟩)) := by rw [ha]; exact (putSel_off rfl).trans rfl
      replace ha := Aside0.mk ha
      have HX := Aside0.mk QX
      clear QX
      have hc_ : w'.cell? ⟨g1, 1, none⟩ = some (.int .i64 kd) := (blk_cell HX.out.gt0 1).trans rfl
      refine value_ (w1 := w') (v := .int .i64 kd) (by rfl) rfl ?_ ?_
      · go_simp
        (try simp only [i64_w])
        try rfl
      refine hK.out _ _ ⟨v2, v3, m4, v8, v11, v14, v15, v16, v17, m18, (by rw [ha.out]; exact putSel_upk 4 hbo_ rfl rfl rfl), HX.out, Q2, Q3, Q4, fun h0_ => absurd ((hoff 8 (by kernel_rfl)).symm.trans h0_) (by decide), Q11, Q14, Q15, fun h0_ => absurd ((hoff 16 (by kernel_rfl)).symm.trans h0_) (by decide), fun h0_ => absurd ((hoff 17 (by kernel_rfl)).symm.trans h0_) (by decide), fun h0_ => absurd ((hoff 18 (by kernel_rfl)).symm.trans h0_) (by decide)⟩
    refine steps_cons ?_ ?_
    · rintro b_ a_ w' ⟨v2, v3, m4, v8, v11, v14, v15, v16, v17, m18, ha, QX, Q2, Q3, Q4, Q8, Q11, Q14, Q15, Q16, Q17, Q18⟩ hbo_ hon hoff
      refine ⟨_, rfl, fun K hK => ?_⟩
      have e19 : a_.tmps[19]? = some (.int .i64 kd) := by rw [ha]; exact putSel_on (e := (6, 19, .int .i64 kd)) 4 rfl rfl (hon 6 (by kernel_rfl)) rfl
      replace ha := Aside0.mk ha
      have HX := Aside0.mk QX
      clear QX
      refine value_ (w1 := w') (v := .int .u8 (kd % 256)) (by rfl) rfl ?_ ?_
      · go_simp
        (try simp only [i64_w])
        try rfl
      refine hK.out _ _ ⟨v2, v3, m4, v8, v11, v14, v15, v16, v17, m18, (by rw [ha.out]; exact putSel_upk 5 hbo_ rfl rfl rfl), HX.out, Q2, Q3, Q4, fun h0_ => absurd ((hoff 8 (by kernel_rfl)).symm.trans h0_) (by decide), Q11, Q14, Q15, fun h0_ => absurd ((hoff 16 (by kernel_rfl)).symm.trans h0_) (by decide), fun h0_ => absurd ((hoff 17 (by kernel_rfl)).symm.trans h0_) (by decide), fun h0_ => absurd ((hoff 18 (by kernel_rfl)).symm.trans h0_) (by decide)⟩
    refine steps_cons ?_ ?_
    · rintro b_ a_ w' ⟨v2, v3, m4, v8, v11, v14, v15, v16, v17, m18, ha, QX, Q2, Q3, Q4, Q8, Q11, Q14, Q15, Q16, Q17, Q18⟩ hbo_ hon hoff
      refine ⟨_, rfl, fun K hK => ?_⟩
      have e20 : a_.tmps[20]? = some (.int .u8 (kd % 256)) := by rw [ha]; exact putSel_on (e := (7, 20, .int .u8 (kd % 256))) 5 rfl rfl (hon 7 (by kernel_rfl)) rfl
      replace ha := Aside0.mk ha
      have HX := Aside0.mk QX
      clear QX
      refine Kd.R_lit_step (Kd.int .u8) _ 5 ?hg (N := 21) ?hd (xs := ([kd % 256, 0] : List Int)) (inner := [.int .u8 (kd % 256), .int .u8 0]) (ok := fun _ => True) (okp := fun _ => True) ?hr ?hp (fun _ hk => hk) trivial (Below.refl _ _) (Nat.le_refl _) (by simp) ?_; (case hd => rfl); (case hg => rfl); (case hr => first | (go_simp; done) | (go_simp; rfl)); (case hp => exact (Reps.one (show Kd.M (Kd.int .u8) _ _ _ _ [_] from rfl) (Reps.one (show Kd.M (Kd.int .u8) _ _ _ _ [_] from rfl) (Reps.none _ _))))
      intro vn_ w2_ ho hb_ hg_ hnew_
      clear hg_ hnew_
      have HBW := Aside0.mk HX.out.below.size
      replace HX := Aside0.mk (HX.out.step hb_)
      refine hK.out _ _ ⟨v2, v3, m4, vn_, v11, v14, v15, v16, v17, m18, (by rw [ha.out]; exact putSel_upk 6 hbo_ rfl rfl rfl), HX.out, fun h0_ => (Q2 h0_).below hb_, fun h0_ => (Q3 h0_).below hb_, fun h0_ => ⟨(Q4 h0_).1, (Q4 h0_).2.below hb_⟩, fun _ => RdP.of_R ho, fun h0_ => (Q11 h0_).below hb_, fun h0_ => (Q14 h0_).below hb_, fun h0_ => (Q15 h0_).below hb_, fun h0_ => absurd ((hoff 16 (by kernel_rfl)).symm.trans h0_) (by decide), fun h0_ => absurd ((hoff 17 (by kernel_rfl)).symm.trans h0_) (by decide), fun h0_ => absurd ((hoff 18 (by kernel_rfl)).symm.trans h0_) (by decide)⟩
    refine steps_cons ?_ ?_
    · rintro b_ a_ w' ⟨v2, v3, m4, v8, v11, v14, v15, v16, v17, m18, ha, QX, Q2, Q3, Q4, Q8, Q11, Q14, Q15, Q16, Q17, Q18⟩ hbo_ hon hoff
      refine ⟨_, rfl, fun K hK => ?_⟩
      have e22 : a_.tmps[22]? = some (.pointer (some ⟨g1, 2, none⟩)) := by rw [ha]; exact (putSel_off rfl).trans rfl
      replace ha := Aside0.mk ha
      have HX := Aside0.mk QX
      clear QX
      have hc_ : w'.cell? ⟨g1, 2, none⟩ = some (.int .u32 a) := (blk_cell HX.out.gt0 2).trans rfl
      refine value_ (w1 := w') (v := .int .u32 a) (by rfl) rfl ?_ ?_
      · go_simp
        (try simp only [i64_w])
        try rfl
      refine hK.out _ _ ⟨v2, v3, m4, v8, v11, v14, v15, v16, v17, m18, (by rw [ha.out]; exact putSel_upk 7 hbo_ rfl rfl rfl), HX.out, Q2, Q3, Q4, Q8, fun h0_ => absurd ((hoff 11 (by kernel_rfl)).symm.trans h0_) (by decide), fun h0_ => absurd ((hoff 14 (by kernel_rfl)).symm.trans h0_) (by decide), fun h0_ => absurd ((hoff 15 (by kernel_rfl)).symm.trans h0_) (by decide), fun h0_ => absurd ((hoff 16 (by kernel_rfl)).symm.trans h0_) (by decide), fun h0_ => absurd ((hoff 17 (by kernel_rfl)).symm.trans h0_) (by decide), fun h0_ => absurd ((hoff 18 (by kernel_rfl)).symm.trans h0_) (by decide)⟩
    refine steps_cons ?_ ?_
    · rintro b_ a_ w' ⟨v2, v3, m4, v8, v11, v14, v15, v16, v17, m18, ha, QX, Q2, Q3, Q4, Q8, Q11, Q14, Q15, Q16, Q17, Q18⟩ hbo_ hon hoff
      refine ⟨_, rfl, fun K hK => ?_⟩
      have e23 : a_.tmps[23]? = some (.int .u32 a) := by rw [ha]; exact putSel_on (e := (10, 23, .int .u32 a)) 7 rfl rfl (hon 10 (by kernel_rfl)) rfl
      replace ha := Aside0.mk ha
      have HX := Aside0.mk QX
      clear QX
      refine goes_ Try.func48 (by kernel_rfl) rfl #[.int .u32 a] (by rfl) rfl rfl (by first | (simp only [List.map_toArray, List.map_cons, List.map_nil, Act.eval, Array.getD_eq_getD_getElem?, Option.getD_some, e23]; done) | (simp only [List.map_toArray, List.map_cons, List.map_nil, Act.eval, Array.getD_eq_getD_getElem?, Option.getD_some, e23]; rfl)) ?_
      refine (spec_l2Four.calls a (P.leB 4 a) _ (P.four_is a HA.out)).mono ?_
      rintro e w2_ ⟨vn_, rfl, ho, hb_⟩
      refine ⟨_, rfl, ?_⟩
      replace HX := Aside0.mk (HX.out.step hb_)
      refine hK.out _ _ ⟨v2, v3, m4, v8, vn_, v14, v15, v16, v17, m18, (by rw [ha.out]; exact putSel_upk 8 hbo_ rfl rfl rfl), HX.out, fun h0_ => (Q2 h0_).below hb_, fun h0_ => (Q3 h0_).below hb_, fun h0_ => ⟨(Q4 h0_).1, (Q4 h0_).2.below hb_⟩, fun h0_ => (Q8 h0_).below hb_, fun _ => RdP.of_R ho, fun h0_ => absurd ((hoff 14 (by kernel_rfl)).symm.trans h0_) (by decide), fun h0_ => absurd ((hoff 15 (by kernel_rfl)).symm.trans h0_) (by decide), fun h0_ => absurd ((hoff 16 (by kernel_rfl)).symm.trans h0_) (by decide), fun h0_ => absurd ((hoff 17 (by kernel_rfl)).symm.trans h0_) (by decide), fun h0_ => absurd ((hoff 18 (by kernel_rfl)).symm.trans h0_) (by decide)⟩
    refine steps_cons ?_ ?_
    · rintro b_ a_ w' ⟨v2, v3, m4, v8, v11, v14, v15, v16, v17, m18, ha, QX, Q2, Q3, Q4, Q8, Q11, Q14, Q15, Q16, Q17, Q18⟩ hbo_ hon hoff
      refine ⟨_, rfl, fun K hK => ?_⟩
      have e25 : a_.tmps[25]? = some (.pointer (some ⟨g1, 3, none⟩)) := by rw [ha]; exact (putSel_off rfl).trans rfl
      replace ha := Aside0.mk ha
      have HX := Aside0.mk QX
      clear QX
      have hc_ : w'.cell? ⟨g1, 3, none⟩ = some (.int .u32 b) := (blk_cell HX.out.gt0 3).trans rfl
      refine value_ (w1 := w') (v := .int .u32 b) (by rfl) rfl ?_ ?_
      · go_simp
        (try simp only [i64_w])
        try rfl
      refine hK.out _ _ ⟨v2, v3, m4, v8, v11, v14, v15, v16, v17, m18, (by rw [ha.out]; exact putSel_upk 9 hbo_ rfl rfl rfl), HX.out, Q2, Q3, Q4, Q8, Q11, fun h0_ => absurd ((hoff 14 (by kernel_rfl)).symm.trans h0_) (by decide), fun h0_ => absurd ((hoff 15 (by kernel_rfl)).symm.trans h0_) (by decide), fun h0_ => absurd ((hoff 16 (by kernel_rfl)).symm.trans h0_) (by decide), fun h0_ => absurd ((hoff 17 (by kernel_rfl)).symm.trans h0_) (by decide), fun h0_ => absurd ((hoff 18 (by kernel_rfl)).symm.trans h0_) (by decide)⟩
    refine steps_cons ?_ ?_
    · rintro b_ a_ w' ⟨v2, v3, m4, v8, v11, v14, v15, v16, v17, m18, ha, QX, Q2, Q3, Q4, Q8, Q11, Q14, Q15, Q16, Q17, Q18⟩ hbo_ hon hoff
      refine ⟨_, rfl, fun K hK => ?_⟩
      have e26 : a_.tmps[26]? = some (.int .u32 b) := by rw [ha]; exact putSel_on (e := (13, 26, .int .u32 b)) 9 rfl rfl (hon 13 (by kernel_rfl)) rfl
      replace ha := Aside0.mk ha
      have HX := Aside0.mk QX
      clear QX
      refine goes_ Try.func48 (by kernel_rfl) rfl #[.int .u32 b] (by rfl) rfl rfl (by first | (simp only [List.map_toArray, List.map_cons, List.map_nil, Act.eval, Array.getD_eq_getD_getElem?, Option.getD_some, e26]; done) | (simp only [List.map_toArray, List.map_cons, List.map_nil, Act.eval, Array.getD_eq_getD_getElem?, Option.getD_some, e26]; rfl)) ?_
      refine (spec_l2Four.calls b (P.leB 4 b) _ (P.four_is b HBb.out)).mono ?_
      rintro e w2_ ⟨vn_, rfl, ho, hb_⟩
      refine ⟨_, rfl, ?_⟩
      replace HX := Aside0.mk (HX.out.step hb_)
      refine hK.out _ _ ⟨v2, v3, m4, v8, v11, vn_, v15, v16, v17, m18, (by rw [ha.out]; exact putSel_upk 10 hbo_ rfl rfl rfl), HX.out, fun h0_ => (Q2 h0_).below hb_, fun h0_ => (Q3 h0_).below hb_, fun h0_ => ⟨(Q4 h0_).1, (Q4 h0_).2.below hb_⟩, fun h0_ => (Q8 h0_).below hb_, fun h0_ => (Q11 h0_).below hb_, fun _ => RdP.of_R ho, fun h0_ => absurd ((hoff 15 (by kernel_rfl)).symm.trans h0_) (by decide), fun h0_ => absurd ((hoff 16 (by kernel_rfl)).symm.trans h0_) (by decide), fun h0_ => absurd ((hoff 17 (by kernel_rfl)).symm.trans h0_) (by decide), fun h0_ => absurd ((hoff 18 (by kernel_rfl)).symm.trans h0_) (by decide)⟩
    refine steps_cons ?_ ?_
    · rintro b_ a_ w' ⟨v2, v3, m4, v8, v11, v14, v15, v16, v17, m18, ha, QX, Q2, Q3, Q4, Q8, Q11, Q14, Q15, Q16, Q17, Q18⟩ hbo_ hon hoff
      refine ⟨_, rfl, fun K hK => ?_⟩
      replace ha := Aside0.mk ha
      have HX := Aside0.mk QX
      clear QX
      refine goes_ Try.func49 (by kernel_rfl) rfl #[.int .i64 40] (by rfl) rfl rfl (by first | (simp only [List.map_toArray, List.map_cons, List.map_nil, Act.eval, Array.getD_eq_getD_getElem?, Option.getD_some, List.map_nil]; done) | (simp only [List.map_toArray, List.map_cons, List.map_nil, Act.eval, Array.getD_eq_getD_getElem?, Option.getD_some, List.map_nil]; rfl)) ?_
      refine (spec_l1Zeros.calls kz 40 (List.replicate 40 0) _ HZ.out).mono ?_
      rintro e w2_ ⟨vn_, rfl, ho, hb_⟩
      refine ⟨_, rfl, ?_⟩
      replace HX := Aside0.mk (HX.out.step hb_)
      refine hK.out _ _ ⟨v2, v3, m4, v8, v11, v14, vn_, v16, v17, m18, (by rw [ha.out]; exact putSel_upk 11 hbo_ rfl rfl rfl), HX.out, fun h0_ => (Q2 h0_).below hb_, fun h0_ => (Q3 h0_).below hb_, fun h0_ => ⟨(Q4 h0_).1, (Q4 h0_).2.below hb_⟩, fun h0_ => (Q8 h0_).below hb_, fun h0_ => (Q11 h0_).below hb_, fun h0_ => (Q14 h0_).below hb_, fun _ => RdP.of_R ho, fun h0_ => absurd ((hoff 16 (by kernel_rfl)).symm.trans h0_) (by decide), fun h0_ => absurd ((hoff 17 (by kernel_rfl)).symm.trans h0_) (by decide), fun h0_ => absurd ((hoff 18 (by kernel_rfl)).symm.trans h0_) (by decide)⟩
    refine steps_cons ?_ ?_
    · rintro b_ a_ w' ⟨v2, v3, m4, v8, v11, v14, v15, v16, v17, m18, ha, QX, Q2, Q3, Q4, Q8, Q11, Q14, Q15, Q16, Q17, Q18⟩ hbo_ hon hoff
      refine ⟨_, rfl, fun K hK => ?_⟩
      have e15 : a_.tmps[15]? = some (v2) := by rw [ha]; exact putSel_on (e := (2, 15, v2)) 1 rfl rfl (hon 2 (by kernel_rfl)) rfl
      have e17 : a_.tmps[17]? = some (m4) := by rw [ha]; exact putSel_on (e := (4, 17, m4)) 3 rfl rfl (hon 4 (by kernel_rfl)) rfl
      have e21 : a_.tmps[21]? = some (v8) := by rw [ha]; exact putSel_on (e := (8, 21, v8)) 6 rfl rfl (hon 8 (by kernel_rfl)) rfl
      have e24 : a_.tmps[24]? = some (v11) := by rw [ha]; exact putSel_on (e := (11, 24, v11)) 8 rfl rfl (hon 11 (by kernel_rfl)) rfl
      have e27 : a_.tmps[27]? = some (v14) := by rw [ha]; exact putSel_on (e := (14, 27, v14)) 10 rfl rfl (hon 14 (by kernel_rfl)) rfl
      have e28 : a_.tmps[28]? = some (v15) := by rw [ha]; exact putSel_on (e := (15, 28, v15)) 11 rfl rfl (hon 15 (by kernel_rfl)) rfl
      replace ha := Aside0.mk ha
      have HX := Aside0.mk QX
      clear QX
      obtain ⟨A0_, c0_, ev0_, hl0_, hC0_⟩ := Q2 (hon 2 (by kernel_rfl))
      rw [ev0_] at e15
      obtain ⟨A1_, c1_, ev1_, hl1_, hC1_⟩ := (Q4 (hon 4 (by kernel_rfl))).2
      rw [ev1_] at e17
      obtain ⟨A2_, c2_, ev2_, hl2_, hC2_⟩ := Q8 (hon 8 (by kernel_rfl))
      rw [ev2_] at e21
      obtain ⟨A3_, c3_, ev3_, hl3_, hC3_⟩ := Q11 (hon 11 (by kernel_rfl))
      rw [ev3_] at e24
      obtain ⟨A4_, c4_, ev4_, hl4_, hC4_⟩ := Q14 (hon 14 (by kernel_rfl))
      rw [ev4_] at e27
      obtain ⟨A5_, c5_, ev5_, hl5_, hC5_⟩ := Q15 (hon 15 (by kernel_rfl))
      rw [ev5_] at e28
      refine Kd.N_lit_step (Kd.slice 5 (Kd.int .u8)) _ 25 ?hg (N' := 29) ?hd (xs := ([P.leB 4 q, [74, 49], [kd % 256, 0], P.leB 4 a, P.leB 4 b, List.replicate 40 0] : List (List Int))) (inner := [.slice A0_ (P.leB 4 q).length c0_, .slice A1_ ([74, 49]).length c1_, .slice A2_ ([kd % 256, 0]).length c2_, .slice A3_ (P.leB 4 a).length c3_, .slice A4_ (P.leB 4 b).length c4_, .slice A5_ (List.replicate 40 0).length c5_]) (ok := fun _ => True) (okp := fun _ => True) ?hr ?hp (fun _ hk => hk) trivial (Below.refl _ _) (Nat.le_refl _) (by simp) ?_; (case hd => rfl); (case hg => rfl); (case hr => first | (go_simp; done) | (go_simp; rfl)); (case hp => exact (Reps.one (RdP.FK hl0_ hC0_) (Reps.one (RdP.FK hl1_ hC1_) (Reps.one (RdP.FK hl2_ hC2_) (Reps.one (RdP.FK hl3_ hC3_) (Reps.one (RdP.FK hl4_ hC4_) (Reps.one (RdP.FK hl5_ hC5_) (Reps.none _ _))))))))
      intro vn_ w2_ ho hb_ hg_ hnew_
      clear hg_ hnew_
      replace HX := Aside0.mk (HX.out.step hb_)
      refine hK.out _ _ ⟨v2, v3, m4, v8, v11, v14, v15, vn_, v17, m18, (by rw [ha.out]; exact putSel_upk 12 hbo_ rfl rfl rfl), HX.out, fun h0_ => (Q2 h0_).below hb_, fun h0_ => (Q3 h0_).below hb_, fun h0_ => ⟨(Q4 h0_).1, (Q4 h0_).2.below hb_⟩, fun h0_ => (Q8 h0_).below hb_, fun h0_ => (Q11 h0_).below hb_, fun h0_ => (Q14 h0_).below hb_, fun h0_ => (Q15 h0_).below hb_, fun _ => RowsP.of_N ho, fun h0_ => absurd ((hoff 17 (by kernel_rfl)).symm.trans h0_) (by decide), fun h0_ => absurd ((hoff 18 (by kernel_rfl)).symm.trans h0_) (by decide)⟩
    refine steps_cons ?_ ?_
    · rintro b_ a_ w' ⟨v2, v3, m4, v8, v11, v14, v15, v16, v17, m18, ha, QX, Q2, Q3, Q4, Q8, Q11, Q14, Q15, Q16, Q17, Q18⟩ hbo_ hon hoff
      refine ⟨_, rfl, fun K hK => ?_⟩
      have e29 : a_.tmps[29]? = some (v16) := by rw [ha]; exact putSel_on (e := (16, 29, v16)) 12 rfl rfl (hon 16 (by kernel_rfl)) rfl
      replace ha := Aside0.mk ha
      have HX := Aside0.mk QX
      clear QX
      obtain ⟨A_, c_, ev_, hl_, hC_⟩ := Q16 (hon 16 (by kernel_rfl))
      rw [ev_] at e29
      refine goes_ Try.func47 (by kernel_rfl) rfl #[.slice A_ ([P.leB 4 q, [74, 49], [kd % 256, 0], P.leB 4 a, P.leB 4 b, List.replicate 40 0]).length c_] (by rfl) rfl rfl (by first | (simp only [List.map_toArray, List.map_cons, List.map_nil, Act.eval, Array.getD_eq_getD_getElem?, Option.getD_some, e29]; done) | (simp only [List.map_toArray, List.map_cons, List.map_nil, Act.eval, Array.getD_eq_getD_getElem?, Option.getD_some, e29]; rfl)) ?_
      refine (spec_l2Cat.calls k1 _ c_ [P.leB 4 q, [74, 49], [kd % 256, 0], P.leB 4 a, P.leB 4 b, List.replicate 40 0] fh _ hC_ hl_ HC1.out).mono ?_
      rintro e w2_ ⟨vn_, rfl, ho, hb_⟩
      refine ⟨_, rfl, ?_⟩
      replace HX := Aside0.mk (HX.out.step hb_)
      refine hK.out _ _ ⟨v2, v3, m4, v8, v11, v14, v15, v16, vn_, m18, (by rw [ha.out]; exact putSel_upk 13 hbo_ rfl rfl rfl), HX.out, fun h0_ => (Q2 h0_).below hb_, fun h0_ => (Q3 h0_).below hb_, fun h0_ => ⟨(Q4 h0_).1, (Q4 h0_).2.below hb_⟩, fun h0_ => (Q8 h0_).below hb_, fun h0_ => (Q11 h0_).below hb_, fun h0_ => (Q14 h0_).below hb_, fun h0_ => (Q15 h0_).below hb_, fun h0_ => (Q16 h0_).below hb_, fun _ => RdP.of_R ho, fun h0_ => absurd ((hoff 18 (by kernel_rfl)).symm.trans h0_) (by decide)⟩
    refine steps_cons ?_ ?_
    · rintro b_ a_ w' ⟨v2, v3, m4, v8, v11, v14, v15, v16, v17, m18, ha, QX, Q2, Q3, Q4, Q8, Q11, Q14, Q15, Q16, Q17, Q18⟩ hbo_ hon hoff
      refine ⟨_, rfl, fun K hK => ?_⟩
      have e30 : a_.tmps[30]? = some (v17) := by rw [ha]; exact putSel_on (e := (17, 30, v17)) 13 rfl rfl (hon 17 (by kernel_rfl)) rfl
      replace ha := Aside0.mk ha
      have HX := Aside0.mk QX
      clear QX
      refine value_ (w1 := w') (v := v17) (by rfl) rfl ?_ ?_
      · go_simp
        try rfl
      refine hK.out _ _ ⟨v2, v3, m4, v8, v11, v14, v15, v16, v17, v17, (by rw [ha.out]; exact putSel_upk 14 hbo_ rfl rfl rfl), HX.out, Q2, Q3, Q4, Q8, Q11, Q14, Q15, Q16, Q17, fun _ => rfl⟩
    exact steps_nil
  rintro b_ a_ w105 hall ⟨v2, v3, m4, v8, v11, v14, v15, v16, v17, m18, ha, QX, Q2, Q3, Q4, Q8, Q11, Q14, Q15, Q16, Q17, Q18⟩
  have hb1_ := hall 1 (by kernel_rfl)
  have hb2_ := hall 2 (by kernel_rfl)
  have hb3_ := hall 3 (by kernel_rfl)
  have hb4_ := hall 4 (by kernel_rfl)
  have hb6_ := hall 6 (by kernel_rfl)
  have hb7_ := hall 7 (by kernel_rfl)
  have hb8_ := hall 8 (by kernel_rfl)
  have hb10_ := hall 10 (by kernel_rfl)
  have hb11_ := hall 11 (by kernel_rfl)
  have hb13_ := hall 13 (by kernel_rfl)
  have hb14_ := hall 14 (by kernel_rfl)
  have hb15_ := hall 15 (by kernel_rfl)
  have hb16_ := hall 16 (by kernel_rfl)
  have hb17_ := hall 17 (by kernel_rfl)
  have hb18_ := hall 18 (by kernel_rfl)
  subst ha
  simp only [putSel, hb1_, hb2_, hb3_, hb4_, hb6_, hb7_, hb8_, hb10_, hb11_, hb13_, hb14_, hb15_, hb16_, hb17_, hb18_, if_true, Act.put, List.setIfInBounds_toArray, List.set_cons_zero, List.set_cons_succ]
  have H106 := Aside0.mk QX
  clear QX
  have F2 := Aside0.mk (Q2 hb2_)
  clear Q2
  have F3 := Aside0.mk (Q3 hb3_)
  clear Q3
  have F4 := Aside0.mk (Q4 hb4_)
  clear Q4
  have F8 := Aside0.mk (Q8 hb8_)
  clear Q8
  have F11 := Aside0.mk (Q11 hb11_)
  clear Q11
  have F14 := Aside0.mk (Q14 hb14_)
  clear Q14
  have F15 := Aside0.mk (Q15 hb15_)
  clear Q15
  have F16 := Aside0.mk (Q16 hb16_)
  clear Q16
  have F17 := Aside0.mk (Q17 hb17_)
  clear Q17
  have F18 := Aside0.mk (Q18 hb18_)
  clear Q18
  clear hall hb1_ hb2_ hb3_ hb4_ hb6_ hb7_ hb8_ hb10_ hb11_ hb13_ hb14_ hb15_ hb16_ hb17_ hb18_
  have hm18 := F18.out
  subst hm18
  obtain ⟨A17, c17, e17, hl17, hC17⟩ := F17.out
  subst e17
  have HL17 := Aside0.mk hl17
  have FC := Aside0.mk hC17
  clear F2 F3 F4 F8 F11 F14 F15 F16 F18 F17 hl17 hC17
  try go_wp2
  have H108 := Aside0.mk H106.out.drew
  have n9_ := Aside0.mk (Kd.C_below FC.out (below_drew1 (Below.refl w105.heap.size w105)))
  clear FC
  have FC := n9_
  clear n9_
  refine start_ (n := 10) (S := fun w' => w'.cell? ⟨g1, 0, none⟩ = some (.int .u32 q)) (ds := []) #[false, false, false, false, false, false, false, false, false, false] (by kernel_rfl) rfl rfl ((blk_cell H108.out.gt0 0).trans rfl) (fun hHeld => ?_)
  clear H106
  generalize w105.drew = w107 at H108 FC hHeld ⊢
  refine pure_ (i := 0) (N := some 31) (v := ?_) (a' := ?_) #[true, false, false, false, false, false, false, false, false, false] rfl rfl (by kernel_rfl) (fun _ _ _ h => h) (Or.inl ⟨by rfl, ?_⟩) ?_ ?_
  rotate_left
  · intro w'
    go_simp
    with_reducible rfl
  rotate_left
  · simp only [Act.put, List.setIfInBounds_toArray, List.set_cons_zero, List.set_cons_succ, i64_w, i32_w]
    rfl
  refine pure_ (i := 1) (N := some 32) (v := ?_) (a' := ?_) #[true, true, false, false, false, false, false, false, false, false] rfl rfl (by kernel_rfl) (fun _ _ _ h => h) (Or.inl ⟨by rfl, ?_⟩) ?_ ?_
  rotate_left
  · intro w'
    go_simp
    with_reducible rfl
  rotate_left
  · simp only [Act.put, List.setIfInBounds_toArray, List.set_cons_zero, List.set_cons_succ, i64_w, i32_w]
    rfl
  refine pure_ (i := 4) (N := some 35) (v := ?_) (a' := ?_) #[true, true, false, false, true, false, false, false, false, false] rfl rfl (by kernel_rfl) (fun _ _ _ h => h) (Or.inl ⟨by rfl, ?_⟩) ?_ ?_
  rotate_left
  · intro w'
    go_simp
    with_reducible rfl
  rotate_left
  · simp only [Act.put, List.setIfInBounds_toArray, List.set_cons_zero, List.set_cons_succ, i64_w, i32_w]
    rfl
  refine take_ (i := 5) (N := some 36) (v := ?_) (a' := ?_) #[true, true, false, false, true, true, false, false, false, false] rfl rfl (by kernel_rfl) (fun _ _ _ h => h) (Or.inl ⟨by rfl, ?_⟩) hHeld ?_ ?_
  rotate_left
  · rintro w' s0
    go_simp
    with_reducible rfl
  rotate_left
  · simp only [Act.put, List.setIfInBounds_toArray, List.set_cons_zero, List.set_cons_succ, i64_w, i32_w]
    rfl
  refine one_ (i := 2) (N := some 33) #[true, true, true, false, true, true, false, false, false, false] rfl rfl (by kernel_rfl) (by decide) (fun K hK => ?_)
  refine goes_ Try.func50 (by kernel_rfl) rfl #[.slice A17 fh.length c17] (by rfl) rfl rfl (by (try simp only [List.map_toArray, List.map_cons, List.map_nil]); first | done | rfl) ?_
  refine (spec_Crc32.calls kc _ c17 fh c _ FC.out HL17.out HCR.out).mono ?_
  rintro e w110 ⟨rfl, hd_⟩
  refine ⟨_, rfl, ?_⟩
  have hb_ := hd_.below
  clear hd_
  have HBW2 := Aside0.mk H108.out.below.size
  have H111 := Aside0.mk (H108.out.step hb_)
  have n12_ := Aside0.mk (Kd.C_below FC.out hb_)
  clear FC
  have FC := n12_
  clear n12_
  clear hb_ H108
  refine hK.out _ _ ((blk_cell H111.out.gt0 0).trans rfl) (fun hHeld => ?_)
  clear hK K
  refine norm_ (a' := ?_) ?_ ?_
  rotate_left
  · show Act.put _ (some 33) _ = _
    simp only [Act.put, List.setIfInBounds_toArray, List.set_cons_zero, List.set_cons_succ, i64_w, i32_w]
    rfl
  refine one_ (i := 3) (N := some 34) #[true, true, true, true, true, true, false, false, false, false] rfl rfl (by kernel_rfl) (by decide) (fun K hK => ?_)
  refine goes_ Try.func48 (by kernel_rfl) rfl #[.int .u32 c] (by rfl) rfl rfl (by (try simp only [List.map_toArray, List.map_cons, List.map_nil]); first | done | rfl) ?_
  refine (spec_l2Four.calls c (P.leB 4 c) _ (P.four_is c HC.out)).mono ?_
  rintro e w113 ⟨v3_, rfl, ho, hb_⟩
  refine ⟨_, rfl, ?_⟩
  have HBW3 := Aside0.mk H111.out.below.size
  have H114 := Aside0.mk (H111.out.step hb_)
  have n15_ := Aside0.mk (Kd.C_below FC.out hb_)
  clear FC
  have FC := n15_
  clear n15_
  clear hb_ H111
  obtain ⟨A3, c3, e3, hl3, hC3⟩ := RdP.of_R ho
  subst e3
  have HL3 := Aside0.mk hl3
  have FC3 := Aside0.mk hC3
  clear hl3 hC3 ho
  refine hK.out _ _ ((blk_cell H114.out.gt0 0).trans rfl) (fun hHeld => ?_)
  clear hK K
  refine norm_ (a' := ?_) ?_ ?_
  rotate_left
  · show Act.put _ (some 34) _ = _
    simp only [Act.put, List.setIfInBounds_toArray, List.set_cons_zero, List.set_cons_succ, i64_w, i32_w]
    rfl
  refine one_ (i := 6) (N := some 37) #[true, true, true, true, true, true, true, false, false, false] rfl rfl (by kernel_rfl) (by decide) (fun K hK => ?_)
  refine goes_ Try.func48 (by kernel_rfl) rfl #[.int .u32 q] (by rfl) rfl rfl (by (try simp only [List.map_toArray, List.map_cons, List.map_nil]); first | done | rfl) ?_
  refine (spec_l2Four.calls q (P.leB 4 q) _ (P.four_is q HQ.out)).mono ?_
  rintro e w116 ⟨v6_, rfl, ho, hb_⟩
  refine ⟨_, rfl, ?_⟩
  have HBW6 := Aside0.mk H114.out.below.size
  have H117 := Aside0.mk (H114.out.step hb_)
  have n18_ := Aside0.mk (Kd.C_below FC.out hb_)
  clear FC
  have FC := n18_
  clear n18_
  have n19_ := Aside0.mk (Kd.C_below FC3.out hb_)
  clear FC3
  have FC3 := n19_
  clear n19_
  clear hb_ H114
  obtain ⟨A6, c6, e6, hl6, hC6⟩ := RdP.of_R ho
  subst e6
  have HL6 := Aside0.mk hl6
  have FC6 := Aside0.mk hC6
  clear hl6 hC6 ho
  refine hK.out _ _ ((blk_cell H117.out.gt0 0).trans rfl) (fun hHeld => ?_)
  clear hK K
  refine norm_ (a' := ?_) ?_ ?_
  rotate_left
  · show Act.put _ (some 37) _ = _
    simp only [Act.put, List.setIfInBounds_toArray, List.set_cons_zero, List.set_cons_succ, i64_w, i32_w]
    rfl
  refine one_ (i := 7) (N := some 38) #[true, true, true, true, true, true, true, true, false, false] rfl rfl (by kernel_rfl) (by decide) (fun K hK => ?_)
  refine Kd.N_lit_step (Kd.slice 5 (Kd.int .u8)) _ 25 ?hg (N' := 38) ?hd (xs := ([fh, P.leB 4 c, P.leB 4 q] : List (List Int))) (inner := [.slice A17 fh.length c17, .slice A3 (P.leB 4 c).length c3, .slice A6 (P.leB 4 q).length c6]) (ok := fun _ => True) (okp := fun _ => True) ?hr ?hp (fun _ hk => hk) trivial (Below.refl _ _) (Nat.le_refl _) (by simp) ?_; (case hd => rfl); (case hg => rfl); (case hr => first | (go_simp; done) | (go_simp; rfl)); (case hp => exact (Reps.one (RdP.FK HL17.out FC.out) (Reps.one (RdP.FK HL3.out FC3.out) (Reps.one (RdP.FK HL6.out FC6.out) (Reps.none _ _)))))
  intro v7_ w120 ho hb_ hg_ hnew_
  clear hg_ hnew_
  obtain ⟨A7, c7, e7, hl7, hC7⟩ := RowsP.of_N ho
  subst e7
  have HL7 := Aside0.mk hl7
  have FC7 := Aside0.mk hC7
  clear hl7 hC7 ho
  have H121 := Aside0.mk (H117.out.step hb_)
  have n22_ := Aside0.mk (Kd.C_below FC.out hb_)
  clear FC
  have FC := n22_
  clear n22_
  have n23_ := Aside0.mk (Kd.C_below FC3.out hb_)
  clear FC3
  have FC3 := n23_
  clear n23_
  have n24_ := Aside0.mk (Kd.C_below FC6.out hb_)
  clear FC6
  have FC6 := n24_
  clear n24_
  clear hb_ H117
  refine hK.out _ _ ((blk_cell H121.out.gt0 0).trans rfl) (fun hHeld => ?_)
  clear hK K
  refine norm_ (a' := ?_) ?_ ?_
  rotate_left
  · show Act.put _ (some 38) _ = _
    simp only [Act.put, List.setIfInBounds_toArray, List.set_cons_zero, List.set_cons_succ, i64_w, i32_w]
    rfl
  refine one_ (i := 8) (N := some 39) #[true, true, true, true, true, true, true, true, true, false] rfl rfl (by kernel_rfl) (by decide) (fun K hK => ?_)
  refine goes_ Try.func47 (by kernel_rfl) rfl #[.slice A7 ([fh, P.leB 4 c, P.leB 4 q]).length c7] (by rfl) rfl rfl (by (try simp only [List.map_toArray, List.map_cons, List.map_nil]); first | done | rfl) ?_
  refine (spec_l2Cat.calls k2 _ c7 [fh, P.leB 4 c, P.leB 4 q] r _ FC7.out HL7.out HC2.out).mono ?_
  rintro e w125 ⟨v8_, rfl, ho, hb_⟩
  refine ⟨_, rfl, ?_⟩
  have HBW8 := Aside0.mk H121.out.below.size
  have H126 := Aside0.mk (H121.out.step hb_)
  clear hb_ H121
  refine hK.out _ _ ((blk_cell H126.out.gt0 0).trans rfl) (fun hHeld => ?_)
  clear hK K
  refine norm_ (a' := ?_) ?_ ?_
  rotate_left
  · show Act.put _ (some 39) _ = _
    simp only [Act.put, List.setIfInBounds_toArray, List.set_cons_zero, List.set_cons_succ, i64_w, i32_w]
    rfl
  have HRr := Aside0.mk (Kd.R_lower ho HBW8.out)
  clear ho
  refine pure_ (i := 9) (N := some 2) (v := ?_) (a' := ?_) #[true, true, true, true, true, true, true, true, true, true] rfl rfl (by kernel_rfl) (fun _ _ _ h => h) (Or.inl ⟨by rfl, ?_⟩) ?_ ?_
  rotate_left
  · intro w'
    go_simp
    with_reducible rfl
  rotate_left
  · simp only [Act.put, List.setIfInBounds_toArray, List.set_cons_zero, List.set_cons_succ, i64_w, i32_w]
    rfl
  refine done_ (by kernel_rfl) ?_
  clear hHeld
  go_wp2
  go_ret
  exact ⟨_, rfl, HRr.out, H126.out.below⟩
set_option maxHeartbeats 8000000 in
set_option maxRecDepth 100000 in
theorem specFrame_none {q kd a b : Int} {w : World} (hk : ¬ (1 ≤ kd ∧ kd ≤ 3)) :
    Calls Try.prog 11 #[.agg #[.int .u32 q, .int .i64 kd, .int .u32 a, .int .u32 b]] w fun e w' => ∃ v0_ : Value, e = .returned (v0_) ∧ Kd.R (Kd.int .u8) 5 w' w.heap.size (fun _ => True) v0_ [] ∧ Below w.heap.size w w' := by
  have H0 := Aside0.mk (Bx.refl w)
  have HK := Aside0.mk hk
  clear hk
  go_enter Try.func11, Try.ntmps11
  go_wp2_with (first | ((with_reducible refine gate_dst (N := 1) rfl ?_); refine Aside0.out ?_))
  refine Aside0.mk ?_
  refine mk ?hw1 (N := 1) ?hd1 (cs := #[.int .u32 q, .int .i64 kd, .int .u32 a, .int .u32 b]) (t := 27) ?hr1 ?_
  case hd1 => rfl
  case hw1 => rfl
  case hr1 => first | (go_simp; done) | (go_simp; rfl)
  intro g1 hg1_ w101 hb1 hB1
  have H102 := Aside0.mk (H0.out.new hg1_ hb1 hB1)
  clear hg1_ hb1 hB1 H0
  have hk1 : w101.cell? ⟨g1, 1, none⟩ = some (.int .i64 kd) := (blk_cell H102.out.gt0 1).trans rfl
  by_cases c1 : kd < 1
  all_goals
    first | have k1b : decide (kd < 1) = true := decide_eq_true (by assumption) | have k1b : decide (kd < 1) = false := decide_eq_false (by assumption)
    try have k3b : decide (3 < kd) = true := decide_eq_true (by have := HK.out; omega)
    clear c1
    go_wp2_with (first | ((with_reducible refine gate_dst (N := 12) rfl ?_); refine Aside0.out ?_))
    refine Aside0.mk ?_
    refine Kd.R_lit (Kd.int .u8) _ 5 ?hg (N := 12) ?hd (xs := ([] : List Int)) (inner := []) (ok := fun _ => True) (okp := fun _ => True) ?hr ?hp (fun _ hk => hk) trivial (Below.refl _ _) (Nat.le_refl _) (by simp) ?_
    case hd => rfl
    case hg => rfl
    case hr => first | (go_simp; done) | (go_simp; rfl)
    case hp => exact (Reps.none _ _)
    intro v12_ w2_ ho hb_ hg_ hnew_
    clear hg_ hnew_
    have HRr := Aside0.mk (Kd.R_lower ho H102.out.below.size)
    have HX := Aside0.mk (H102.out.step hb_)
    clear ho hb_ hk1
    go_wp2
    go_ret
    exact ⟨_, rfl, HRr.out, HX.out.below⟩
theorem spec_EncodeFrame.calls (a0_0 : Int) (a0_1 : Int) (a0_2 : Int) (a0_3 : Int) (r : List Int) (w : World) (h : spec_EncodeFrame.f a0_0 a0_1 a0_2 a0_3 = some r) :
    Calls Try.prog 11 #[.agg #[.int .u32 a0_0, .int .i64 a0_1, .int .u32 a0_2, .int .u32 a0_3]] w fun e w' => ∃ v0_ : Value, e = .returned (v0_) ∧ Kd.R (Kd.int .u8) 5 w' w.heap.size (fun _ => True) v0_ r ∧ Below w.heap.size w w' := by
  unfold spec_EncodeFrame.f at h
  by_cases hsz : (0 ≤ a0_0 ∧ a0_0 ≤ 4294967295) ∧ (0 ≤ a0_2 ∧ a0_2 ≤ 4294967295) ∧ (0 ≤ a0_3 ∧ a0_3 ≤ 4294967295)
  case neg => rw [if_neg hsz] at h; cases h
  rw [if_pos hsz] at h
  have h := Option.some.inj h
  by_cases hk : 1 ≤ a0_1 ∧ a0_1 ≤ 3
  · rw [if_pos hk] at h
    subst h
    have hc := P.crc32_range (frameHead a0_0 a0_1 a0_2 a0_3)
    unfold P.U32 at hc
    obtain ⟨kz, hz⟩ := (P.zeros_ev 40 (by decide)).ex
    obtain ⟨k1, hc1⟩ := (P.cat_ev [P.leB 4 a0_0, [74, 49], [a0_1 % 256, 0], P.leB 4 a0_2, P.leB 4 a0_3, List.replicate 40 0] (by show 6 ≤ 1048576; decide) (by show 56 ≤ 1048576; decide)).ex
    obtain ⟨kc, hcr⟩ := (P.spec_Crc32_ev (frameHead a0_0 a0_1 a0_2 a0_3) (by show 56 ≤ 4611686018427387904; decide)).ex
    obtain ⟨k2, hc2⟩ := (P.cat_ev [frameHead a0_0 a0_1 a0_2 a0_3, P.leB 4 (P.crc32 (frameHead a0_0 a0_1 a0_2 a0_3)), P.leB 4 a0_0] (by show 3 ≤ 1048576; decide) (by show 64 ≤ 1048576; decide)).ex
    exact specFrame_raw hsz.1 hsz.2.1 hsz.2.2 hk hz hc1 hcr (by omega) hc2
  · rw [if_neg hk] at h
    subst h
    exact specFrame_none hk
end Go.Proofs.Ytgfadfahbhcllaa.Q
namespace Go.Proofs.Ytgfadfahbhcllaa.Q
open Go.RowKit Go.Proofs.YtgfadfahbhcllaaW.PrintWords Go.Proofs.YtgfadfahbhcllaaW.PrintLast Go.Proofs.Ytgfadfahbhcllaa.LK Go.Proofs.YtgfadfahbhcllaaW.PrintMore
attribute [local go_sem] max2_int min2_int max_two min_two max_three min_three max_four min_four   -- for this text's walks alone
set_option linter.unusedVariables false
set_option linter.unusedSimpArgs false

/-! ### spec_DrawDecodeFrame: function 23 -/
def spec_DrawDecodeFrame.j0 : Nat → List Int → Int → Int → Int → List Int → Int → Int → Option (List Int)
  | 0, _, _, _, _, _, _, _ => none
  | k + 1, x5, x6, x7, x8, x105000, x105001, x105002 => if x6 = 1 then (if 0 ≤ x7 then (if x7 ≤ (x5.length : Int) then (some (x5.take (x7 : Int).toNat)) else (none)) else (none)) else (if x6 = 2 then ((spec_l2DrawFrame.f k x105000 x105001 x105002).bind fun bt129 => ((spec_EncodeFrame.f bt129.1 bt129.2.1 bt129.2.2.1 bt129.2.2.2.1).bind fun t135 => ((spec_l2Torn.f x5 t135 x7).bind fun t138 => (some t138)))) else (if x6 = 3 then (if 0 ≤ (Int.tmod x7 56) then (if (Int.tmod x7 56) < (x5.length : Int) then ((some (x5.set ((Int.tmod x7 56) : Int).toNat (Go.bits .xor .u8 (rd x5 (Int.tmod x7 56)) ((x8) % 256)) : List Int)).bind fun y142 => (if 56 ≤ (x5.length : Int) then ((spec_Crc32.f k (y142.take 56)).bind fun t153 => ((spec_l2Four.f t153).bind fun t154 => (if 60 ≤ (x5.length : Int) then ((spec_l2Cat.f k (([(y142.take 56), t154, (y142.drop 60)] : List (List Int)))).bind fun t165 => (some t165)) else (none)))) else (none))) else (none)) else (none)) else (if x6 = 4 then (if x5.length < 140737488355328 then (some (x5 ++ [0])) else (none)) else (some x5))))
def spec_DrawDecodeFrame.f (k : Nat) (l0 : List Int) : Option (List Int) := (spec_l1New.f k l0).bind fun bt101 => ((spec_l2DrawFrame.f k bt101.1 bt101.2.1 bt101.2.2).bind fun bt105 => ((spec_EncodeFrame.f bt105.1 bt105.2.1 bt105.2.2.1 bt105.2.2.2.1).bind fun t112 => ((spec_l1Below.f bt101.1 bt105.2.2.2.2.1 bt105.2.2.2.2.2 8).bind fun bt115 => ((spec_l1Below.f bt101.1 bt115.2.1 bt115.2.2 64).bind fun bt118 => ((spec_l1Below.f bt101.1 bt118.2.1 bt118.2.2 255).bind fun bt121 => (if bt115.1 = 0 then (if 0 ≤ bt118.1 then (if bt118.1 < (t112.length : Int) then (spec_DrawDecodeFrame.j0 k (t112.set (bt118.1 : Int).toNat (Go.bits .xor .u8 (rd t112 bt118.1) ((wrap64 (1 + bt121.1)) % 256))) bt115.1 bt118.1 (wrap64 (1 + bt121.1)) bt101.1 bt121.2.1 bt121.2.2) else (none)) else (none)) else (spec_DrawDecodeFrame.j0 k t112 bt115.1 bt118.1 (wrap64 (1 + bt121.1)) bt101.1 bt121.2.1 bt121.2.2)))))))
theorem spec_DrawDecodeFrame.mono_l : ∀ k, (∀ y0 y1 y2 y3 y4 y5 y6, LeO (spec_DrawDecodeFrame.j0 k y0 y1 y2 y3 y4 y5 y6) (spec_DrawDecodeFrame.j0 (k + 1) y0 y1 y2 y3 y4 y5 y6))
  | 0 => fun _ _ _ _ _ _ _ r h => by simp [spec_DrawDecodeFrame.j0] at h
  | k + 1 => by
    have ih0 := spec_DrawDecodeFrame.mono_l k
    · intro y0 y1 y2 y3 y4 y5 y6
      unfold spec_DrawDecodeFrame.j0
      repeat' first
      | (with_reducible exact ih0 _ _ _ _ _ _ _)
      | (with_reducible exact spec_Crc32.mono _ _)
      | (with_reducible exact spec_l1New.mono _ _)
      | (with_reducible exact spec_l2Cat.mono _ _)
      | (with_reducible exact spec_l2DrawFrame.mono _ _ _ _)
      | (with_reducible exact LeO.refl _)
      | (with_reducible exact LeO.none _)
      | (with_reducible refine LeO.ite ?_ ?_)
      | (with_reducible refine LeO.bind ?_ (fun _ => ?_))
      | exact ih0 _ _ _ _ _ _ _
      | exact spec_Crc32.mono _ _
      | exact spec_l1New.mono _ _
      | exact spec_l2Cat.mono _ _
      | exact spec_l2DrawFrame.mono _ _ _ _
      | exact LeO.none _
      | refine LeO.ite ?_ ?_
      | refine LeO.bind ?_ (fun _ => ?_)
theorem spec_DrawDecodeFrame.mono : ∀ a0 k, LeO (spec_DrawDecodeFrame.f k a0) (spec_DrawDecodeFrame.f (k + 1) a0) := by
  intro a0 k
  have ih0 := spec_DrawDecodeFrame.mono_l k
  unfold spec_DrawDecodeFrame.f
  repeat' first
      | (with_reducible exact ih0 _ _ _ _ _ _ _)
      | (with_reducible exact spec_Crc32.mono _ _)
      | (with_reducible exact spec_l1New.mono _ _)
      | (with_reducible exact spec_l2Cat.mono _ _)
      | (with_reducible exact spec_l2DrawFrame.mono _ _ _ _)
      | (with_reducible exact LeO.refl _)
      | (with_reducible exact LeO.none _)
      | (with_reducible refine LeO.ite ?_ ?_)
      | (with_reducible refine LeO.bind ?_ (fun _ => ?_))
      | exact ih0 _ _ _ _ _ _ _
      | exact spec_Crc32.mono _ _
      | exact spec_l1New.mono _ _
      | exact spec_l2Cat.mono _ _
      | exact spec_l2DrawFrame.mono _ _ _ _
      | exact LeO.none _
      | refine LeO.ite ?_ ?_
      | refine LeO.bind ?_ (fun _ => ?_)
def spec_DrawDecodeFrame.T15 : Bool × List (List Nat × List Nat) := (true, [([], []), ([0], [0]), ([], []), ([2], [2]), ([3], [3]), ([4, 4], [4]), ([], []), ([6], [6]), ([1, 5, 7], [1, 5, 7]), ([8, 5], [8]), ([9, 9, 0, 1, 2, 3, 4, 5, 6, 7, 8, 9], [9])])
def spec_DrawDecodeFrame.B15 : List Nat := [0, 1, 0, 4, 12, 28, 0, 64, 255, 511, 1023]
theorem spec_DrawDecodeFrame.tab15 : rtab .any (opsOf Try.f23 15) = spec_DrawDecodeFrame.T15 := by kernel_rfl
theorem spec_DrawDecodeFrame.bits15 : waitsOk spec_DrawDecodeFrame.T15.2 spec_DrawDecodeFrame.B15 = true := by kernel_rfl
set_option maxHeartbeats 8000000 in
set_option maxRecDepth 100000 in
theorem spec_DrawDecodeFrame.calls (k : Nat) (A0 : Option Addr) (c0 : Nat) (l0 : List Int) (r : List Int) (w : World) (hr0 : Kd.C (Kd.int .u8) w A0 l0.length l0) (hc0 : l0.length ≤ c0) (h : spec_DrawDecodeFrame.f k l0 = some r) :
    Calls Try.prog 23 #[.slice A0 l0.length c0] w fun e w' => ∃ v0_ : Value, e = .returned (v0_) ∧ Kd.R (Kd.int .u8) 5 w' w.heap.size (fun _ => True) v0_ r ∧ Below w.heap.size w w' := by
  have hu27 := Try.underlying27
  have HR0 := Aside0.mk hr0
  have HC0 := Aside0.mk hc0
  clear hr0 hc0
  have HB := Aside0.mk (Below.refl w.heap.size w)
  have H : ((spec_l1New.f k l0).bind fun bt101 => ((spec_l2DrawFrame.f k bt101.1 bt101.2.1 bt101.2.2).bind fun bt105 => ((spec_EncodeFrame.f bt105.1 bt105.2.1 bt105.2.2.1 bt105.2.2.2.1).bind fun t112 => ((spec_l1Below.f bt101.1 bt105.2.2.2.2.1 bt105.2.2.2.2.2 8).bind fun bt115 => ((spec_l1Below.f bt101.1 bt115.2.1 bt115.2.2 64).bind fun bt118 => ((spec_l1Below.f bt101.1 bt118.2.1 bt118.2.2 255).bind fun bt121 => (if bt115.1 = 0 then (if 0 ≤ bt118.1 then (if bt118.1 < (t112.length : Int) then (spec_DrawDecodeFrame.j0 k (t112.set (bt118.1 : Int).toNat (Go.bits .xor .u8 (rd t112 bt118.1) ((wrap64 (1 + bt121.1)) % 256))) bt115.1 bt118.1 (wrap64 (1 + bt121.1)) bt101.1 bt121.2.1 bt121.2.2) else (none)) else (none)) else (spec_DrawDecodeFrame.j0 k t112 bt115.1 bt118.1 (wrap64 (1 + bt121.1)) bt101.1 bt121.2.1 bt121.2.2)))))))) = some r := h
  clear h
  replace H := Option.bind_eq_some_iff.mp H
  obtain ⟨⟨t101, t102, t103⟩, A20, H⟩ := H
  replace H : ((spec_l2DrawFrame.f k t101 t102 t103).bind fun bt105 => ((spec_EncodeFrame.f bt105.1 bt105.2.1 bt105.2.2.1 bt105.2.2.2.1).bind fun t112 => ((spec_l1Below.f t101 bt105.2.2.2.2.1 bt105.2.2.2.2.2 8).bind fun bt115 => ((spec_l1Below.f t101 bt115.2.1 bt115.2.2 64).bind fun bt118 => ((spec_l1Below.f t101 bt118.2.1 bt118.2.2 255).bind fun bt121 => (if bt115.1 = 0 then (if 0 ≤ bt118.1 then (if bt118.1 < (t112.length : Int) then (spec_DrawDecodeFrame.j0 k (t112.set (bt118.1 : Int).toNat (Go.bits .xor .u8 (rd t112 bt118.1) ((wrap64 (1 + bt121.1)) % 256))) bt115.1 bt118.1 (wrap64 (1 + bt121.1)) t101 bt121.2.1 bt121.2.2) else (none)) else (none)) else (spec_DrawDecodeFrame.j0 k t112 bt115.1 bt118.1 (wrap64 (1 + bt121.1)) t101 bt121.2.1 bt121.2.2))))))) = some r := H
  have A2 := Aside0.mk A20
  clear A20
  replace H := Option.bind_eq_some_iff.mp H
  obtain ⟨⟨t105, t106, t107, t108, t109, t110⟩, A30, H⟩ := H
  replace H : ((spec_EncodeFrame.f t105 t106 t107 t108).bind fun t112 => ((spec_l1Below.f t101 t109 t110 8).bind fun bt115 => ((spec_l1Below.f t101 bt115.2.1 bt115.2.2 64).bind fun bt118 => ((spec_l1Below.f t101 bt118.2.1 bt118.2.2 255).bind fun bt121 => (if bt115.1 = 0 then (if 0 ≤ bt118.1 then (if bt118.1 < (t112.length : Int) then (spec_DrawDecodeFrame.j0 k (t112.set (bt118.1 : Int).toNat (Go.bits .xor .u8 (rd t112 bt118.1) ((wrap64 (1 + bt121.1)) % 256))) bt115.1 bt118.1 (wrap64 (1 + bt121.1)) t101 bt121.2.1 bt121.2.2) else (none)) else (none)) else (spec_DrawDecodeFrame.j0 k t112 bt115.1 bt118.1 (wrap64 (1 + bt121.1)) t101 bt121.2.1 bt121.2.2)))))) = some r := H
  have A3 := Aside0.mk A30
  clear A30
  replace H := Option.bind_eq_some_iff.mp H
  obtain ⟨t112, A40, H⟩ := H
  replace H : ((spec_l1Below.f t101 t109 t110 8).bind fun bt115 => ((spec_l1Below.f t101 bt115.2.1 bt115.2.2 64).bind fun bt118 => ((spec_l1Below.f t101 bt118.2.1 bt118.2.2 255).bind fun bt121 => (if bt115.1 = 0 then (if 0 ≤ bt118.1 then (if bt118.1 < (t112.length : Int) then (spec_DrawDecodeFrame.j0 k (t112.set (bt118.1 : Int).toNat (Go.bits .xor .u8 (rd t112 bt118.1) ((wrap64 (1 + bt121.1)) % 256))) bt115.1 bt118.1 (wrap64 (1 + bt121.1)) t101 bt121.2.1 bt121.2.2) else (none)) else (none)) else (spec_DrawDecodeFrame.j0 k t112 bt115.1 bt118.1 (wrap64 (1 + bt121.1)) t101 bt121.2.1 bt121.2.2))))) = some r := H
  have A4 := Aside0.mk A40
  clear A40
  replace H := Option.bind_eq_some_iff.mp H
  obtain ⟨⟨t115, t116, t117⟩, A50, H⟩ := H
  replace H : ((spec_l1Below.f t101 t116 t117 64).bind fun bt118 => ((spec_l1Below.f t101 bt118.2.1 bt118.2.2 255).bind fun bt121 => (if t115 = 0 then (if 0 ≤ bt118.1 then (if bt118.1 < (t112.length : Int) then (spec_DrawDecodeFrame.j0 k (t112.set (bt118.1 : Int).toNat (Go.bits .xor .u8 (rd t112 bt118.1) ((wrap64 (1 + bt121.1)) % 256))) t115 bt118.1 (wrap64 (1 + bt121.1)) t101 bt121.2.1 bt121.2.2) else (none)) else (none)) else (spec_DrawDecodeFrame.j0 k t112 t115 bt118.1 (wrap64 (1 + bt121.1)) t101 bt121.2.1 bt121.2.2)))) = some r := H
  have A5 := Aside0.mk A50
  clear A50
  replace H := Option.bind_eq_some_iff.mp H
  obtain ⟨⟨t118, t119, t120⟩, A60, H⟩ := H
  replace H : ((spec_l1Below.f t101 t119 t120 255).bind fun bt121 => (if t115 = 0 then (if 0 ≤ t118 then (if t118 < (t112.length : Int) then (spec_DrawDecodeFrame.j0 k (t112.set (t118 : Int).toNat (Go.bits .xor .u8 (rd t112 t118) ((wrap64 (1 + bt121.1)) % 256))) t115 t118 (wrap64 (1 + bt121.1)) t101 bt121.2.1 bt121.2.2) else (none)) else (none)) else (spec_DrawDecodeFrame.j0 k t112 t115 t118 (wrap64 (1 + bt121.1)) t101 bt121.2.1 bt121.2.2))) = some r := H
  have A6 := Aside0.mk A60
  clear A60
  replace H := Option.bind_eq_some_iff.mp H
  obtain ⟨⟨t121, t122, t123⟩, A70, H⟩ := H
  replace H : (if t115 = 0 then (if 0 ≤ t118 then (if t118 < (t112.length : Int) then (spec_DrawDecodeFrame.j0 k (t112.set (t118 : Int).toNat (Go.bits .xor .u8 (rd t112 t118) ((wrap64 (1 + t121)) % 256))) t115 t118 (wrap64 (1 + t121)) t101 t122 t123) else (none)) else (none)) else (spec_DrawDecodeFrame.j0 k t112 t115 t118 (wrap64 (1 + t121)) t101 t122 t123)) = some r := H
  have A7 := Aside0.mk A70
  clear A70
  have HC8 := Aside0.mk H
  clear H
  go_enter Try.func23, Try.ntmps23
  go_upto_if 23 with (first | ((with_reducible refine gate_callee (f := 57) rfl ?_); refine goesL_ (some 10) rfl rfl Try.func57 (by kernel_rfl) rfl #[.slice A0 l0.length c0] rfl (by (try simp only [List.map_toArray, List.map_cons, List.map_nil]); first | done | rfl | (simp only [List.length_drop, List.length_take]; rfl)) ?_; (with_reducible refine (spec_l1New.calls k _ _ l0 t101 t102 t103 w _ ?side1 ?side2 ?side3 A2.out).mono ?_); (case side1 => repeat (first | (with_reducible first | exact HB.out | apply below_alloc | apply pw_below_drewN | apply below_drew1) | exact HB.out)); (case side2 => exact HR0.out); (case side3 => exact HC0.out); rintro e w9 ⟨g104, rfl, hi, hb, hb2⟩; refine ⟨_, rfl, ?_⟩; have n0_ := Aside0.mk (hb); have n1_ := Aside0.mk (hi); clear HB; have HB := n0_; have HI104 := n1_; clear n0_ n1_; (try clear hb); (try clear hb2); (try clear hk); (try clear hi)) | ((with_reducible refine gate_callee (f := 58) rfl ?_); refine goesL_ (some 12) rfl rfl Try.func58 (by kernel_rfl) rfl #[.pointer (some ⟨g104, 0, none⟩)] rfl (by (try simp only [List.map_toArray, List.map_cons, List.map_nil]); first | done | rfl | (simp only [List.length_drop, List.length_take]; rfl)) ?_; (with_reducible refine (spec_l2DrawFrame.calls k g104 t101 t102 t103 t105 t106 t107 t108 t109 t110 w _ ?side1 ?side2 A3.out).mono ?_); (case side1 => repeat (first | (with_reducible first | exact HI104.out | apply IsS121.alloc | apply IsS121.drewN | apply IsS121.drew | apply IsS121.set_1 | apply IsS121.set_2) | exact HI104.out)); (case side2 => repeat (first | (with_reducible first | exact HB.out | apply below_alloc | apply pw_below_drewN | apply below_drew1 | refine below_set ?_ (IsS121.ge HI104.out)) | exact HB.out)); rintro e w10 ⟨rfl, hi, hb, hk⟩; refine ⟨_, rfl, ?_⟩; have n0_ := Aside0.mk (hb); have n1_ := Aside0.mk (hi); clear HB; clear HI104; have HB := n0_; have HI104 := n1_; clear n0_ n1_; (try clear hb); (try clear hb2); (try clear hk); (try clear hi)) | ((with_reducible refine gate_dst (N := 4) rfl ?_); refine box_event ?hg (N := 4) ?hd (cs := #[.int .u32 0, .int .i64 0, .int .u32 0, .int .u32 0]) (t := 27) ?hr ?_; (case hd => rfl); (case hg => rfl); (case hr => first | (go_simp; done) | (go_simp; rfl)); intro gb111 hg w11 hbox hb; have n0_ := Aside0.mk (IsS121.below (by repeat (first | (with_reducible first | exact HI104.out | apply IsS121.alloc | apply IsS121.drewN | apply IsS121.drew | apply IsS121.set_1 | apply IsS121.set_2) | exact HI104.out)) hb); have n1_ := Aside0.mk (below_step (by repeat (first | (with_reducible first | exact HB.out | apply below_alloc | apply pw_below_drewN | apply below_drew1 | refine below_set ?_ (IsS121.ge HI104.out)) | exact HB.out)) hb); have n2_ := Aside0.mk (hbox); have n3_ := Aside0.mk ((by rw [hg]; exact (below_size (by repeat (first | (with_reducible first | exact HB.out | apply below_alloc | apply pw_below_drewN | apply below_drew1 | refine below_set ?_ (IsS121.ge HI104.out)) | exact HB.out))) : w.heap.size ≤ gb111)); have n4_ := Aside0.mk ((by rw [hg]; exact (below_size (by repeat (first | (with_reducible first | exact HB.out | apply below_alloc | apply pw_below_drewN | apply below_drew1 | refine below_set ?_ (IsS121.ge HI104.out)) | exact HB.out))) : w.heap.size ≤ gb111)); have n5_ := Aside0.mk ((by rw [hg]; exact Nat.ne_of_lt (IsS121.lt (show IsS121 w _ g104 t101 t109 t110 from by repeat (first | (with_reducible first | exact HI104.out | apply IsS121.alloc | apply IsS121.drewN | apply IsS121.drew | apply IsS121.set_1 | apply IsS121.set_2) | exact HI104.out))) : g104 ≠ gb111)); have n6_ := Aside0.mk ((by rw [hg]; exact Nat.ne_of_gt (IsS121.lt (show IsS121 w _ g104 t101 t109 t110 from by repeat (first | (with_reducible first | exact HI104.out | apply IsS121.alloc | apply IsS121.drewN | apply IsS121.drew | apply IsS121.set_1 | apply IsS121.set_2) | exact HI104.out))) : gb111 ≠ g104)); clear HI104; clear HB; have HI104 := n0_; have HB := n1_; have BK111 := n2_; have GW111 := n3_; have GE111 := n4_; have NB104_111 := n5_; have NB111_104 := n6_; clear n0_ n1_ n2_ n3_ n4_ n5_ n6_; clear hb hbox hg; have hnb12 := NB111_104.out; have hnc12 := NB104_111.out; have hcz13_0 : w11.cell? ⟨gb111, 0, none⟩ = some (.int .u32 0) := (blk_cell BK111.out 0).trans rfl; have hcz13_1 : w11.cell? ⟨gb111, 1, none⟩ = some (.int .i64 0) := (blk_cell BK111.out 1).trans rfl; have hcz13_2 : w11.cell? ⟨gb111, 2, none⟩ = some (.int .u32 0) := (blk_cell BK111.out 2).trans rfl; have hcz13_3 : w11.cell? ⟨gb111, 3, none⟩ = some (.int .u32 0) := (blk_cell BK111.out 3).trans rfl; have hfz13_0 := blk_frozen BK111.out 0; have hfz13_1 := blk_frozen BK111.out 1; have hfz13_2 := blk_frozen BK111.out 2; have hfz13_3 := blk_frozen BK111.out 3) | ((with_reducible refine gate_callee (f := 11) rfl ?_); refine goesL_ (some 14) rfl rfl Try.func11 (by kernel_rfl) rfl #[.agg #[.int .u32 t105, .int .i64 t106, .int .u32 t107, .int .u32 t108]] rfl (by (try simp only [List.map_toArray, List.map_cons, List.map_nil]); first | done | rfl | (simp only [List.length_drop, List.length_take]; rfl)) ?_; (with_reducible refine (spec_EncodeFrame.calls t105 t106 t107 t108 t112 _ A4.out).mono ?_); rintro e w14 ⟨v113, rfl, ho0, hb⟩; refine ⟨_, rfl, ?_⟩; have n0_ := Aside0.mk (Kd.R_lower ho0 (below_size (by repeat (first | (with_reducible first | exact HB.out | apply below_alloc | apply pw_below_drewN | apply below_drew1 | refine below_set ?_ (IsS121.ge HI104.out) | refine below_set ?_ GE111.out) | exact HB.out)))); have n1_ := Aside0.mk (IsS121.below (show IsS121 w ((((w11.setCell ⟨gb111, 0, none⟩ (.int .u32 t105)).setCell ⟨gb111, 1, none⟩ (.int .i64 t106)).setCell ⟨gb111, 2, none⟩ (.int .u32 t107)).setCell ⟨gb111, 3, none⟩ (.int .u32 t108)) g104 t101 t109 t110 from by repeat (first | (with_reducible first | exact HI104.out | apply IsS121.alloc | apply IsS121.drewN | apply IsS121.drew | apply IsS121.set_1 | apply IsS121.set_2 | refine IsS121.far ?_ NB104_111.out _) | exact HI104.out)) hb); have n2_ := Aside0.mk (blk_below (g := gb111) (o := .cells #[.int .u32 t105, .int .i64 t106, .int .u32 t107, .int .u32 t108] 27 (0, 0)) (by (with_reducible repeat (first | refine blk_drewN ?_ _ | refine blk_drew ?_ | refine blk_alloc ?_ _)); refine blk_put (cs := #[.int .u32 t105, .int .i64 t106, .int .u32 t107, .int .u32 0]) ?_ 3 _ rfl; (with_reducible repeat (first | refine blk_drewN ?_ _ | refine blk_drew ?_ | refine blk_alloc ?_ _)); refine blk_put (cs := #[.int .u32 t105, .int .i64 t106, .int .u32 0, .int .u32 0]) ?_ 2 _ rfl; (with_reducible repeat (first | refine blk_drewN ?_ _ | refine blk_drew ?_ | refine blk_alloc ?_ _)); refine blk_put (cs := #[.int .u32 t105, .int .i64 0, .int .u32 0, .int .u32 0]) ?_ 1 _ rfl; (with_reducible repeat (first | refine blk_drewN ?_ _ | refine blk_drew ?_ | refine blk_alloc ?_ _)); refine blk_put (cs := #[.int .u32 0, .int .i64 0, .int .u32 0, .int .u32 0]) ?_ 0 _ rfl; (with_reducible repeat (first | refine blk_drewN ?_ _ | refine blk_drew ?_ | refine blk_alloc ?_ _)); exact BK111.out) hb); have n3_ := Aside0.mk (below_step (by repeat (first | (with_reducible first | exact HB.out | apply below_alloc | apply pw_below_drewN | apply below_drew1 | refine below_set ?_ (IsS121.ge HI104.out) | refine below_set ?_ GE111.out) | exact HB.out)) hb); clear HI104; clear BK111; clear HB; have HO114 := n0_; have HI104 := n1_; have BK111 := n2_; have HB := n3_; clear n0_ n1_ n2_ n3_; (try clear hb); (try clear hb2); (try clear hk); (try clear hi); (try clear ho0)) | ((with_reducible refine gate_callee (f := 60) rfl ?_); refine goesL_ (some 16) rfl rfl Try.func60 (by kernel_rfl) rfl #[.pointer (some ⟨g104, 0, none⟩), .int .i64 8] rfl (by (try simp only [List.map_toArray, List.map_cons, List.map_nil]); first | done | rfl | (simp only [List.length_drop, List.length_take]; rfl)) ?_; (with_reducible refine (spec_l1Below.calls g104 t101 t109 t110 8 t115 t116 t117 w _ ?side1 ?side2 A5.out).mono ?_); (case side1 => repeat (first | (with_reducible first | exact HI104.out | apply IsS121.alloc | apply IsS121.drewN | apply IsS121.drew | apply IsS121.set_1 | apply IsS121.set_2 | refine IsS121.far ?_ NB104_111.out _) | exact HI104.out)); (case side2 => repeat (first | (with_reducible first | exact HB.out | apply below_alloc | apply pw_below_drewN | apply below_drew1 | refine below_set ?_ (IsS121.ge HI104.out) | refine below_set ?_ GE111.out) | exact HB.out)); rintro e w15 ⟨rfl, hi, hb, hk⟩; refine ⟨_, rfl, ?_⟩; have n0_ := Aside0.mk (KeepBut.blk hk (g' := gb111) (o := .cells #[.int .u32 t105, .int .i64 t106, .int .u32 t107, .int .u32 t108] 27 (0, 0)) (by (with_reducible repeat (first | refine blk_drewN ?_ _ | refine blk_drew ?_ | refine blk_alloc ?_ _)); exact BK111.out) NB111_104.out (by simp)); have n1_ := Aside0.mk (Kd.R_mono (Kd.R_keep (IsS121.apart (show IsS121 w _ g104 t101 t109 t110 from by repeat (first | (with_reducible first | exact HI104.out | apply IsS121.alloc | apply IsS121.drewN | apply IsS121.drew | apply IsS121.set_1 | apply IsS121.set_2 | refine IsS121.far ?_ NB104_111.out _) | exact HI104.out)) (by (with_reducible repeat (first | apply Kd.R_alloc | apply Kd.R_drewN | apply Kd.R_drew)); exact HO114.out) (by decide)) hk (fun _ h => h.2)) (fun _ h => h.1)); have n2_ := Aside0.mk (hb); have n3_ := Aside0.mk (hi); clear BK111; clear HO114; clear HB; clear HI104; have BK111 := n0_; have HO114 := n1_; have HB := n2_; have HI104 := n3_; clear n0_ n1_ n2_ n3_; (try clear hb); (try clear hb2); (try clear hk); (try clear hi)) | ((with_reducible refine gate_callee (f := 60) rfl ?_); refine goesL_ (some 18) rfl rfl Try.func60 (by kernel_rfl) rfl #[.pointer (some ⟨g104, 0, none⟩), .int .i64 64] rfl (by (try simp only [List.map_toArray, List.map_cons, List.map_nil]); first | done | rfl | (simp only [List.length_drop, List.length_take]; rfl)) ?_; (with_reducible refine (spec_l1Below.calls g104 t101 t116 t117 64 t118 t119 t120 w _ ?side1 ?side2 A6.out).mono ?_); (case side1 => repeat (first | (with_reducible first | exact HI104.out | apply IsS121.alloc | apply IsS121.drewN | apply IsS121.drew | apply IsS121.set_1 | apply IsS121.set_2 | refine IsS121.far ?_ NB104_111.out _) | exact HI104.out)); (case side2 => repeat (first | (with_reducible first | exact HB.out | apply below_alloc | apply pw_below_drewN | apply below_drew1 | refine below_set ?_ (IsS121.ge HI104.out) | refine below_set ?_ GE111.out) | exact HB.out)); rintro e w16 ⟨rfl, hi, hb, hk⟩; refine ⟨_, rfl, ?_⟩; have n0_ := Aside0.mk (KeepBut.blk hk (g' := gb111) (o := .cells #[.int .u32 t105, .int .i64 t106, .int .u32 t107, .int .u32 t108] 27 (0, 0)) (by (with_reducible repeat (first | refine blk_drewN ?_ _ | refine blk_drew ?_ | refine blk_alloc ?_ _)); exact BK111.out) NB111_104.out (by simp)); have n1_ := Aside0.mk (Kd.R_mono (Kd.R_keep (IsS121.apart (show IsS121 w _ g104 t101 t116 t117 from by repeat (first | (with_reducible first | exact HI104.out | apply IsS121.alloc | apply IsS121.drewN | apply IsS121.drew | apply IsS121.set_1 | apply IsS121.set_2 | refine IsS121.far ?_ NB104_111.out _) | exact HI104.out)) (by (with_reducible repeat (first | apply Kd.R_alloc | apply Kd.R_drewN | apply Kd.R_drew)); exact HO114.out) (by decide)) hk (fun _ h => h.2)) (fun _ h => h.1)); have n2_ := Aside0.mk (hb); have n3_ := Aside0.mk (hi); clear BK111; clear HO114; clear HB; clear HI104; have BK111 := n0_; have HO114 := n1_; have HB := n2_; have HI104 := n3_; clear n0_ n1_ n2_ n3_; (try clear hb); (try clear hb2); (try clear hk); (try clear hi)) | ((with_reducible refine gate_callee (f := 60) rfl ?_); refine goesL_ (some 20) rfl rfl Try.func60 (by kernel_rfl) rfl #[.pointer (some ⟨g104, 0, none⟩), .int .i64 255] rfl (by (try simp only [List.map_toArray, List.map_cons, List.map_nil]); first | done | rfl | (simp only [List.length_drop, List.length_take]; rfl)) ?_; (with_reducible refine (spec_l1Below.calls g104 t101 t119 t120 255 t121 t122 t123 w _ ?side1 ?side2 A7.out).mono ?_); (case side1 => repeat (first | (with_reducible first | exact HI104.out | apply IsS121.alloc | apply IsS121.drewN | apply IsS121.drew | apply IsS121.set_1 | apply IsS121.set_2 | refine IsS121.far ?_ NB104_111.out _) | exact HI104.out)); (case side2 => repeat (first | (with_reducible first | exact HB.out | apply below_alloc | apply pw_below_drewN | apply below_drew1 | refine below_set ?_ (IsS121.ge HI104.out) | refine below_set ?_ GE111.out) | exact HB.out)); rintro e w17 ⟨rfl, hi, hb, hk⟩; refine ⟨_, rfl, ?_⟩; have n0_ := Aside0.mk (KeepBut.blk hk (g' := gb111) (o := .cells #[.int .u32 t105, .int .i64 t106, .int .u32 t107, .int .u32 t108] 27 (0, 0)) (by (with_reducible repeat (first | refine blk_drewN ?_ _ | refine blk_drew ?_ | refine blk_alloc ?_ _)); exact BK111.out) NB111_104.out (by simp)); have n1_ := Aside0.mk (Kd.R_mono (Kd.R_keep (IsS121.apart (show IsS121 w _ g104 t101 t119 t120 from by repeat (first | (with_reducible first | exact HI104.out | apply IsS121.alloc | apply IsS121.drewN | apply IsS121.drew | apply IsS121.set_1 | apply IsS121.set_2 | refine IsS121.far ?_ NB104_111.out _) | exact HI104.out)) (by (with_reducible repeat (first | apply Kd.R_alloc | apply Kd.R_drewN | apply Kd.R_drew)); exact HO114.out) (by decide)) hk (fun _ h => h.2)) (fun _ h => h.1)); have n2_ := Aside0.mk (hb); have n3_ := Aside0.mk (hi); clear BK111; clear HO114; clear HB; clear HI104; have BK111 := n0_; have HO114 := n1_; have HB := n2_; have HI104 := n3_; clear n0_ n1_ n2_ n3_; (try clear hb); (try clear hb2); (try clear hk); (try clear hi)))
  (try simp only [Act.put, List.setIfInBounds_toArray, List.set_cons_zero, List.set_cons_succ])
  go_cut [] (fun wc => ∃ (kq : Nat) (x5_7 : List Int), Aside0 (spec_DrawDecodeFrame.j0 kq x5_7 t115 t118 (wrap64 (1 + t121)) t101 t122 t123 = some r) ∧ Aside0 (kq ≤ k) ∧ Aside0 (Kd.R (Kd.int .u8) 5 wc w.heap.size (fun _ => True) v113 x5_7) ∧ Aside0 (wc.heap[gb111]? = some (.cells #[.int .u32 t105, .int .i64 t106, .int .u32 t107, .int .u32 t108] 27 (0, 0))) ∧ Aside0 (IsS121 w wc g104 t101 t122 t123) ∧ Aside0 (Below w.heap.size w wc))
  case first =>
    have H := HC8.out
    clear HC8
    by_cases c18 : t115 = 0
    · rw [if_pos c18] at H
      have c18b0 : (t115 == 0) = true := beq_iff_eq.mpr c18
      have c18b1 : (t115 != 0) = false := bne_eq_false_iff_eq.mpr c18
      clear c18
      (first | rw [c18b0] | (simp only [i64_w, i32_w]; rw [c18b0]) | skip)
      by_cases c19 : 0 ≤ t118
      · rw [if_pos c19] at H
        have c19b0 : decide (0 ≤ t118) = true := decide_eq_true c19
        clear c19
        by_cases c20 : t118 < (t112.length : Int)
        · rw [if_pos c20] at H
          have c20b0 : decide (t118 < (t112.length : Int)) = true := decide_eq_true c20
          clear c20
          obtain ⟨y125, hy125⟩ : ∃ y_ : List Int, y_ = (t112.set (t118 : Int).toNat (Go.bits .xor .u8 (rd t112 t118) ((wrap64 (1 + t121)) % 256))) := ⟨_, rfl⟩
          replace H : (spec_DrawDecodeFrame.j0 k y125 t115 t118 (wrap64 (1 + t121)) t101 t122 t123) = some r := by first | (rw [hy125]; with_reducible exact H) | (have H2_ := (Option.bind_some _ _).symm.trans H; rw [hy125]; with_reducible exact H2_) | (have H2_ := (Option.bind_some _ _).symm.trans H; with_reducible exact H2_) | with_reducible exact H | (rw [hy125]; exact H) | exact H
          have Ny125 := Aside0.mk hy125
          clear hy125
          have H' := Aside0.mk H
          clear H
          obtain ⟨Ao22, co22, eo22⟩ := Kd.R_slice HO114.out
          subst eo22
          have p124 : 0 ≤ (t118 : Int) := of_decide_eq_true (by first | (with_reducible assumption) | assumption)
          have q124 : t118 < (t112.length : Int) := of_decide_eq_true (by first | (with_reducible assumption) | assumption)
          obtain ⟨ad124, e124, hx124_0⟩ := Kd.at_int (Kd.R_reads' HO114.out).2.2 t118 p124 q124
          cases e124
          replace p124 := eq_true p124
          replace q124 := eq_true q124
          have p21 : 0 ≤ (t118 : Int) := of_decide_eq_true (by first | (with_reducible assumption) | assumption)
          have q21 : (t118 : Int) < ((t112.length : Int) : Int) := of_decide_eq_true (by first | (with_reducible assumption) | assumption)
          obtain ⟨go21, co21, eo21, gb21, gl21, cl21, HG21⟩ := Kd.R_form HO114.out (by omega)
          (first | cases eo21 | (injection eo21 with ea_ en_ ec_; (first | subst ea_ | (injection ea_ with ea_; subst ea_)); subst ec_; clear en_))
          have GB21 := Aside0.mk gb21
          have GG21 := Aside0.mk HG21
          clear gb21 gl21 HG21
          (first | simp only [add_plain] at hx124_0 | skip)
          obtain ⟨hx21_0, hf21_0⟩ := Kd.R_celln 0 HO114.out (t118 : Int) p21 q21
          replace p21 := eq_true p21
          replace q21 := eq_true q21
          have HP23 := Kd.R_putg HO114.out (t118 : Int) (Go.bits .xor .u8 (rd t112 t118) ((wrap64 (1 + t121)) % 256))
          go_wp2_with (first | ((with_reducible refine gate_store (t := 5) (p := 33) rfl ?_); refine store_event (t := 5) (p := 33) (v := ?vo_w24) (w1 := (w17.setCell ⟨go21, (t118 : Int).toNat, none⟩ (.int .u8 (Go.bits .xor .u8 (rd t112 t118) ((wrap64 (1 + t121)) % 256))))) ?hg ?ho ?hn ?hr ?_; (case ho => rfl); (case hg => rfl); (case hn => rfl); (case hr => first | (go_simp; done) | (go_simp; rfl)); intro w24 hw; have hg : w17.grownBy w24 (some go21) := (by rw [hw]; exact HP23.2); have hp_ : Kd.R (Kd.int .u8) 5 w24 w.heap.size (fun _ => True) (.slice (some ⟨go21, 0, none⟩) t112.length co22) y125 := (by rw [hw, Ny125.out]; exact HP23.1); clear HP23; have n0_ := Aside0.mk (IsS121.grown (by repeat (first | (with_reducible first | exact HI104.out | apply IsS121.alloc | apply IsS121.drewN | apply IsS121.drew | apply IsS121.set_1 | apply IsS121.set_2 | refine IsS121.far ?_ NB104_111.out _) | exact HI104.out)) hg (IsS121.own_ne HI104.out HO114.out (by decide))); have n1_ := Aside0.mk (blk_grown (g := gb111) (o := .cells #[.int .u32 t105, .int .i64 t106, .int .u32 t107, .int .u32 t108] 27 (0, 0)) (by (with_reducible repeat (first | refine blk_drewN ?_ _ | refine blk_drew ?_ | refine blk_alloc ?_ _)); exact BK111.out) hg (Kd.R_ne HO114.out BK111.out (by decide))); have n2_ := Aside0.mk (hp_); have n3_ := Aside0.mk ((by rw [hw]; exact below_set (HB.out) GB21.out : Below w.heap.size w w24)); clear HI104; clear BK111; clear HO114; clear HB; have HI104 := n0_; have BK111 := n1_; have HO114 := n2_; have HB := n3_; clear n0_ n1_ n2_ n3_; clear hg hw hp_))
          go_meet
          case rel => exact ⟨_, (y125), H', ⟨by first | omega | exact Nat.le_refl _⟩, ⟨by (with_reducible repeat (first | apply Kd.R_alloc | apply Kd.R_drewN | apply Kd.R_drew)); exact HO114.out⟩, ⟨by (with_reducible repeat (first | refine blk_drewN ?_ _ | refine blk_drew ?_ | refine blk_alloc ?_ _)); exact BK111.out⟩, ⟨by repeat (first | (with_reducible first | exact HI104.out | apply IsS121.alloc | apply IsS121.drewN | apply IsS121.drew | apply IsS121.set_1 | apply IsS121.set_2 | refine IsS121.far ?_ NB104_111.out _) | exact HI104.out)⟩, ⟨by repeat (first | (with_reducible first | exact HB.out | apply below_alloc | apply pw_below_drewN | apply below_drew1 | refine below_set ?_ (IsS121.ge HI104.out) | refine below_set ?_ GE111.out) | exact HB.out)⟩⟩
        · rw [if_neg c20] at H
          exact absurd H (by simp)
      · rw [if_neg c19] at H
        exact absurd H (by simp)
    · rw [if_neg c18] at H
      have c18b0 : (t115 == 0) = false := beq_eq_false_iff_ne.mpr c18
      have c18b1 : (t115 != 0) = true := bne_iff_ne.mpr c18
      (first | rw [c18b0] | (simp only [i64_w, i32_w]; rw [c18b0]) | skip)
      have H' := Aside0.mk H
      clear H
      go_wp2
      go_meet
      case rel => exact ⟨_, (t112), H', ⟨by first | omega | exact Nat.le_refl _⟩, ⟨by (with_reducible repeat (first | apply Kd.R_alloc | apply Kd.R_drewN | apply Kd.R_drew)); exact HO114.out⟩, ⟨by (with_reducible repeat (first | refine blk_drewN ?_ _ | refine blk_drew ?_ | refine blk_alloc ?_ _)); exact BK111.out⟩, ⟨by repeat (first | (with_reducible first | exact HI104.out | apply IsS121.alloc | apply IsS121.drewN | apply IsS121.drew | apply IsS121.set_1 | apply IsS121.set_2 | refine IsS121.far ?_ NB104_111.out _) | exact HI104.out)⟩, ⟨by repeat (first | (with_reducible first | exact HB.out | apply below_alloc | apply pw_below_drewN | apply below_drew1 | refine below_set ?_ (IsS121.ge HI104.out) | refine below_set ?_ GE111.out) | exact HB.out)⟩⟩
  case rest =>
    clear HC8
    try clear c1
    try clear p1
    try clear q1
    try clear hx1
    try clear c2
    try clear p2
    try clear q2
    try clear hx2
    try clear hf2
    try clear c5
    try clear c6
    try clear p6
    try clear c11
    try clear c12
    try clear p12
    try clear q12
    try clear hx12
    try clear c18
    try clear c18b0
    try clear c18b1
    try clear c19
    try clear c19b0
    try clear c20
    try clear c20b0
    try clear p21
    try clear q21
    try clear hx21
    try clear hf21
    try clear c23
    try clear hcz13_0
    try clear hcz13_1
    try clear hcz13_2
    try clear hcz13_3
    try clear hfz13_0
    try clear hfz13_1
    try clear hfz13_2
    try clear hfz13_3
    try clear hx124_0
    try clear hx21_0
    try clear p124
    try clear p21
    try clear q124
    try clear q21
    obtain ⟨kq, x5_7, HA, HJ7, HO_5, BK111, HI104, HB⟩ := hcut
    cases kq with
    | zero => exact absurd HA.out (by simp [spec_DrawDecodeFrame.j0])
    | succ kj7 =>
      have H := HA.out
      clear HA
      simp only [spec_DrawDecodeFrame.j0] at H
      by_cases c25 : t115 = 1
      · rw [if_pos c25] at H
        have c25b0 : (t115 == 1) = true := beq_iff_eq.mpr c25
        have c25b1 : (t115 != 1) = false := bne_eq_false_iff_eq.mpr c25
        clear c25
        by_cases c26 : 0 ≤ t118
        · rw [if_pos c26] at H
          have c26b0 := eq_true c26
          have c26b1 : decide (0 ≤ t118) = true := decide_eq_true c26
          clear c26
          by_cases c27 : t118 ≤ (x5_7.length : Int)
          · rw [if_pos c27] at H
            have c27b0 := eq_true c27
            have c27b1 : decide (t118 ≤ (x5_7.length : Int)) = true := decide_eq_true c27
            clear c27
            obtain ⟨y126, hy126⟩ : ∃ y_ : List Int, y_ = (x5_7.take (t118 : Int).toNat) := ⟨_, rfl⟩
            replace H : (some y126) = some r := by first | (rw [hy126]; with_reducible exact H) | (have H2_ := (Option.bind_some _ _).symm.trans H; rw [hy126]; with_reducible exact H2_) | (have H2_ := (Option.bind_some _ _).symm.trans H; with_reducible exact H2_) | with_reducible exact H | (rw [hy126]; exact H) | exact H
            have Ny126 := Aside0.mk hy126
            clear hy126
            obtain rfl := Option.some.inj H
            obtain ⟨Ao28, co28, eo28⟩ := Kd.R_slice HO_5.out
            subst eo28
            have q29 : (t118 : Int) ≤ ((x5_7.length : Int) : Int) := of_decide_eq_true (by first | (with_reducible assumption) | assumption)
            obtain ⟨i029, hi029, _, hsz29, _⟩ := info_parts info5
            have hcut29 := cut_to (P := Try.prog) 25 5 .i64 Try.underlying25 hi029 Ao28 x5_7.length co28 t118 (of_decide_eq_true (by first | (with_reducible assumption) | assumption)) q29 (Kd.R_reads' HO_5.out).2.1
            have hr29 := Kd.R_take (m := (t118 : Int).toNat) HO_5.out (by omega)
            have hy29 : y126.length = (t118 : Int).toNat := (by rw [Ny126.out, List.length_take]; omega)
            rw [← Ny126.out] at hr29
            rw [← hy29] at hr29 hcut29
            clear hy29 hi029 hsz29 HO_5
            have HO128 := Aside0.mk hr29
            clear hr29
            replace q29 := eq_true q29
            go_wp2
            go_ret
            exact ⟨_, by first | rfl | (simp [errW_none, errW_some] <;> rfl) | (simp [*, errW_none, errW_some] <;> rfl), by (with_reducible repeat (first | apply Kd.R_alloc | apply Kd.R_drewN | apply Kd.R_drew)); exact HO128.out, by repeat (first | (with_reducible first | exact HB.out | apply below_alloc | apply pw_below_drewN | apply below_drew1 | refine below_set ?_ (IsS121.ge HI104.out) | refine below_set ?_ GE111.out) | exact HB.out)⟩
          · rw [if_neg c27] at H
            exact absurd H (by simp)
        · rw [if_neg c26] at H
          exact absurd H (by simp)
      · rw [if_neg c25] at H
        have c25b0 : (t115 == 1) = false := beq_eq_false_iff_ne.mpr c25
        have c25b1 : (t115 != 1) = true := bne_iff_ne.mpr c25
        by_cases c30 : t115 = 2
        · rw [if_pos c30] at H
          have c30b0 : (t115 == 2) = true := beq_iff_eq.mpr c30
          have c30b1 : (t115 != 2) = false := bne_eq_false_iff_eq.mpr c30
          clear c30
          replace H := Option.bind_eq_some_iff.mp H
          obtain ⟨⟨t129, t130, t131, t132, t133, t134⟩, A310, H⟩ := H
          replace H : ((spec_EncodeFrame.f t129 t130 t131 t132).bind fun t135 => ((spec_l2Torn.f x5_7 t135 t118).bind fun t138 => (some t138))) = some r := H
          have A31 := Aside0.mk A310
          clear A310
          replace H := Option.bind_eq_some_iff.mp H
          obtain ⟨t135, A320, H⟩ := H
          replace H : ((spec_l2Torn.f x5_7 t135 t118).bind fun t138 => (some t138)) = some r := H
          have A32 := Aside0.mk A320
          clear A320
          replace H := Option.bind_eq_some_iff.mp H
          obtain ⟨t138, A330, H⟩ := H
          replace H : (some t138) = some r := H
          have A33 := Aside0.mk A330
          clear A330
          obtain rfl := Option.some.inj H
          go_wp2_with (first | ((with_reducible refine gate_callee (f := 58) rfl ?_); refine goesL_ (some 43) rfl rfl Try.func58 (by kernel_rfl) rfl #[.pointer (some ⟨g104, 0, none⟩)] rfl (by (try simp only [List.map_toArray, List.map_cons, List.map_nil]); first | done | rfl | (simp only [List.length_drop, List.length_take]; rfl)) ?_; (with_reducible refine (spec_l2DrawFrame.calls kj7 g104 t101 t122 t123 t129 t130 t131 t132 t133 t134 w _ ?side1 ?side2 A31.out).mono ?_); (case side1 => repeat (first | (with_reducible first | exact HI104.out | apply IsS121.alloc | apply IsS121.drewN | apply IsS121.drew | apply IsS121.set_1 | apply IsS121.set_2 | refine IsS121.far ?_ NB104_111.out _) | exact HI104.out)); (case side2 => repeat (first | (with_reducible first | exact HB.out | apply below_alloc | apply pw_below_drewN | apply below_drew1 | refine below_set ?_ (IsS121.ge HI104.out) | refine below_set ?_ GE111.out) | exact HB.out)); rintro e w34 ⟨rfl, hi, hb, hk⟩; refine ⟨_, rfl, ?_⟩; have n0_ := Aside0.mk (Kd.R_mono (Kd.R_keep (IsS121.apart (show IsS121 w _ g104 t101 t122 t123 from by repeat (first | (with_reducible first | exact HI104.out | apply IsS121.alloc | apply IsS121.drewN | apply IsS121.drew | apply IsS121.set_1 | apply IsS121.set_2 | refine IsS121.far ?_ NB104_111.out _) | exact HI104.out)) (by (with_reducible repeat (first | apply Kd.R_alloc | apply Kd.R_drewN | apply Kd.R_drew)); exact HO_5.out) (by decide)) hk (fun _ h => h.2)) (fun _ h => h.1)); have n1_ := Aside0.mk (KeepBut.blk hk (g' := gb111) (o := .cells #[.int .u32 t105, .int .i64 t106, .int .u32 t107, .int .u32 t108] 27 (0, 0)) (by (with_reducible repeat (first | refine blk_drewN ?_ _ | refine blk_drew ?_ | refine blk_alloc ?_ _)); exact BK111.out) NB111_104.out (by simp)); have n2_ := Aside0.mk (hb); have n3_ := Aside0.mk (hi); clear HO_5; clear BK111; clear HB; clear HI104; have HO_5 := n0_; have BK111 := n1_; have HB := n2_; have HI104 := n3_; clear n0_ n1_ n2_ n3_; (try clear hb); (try clear hb2); (try clear hk); (try clear hi)) | ((with_reducible refine gate_callee (f := 11) rfl ?_); refine goesL_ (some 44) rfl rfl Try.func11 (by kernel_rfl) rfl #[.agg #[.int .u32 t129, .int .i64 t130, .int .u32 t131, .int .u32 t132]] rfl (by (try simp only [List.map_toArray, List.map_cons, List.map_nil]); first | done | rfl | (simp only [List.length_drop, List.length_take]; rfl)) ?_; (with_reducible refine (spec_EncodeFrame.calls t129 t130 t131 t132 t135 _ A32.out).mono ?_); rintro e w35 ⟨v136, rfl, ho0, hb⟩; refine ⟨_, rfl, ?_⟩; have n0_ := Aside0.mk (Kd.R_elder' (by (with_reducible repeat (first | apply Kd.R_alloc | apply Kd.R_drewN | apply Kd.R_drew)); exact HO_5.out) (Kd.R_base ho0) hb); have n1_ := Aside0.mk (Kd.R_lower (Kd.R_new' ho0 (Kd.R_lt (by (with_reducible repeat (first | apply Kd.R_alloc | apply Kd.R_drewN | apply Kd.R_drew)); exact HO_5.out))) (below_size (by repeat (first | (with_reducible first | exact HB.out | apply below_alloc | apply pw_below_drewN | apply below_drew1 | refine below_set ?_ (IsS121.ge HI104.out) | refine below_set ?_ GE111.out) | exact HB.out)))); have n2_ := Aside0.mk (blk_below (g := gb111) (o := .cells #[.int .u32 t105, .int .i64 t106, .int .u32 t107, .int .u32 t108] 27 (0, 0)) (by (with_reducible repeat (first | refine blk_drewN ?_ _ | refine blk_drew ?_ | refine blk_alloc ?_ _)); exact BK111.out) hb); have n3_ := Aside0.mk (IsS121.below (by repeat (first | (with_reducible first | exact HI104.out | apply IsS121.alloc | apply IsS121.drewN | apply IsS121.drew | apply IsS121.set_1 | apply IsS121.set_2 | refine IsS121.far ?_ NB104_111.out _) | exact HI104.out)) hb); have n4_ := Aside0.mk (below_step (by repeat (first | (with_reducible first | exact HB.out | apply below_alloc | apply pw_below_drewN | apply below_drew1 | refine below_set ?_ (IsS121.ge HI104.out) | refine below_set ?_ GE111.out) | exact HB.out)) hb); clear HO_5; clear BK111; clear HI104; clear HB; have HO_5 := n0_; have HO137 := n1_; have BK111 := n2_; have HI104 := n3_; have HB := n4_; clear n0_ n1_ n2_ n3_ n4_; (try clear hb); (try clear hb2); (try clear hk); (try clear hi); (try clear ho0); obtain ⟨Ao36, co36, eo36⟩ := Kd.R_slice HO_5.out; subst eo36; obtain ⟨Ao37, co37, eo37⟩ := Kd.R_slice HO137.out; subst eo37) | ((with_reducible refine gate_callee (f := 61) rfl ?_); refine goesL_ (some 46) rfl rfl Try.func61 (by kernel_rfl) rfl #[.slice Ao36 x5_7.length co36, .slice Ao37 t135.length co37, .int .i64 t118] rfl (by (try simp only [List.map_toArray, List.map_cons, List.map_nil]); first | done | rfl | (simp only [List.length_drop, List.length_take]; rfl)) ?_; (with_reducible refine (spec_l2Torn.calls _ _ x5_7 _ _ t135 t118 t138 _ ?side1 ?side2 ?side3 ?side4 A33.out).mono ?_); (case side1 => repeat (first | exact (Kd.R_reads' HO_5.out).2.2 | (with_reducible refine Kd.C_alloc ?_ _) | (with_reducible refine Kd.C_drewN ?_ _) | (with_reducible refine Kd.C_drew ?_))); (case side2 => exact (Kd.R_reads' HO_5.out).2.1); (case side3 => repeat (first | exact (Kd.R_reads' HO137.out).2.2 | (with_reducible refine Kd.C_alloc ?_ _) | (with_reducible refine Kd.C_drewN ?_ _) | (with_reducible refine Kd.C_drew ?_))); (case side4 => exact (Kd.R_reads' HO137.out).2.1); rintro e w38 ⟨v139, rfl, ho0, hb⟩; refine ⟨_, rfl, ?_⟩; have n0_ := Aside0.mk (Kd.R_elder' (by (with_reducible repeat (first | apply Kd.R_alloc | apply Kd.R_drewN | apply Kd.R_drew)); exact HO_5.out) (Kd.R_base ho0) hb); have n1_ := Aside0.mk (Kd.R_elder' (by (with_reducible repeat (first | apply Kd.R_alloc | apply Kd.R_drewN | apply Kd.R_drew)); exact HO137.out) (Kd.R_base ho0) hb); have n2_ := Aside0.mk (Kd.R_lower (Kd.R_new' (Kd.R_new' ho0 (Kd.R_lt (by (with_reducible repeat (first | apply Kd.R_alloc | apply Kd.R_drewN | apply Kd.R_drew)); exact HO_5.out))) (Kd.R_lt (by (with_reducible repeat (first | apply Kd.R_alloc | apply Kd.R_drewN | apply Kd.R_drew)); exact HO137.out))) (below_size (by repeat (first | (with_reducible first | exact HB.out | apply below_alloc | apply pw_below_drewN | apply below_drew1 | refine below_set ?_ (IsS121.ge HI104.out) | refine below_set ?_ GE111.out) | exact HB.out)))); have n3_ := Aside0.mk (blk_below (g := gb111) (o := .cells #[.int .u32 t105, .int .i64 t106, .int .u32 t107, .int .u32 t108] 27 (0, 0)) (by (with_reducible repeat (first | refine blk_drewN ?_ _ | refine blk_drew ?_ | refine blk_alloc ?_ _)); exact BK111.out) hb); have n4_ := Aside0.mk (IsS121.below (by repeat (first | (with_reducible first | exact HI104.out | apply IsS121.alloc | apply IsS121.drewN | apply IsS121.drew | apply IsS121.set_1 | apply IsS121.set_2 | refine IsS121.far ?_ NB104_111.out _) | exact HI104.out)) hb); have n5_ := Aside0.mk (below_step (by repeat (first | (with_reducible first | exact HB.out | apply below_alloc | apply pw_below_drewN | apply below_drew1 | refine below_set ?_ (IsS121.ge HI104.out) | refine below_set ?_ GE111.out) | exact HB.out)) hb); clear HO_5; clear HO137; clear BK111; clear HI104; clear HB; have HO_5 := n0_; have HO137 := n1_; have HO140 := n2_; have BK111 := n3_; have HI104 := n4_; have HB := n5_; clear n0_ n1_ n2_ n3_ n4_ n5_; (try clear hb); (try clear hb2); (try clear hk); (try clear hi); (try clear ho0)))
          go_ret
          exact ⟨_, by first | rfl | (simp [errW_none, errW_some] <;> rfl) | (simp [*, errW_none, errW_some] <;> rfl), by (with_reducible repeat (first | apply Kd.R_alloc | apply Kd.R_drewN | apply Kd.R_drew)); exact Kd.R_mono HO140.out (fun _ hk => trivial), by repeat (first | (with_reducible first | exact HB.out | apply below_alloc | apply pw_below_drewN | apply below_drew1 | refine below_set ?_ (IsS121.ge HI104.out) | refine below_set ?_ GE111.out) | exact HB.out)⟩
        · rw [if_neg c30] at H
          have c30b0 : (t115 == 2) = false := beq_eq_false_iff_ne.mpr c30
          have c30b1 : (t115 != 2) = true := bne_iff_ne.mpr c30
          by_cases c39 : t115 = 3
          · rw [if_pos c39] at H
            have c39b0 : (t115 == 3) = true := beq_iff_eq.mpr c39
            have c39b1 : (t115 != 3) = false := bne_eq_false_iff_eq.mpr c39
            clear c39
            obtain ⟨ji40, hji40⟩ : ∃ j_ : Int, (Int.tmod t118 56) = j_ := ⟨_, rfl⟩
            replace H : (if 0 ≤ (ji40) then (if (ji40) < (x5_7.length : Int) then ((some (x5_7.set ((ji40) : Int).toNat (Go.bits .xor .u8 (rd x5_7 (ji40)) (((wrap64 (1 + t121))) % 256)) : List Int)).bind fun y142 => (if 56 ≤ (x5_7.length : Int) then ((spec_Crc32.f kj7 (y142.take 56)).bind fun t153 => ((spec_l2Four.f t153).bind fun t154 => (if 60 ≤ (x5_7.length : Int) then ((spec_l2Cat.f kj7 (([(y142.take 56), t154, (y142.drop 60)] : List (List Int)))).bind fun t165 => (some t165)) else (none)))) else (none))) else (none)) else (none)) = some r := by first | (rw [hji40] at H; exact H) | (simp only [hji40] at H ⊢; exact H)
            by_cases c41 : 0 ≤ (ji40)
            · rw [if_pos c41] at H
              have c41b0 : decide (0 ≤ (ji40)) = true := decide_eq_true c41
              clear c41
              by_cases c42 : (ji40) < (x5_7.length : Int)
              · rw [if_pos c42] at H
                have c42b0 : decide ((ji40) < (x5_7.length : Int)) = true := decide_eq_true c42
                clear c42
                obtain ⟨y142, hy142⟩ : ∃ y_ : List Int, y_ = (x5_7.set ((ji40) : Int).toNat (Go.bits .xor .u8 (rd x5_7 (ji40)) (((wrap64 (1 + t121))) % 256))) := ⟨_, rfl⟩
                replace H : (if 56 ≤ (x5_7.length : Int) then ((spec_Crc32.f kj7 (y142.take 56)).bind fun t153 => ((spec_l2Four.f t153).bind fun t154 => (if 60 ≤ (x5_7.length : Int) then ((spec_l2Cat.f kj7 (([(y142.take 56), t154, (y142.drop 60)] : List (List Int)))).bind fun t165 => (some t165)) else (none)))) else (none)) = some r := by first | (rw [hy142]; with_reducible exact H) | (have H2_ := (Option.bind_some _ _).symm.trans H; rw [hy142]; with_reducible exact H2_) | (have H2_ := (Option.bind_some _ _).symm.trans H; with_reducible exact H2_) | with_reducible exact H | (rw [hy142]; exact H) | exact H
                have Ny142 := Aside0.mk hy142
                clear hy142
                by_cases c44 : 56 ≤ (x5_7.length : Int)
                · rw [if_pos c44] at H
                  have c44b0 := eq_true c44
                  have c44b1 : decide (56 ≤ (x5_7.length : Int)) = true := decide_eq_true c44
                  clear c44
                  obtain ⟨y143, hy143⟩ : ∃ y_ : List Int, y_ = (y142.take 56) := ⟨_, rfl⟩
                  replace H : ((spec_Crc32.f kj7 (y142.take 56)).bind fun t153 => ((spec_l2Four.f t153).bind fun t154 => (if 60 ≤ (x5_7.length : Int) then ((spec_l2Cat.f kj7 (([y143, t154, (y142.drop 60)] : List (List Int)))).bind fun t165 => (some t165)) else (none)))) = some r := by first | (rw [hy143]; with_reducible exact H) | (have H2_ := (Option.bind_some _ _).symm.trans H; rw [hy143]; with_reducible exact H2_) | (have H2_ := (Option.bind_some _ _).symm.trans H; with_reducible exact H2_) | with_reducible exact H | (rw [hy143]; exact H) | exact H
                  have Ny143 := Aside0.mk hy143
                  clear hy143
                  have c45b0 := eq_true (of_decide_eq_true (by first | (with_reducible assumption) | assumption) : 56 ≤ (x5_7.length : Int))
                  obtain ⟨y148, hy148⟩ : ∃ y_ : List Int, y_ = (y142.take 56) := ⟨_, rfl⟩
                  replace H : ((spec_Crc32.f kj7 y148).bind fun t153 => ((spec_l2Four.f t153).bind fun t154 => (if 60 ≤ (x5_7.length : Int) then ((spec_l2Cat.f kj7 (([y143, t154, (y142.drop 60)] : List (List Int)))).bind fun t165 => (some t165)) else (none)))) = some r := by first | (rw [hy148]; with_reducible exact H) | (have H2_ := (Option.bind_some _ _).symm.trans H; rw [hy148]; with_reducible exact H2_) | (have H2_ := (Option.bind_some _ _).symm.trans H; with_reducible exact H2_) | with_reducible exact H | (rw [hy148]; exact H) | exact H
                  have Ny148 := Aside0.mk hy148
                  clear hy148
                  replace H := Option.bind_eq_some_iff.mp H
                  obtain ⟨t153, A460, H⟩ := H
                  replace H : ((spec_l2Four.f t153).bind fun t154 => (if 60 ≤ (x5_7.length : Int) then ((spec_l2Cat.f kj7 (([y143, t154, (y142.drop 60)] : List (List Int)))).bind fun t165 => (some t165)) else (none))) = some r := H
                  have A46 := Aside0.mk A460
                  clear A460
                  replace H := Option.bind_eq_some_iff.mp H
                  obtain ⟨t154, A470, H⟩ := H
                  replace H : (if 60 ≤ (x5_7.length : Int) then ((spec_l2Cat.f kj7 (([y143, t154, (y142.drop 60)] : List (List Int)))).bind fun t165 => (some t165)) else (none)) = some r := H
                  have A47 := Aside0.mk A470
                  clear A470
                  by_cases c48 : 60 ≤ (x5_7.length : Int)
                  · rw [if_pos c48] at H
                    have c48b0 := eq_true c48
                    have c48b1 : decide (60 ≤ (x5_7.length : Int)) = true := decide_eq_true c48
                    clear c48
                    obtain ⟨y157, hy157⟩ : ∃ y_ : List Int, y_ = (y142.drop 60) := ⟨_, rfl⟩
                    replace H : ((spec_l2Cat.f kj7 (([y143, t154, y157] : List (List Int)))).bind fun t165 => (some t165)) = some r := by first | (rw [hy157]; with_reducible exact H) | (have H2_ := (Option.bind_some _ _).symm.trans H; rw [hy157]; with_reducible exact H2_) | (have H2_ := (Option.bind_some _ _).symm.trans H; with_reducible exact H2_) | with_reducible exact H | (rw [hy157]; exact H) | exact H
                    have Ny157 := Aside0.mk hy157
                    clear hy157
                    obtain ⟨y162, hy162⟩ : ∃ y_ : List (List Int), y_ = (([y143, t154, y157] : List (List Int))) := ⟨_, rfl⟩
                    replace H : ((spec_l2Cat.f kj7 y162).bind fun t165 => (some t165)) = some r := by first | (rw [hy162]; with_reducible exact H) | (have H2_ := (Option.bind_some _ _).symm.trans H; rw [hy162]; with_reducible exact H2_) | (have H2_ := (Option.bind_some _ _).symm.trans H; with_reducible exact H2_) | with_reducible exact H | (rw [hy162]; exact H) | exact H
                    have Ny162 := Aside0.mk hy162
                    clear hy162
                    replace H := Option.bind_eq_some_iff.mp H
                    obtain ⟨t165, A490, H⟩ := H
                    replace H : (some t165) = some r := H
                    have A49 := Aside0.mk A490
                    clear A490
                    obtain rfl := Option.some.inj H
                    obtain ⟨Ao50, co50, eo50⟩ := Kd.R_slice HO_5.out
                    subst eo50
                    have p141 : 0 ≤ ((ji40) : Int) := of_decide_eq_true (by first | (with_reducible assumption) | assumption)
                    have q141 : (ji40) < (x5_7.length : Int) := of_decide_eq_true (by first | (with_reducible assumption) | assumption)
                    obtain ⟨ad141, e141, hx141_0⟩ := Kd.at_int (Kd.R_reads' HO_5.out).2.2 (ji40) p141 q141
                    cases e141
                    replace p141 := eq_true p141
                    replace q141 := eq_true q141
                    have p43 : 0 ≤ ((ji40) : Int) := of_decide_eq_true (by first | (with_reducible assumption) | assumption)
                    have q43 : ((ji40) : Int) < ((x5_7.length : Int) : Int) := of_decide_eq_true (by first | (with_reducible assumption) | assumption)
                    obtain ⟨go43, co43, eo43, gb43, gl43, cl43, HG43⟩ := Kd.R_form HO_5.out (by omega)
                    (first | cases eo43 | (injection eo43 with ea_ en_ ec_; (first | subst ea_ | (injection ea_ with ea_; subst ea_)); subst ec_; clear en_))
                    have GB43 := Aside0.mk gb43
                    have GG43 := Aside0.mk HG43
                    clear gb43 gl43 HG43
                    (first | simp only [add_plain] at hx141_0 | skip)
                    obtain ⟨hx43_0, hf43_0⟩ := Kd.R_celln 0 HO_5.out ((ji40) : Int) p43 q43
                    replace p43 := eq_true p43
                    replace q43 := eq_true q43
                    have HP51 := Kd.R_putg HO_5.out ((ji40) : Int) (Go.bits .xor .u8 (rd x5_7 (ji40)) (((wrap64 (1 + t121))) % 256))
                    try go_wp2_with (first | ((with_reducible refine gate_store (t := 5) (p := 60) rfl ?_); refine store_event (t := 5) (p := 60) (v := ?vo_w52) (w1 := (wc.setCell ⟨go43, ((ji40) : Int).toNat, none⟩ (.int .u8 (Go.bits .xor .u8 (rd x5_7 (ji40)) (((wrap64 (1 + t121))) % 256))))) ?hg ?ho ?hn ?hr ?_; (case ho => rfl); (case hg => rfl); (case hn => rfl); (case hr => first | (go_simp; done) | (go_simp; rfl)); intro w52 hw; have hg : wc.grownBy w52 (some go43) := (by rw [hw]; exact HP51.2); have hp_ : Kd.R (Kd.int .u8) 5 w52 w.heap.size (fun _ => True) (.slice (some ⟨go43, 0, none⟩) x5_7.length co50) y142 := (by rw [hw, Ny142.out]; exact HP51.1); clear HP51; have n0_ := Aside0.mk (hp_); have n1_ := Aside0.mk (blk_grown (g := gb111) (o := .cells #[.int .u32 t105, .int .i64 t106, .int .u32 t107, .int .u32 t108] 27 (0, 0)) (by (with_reducible repeat (first | refine blk_drewN ?_ _ | refine blk_drew ?_ | refine blk_alloc ?_ _)); exact BK111.out) hg (Kd.R_ne HO_5.out BK111.out (by decide))); have n2_ := Aside0.mk (IsS121.grown (by repeat (first | (with_reducible first | exact HI104.out | apply IsS121.alloc | apply IsS121.drewN | apply IsS121.drew | apply IsS121.set_1 | apply IsS121.set_2 | refine IsS121.far ?_ NB104_111.out _) | exact HI104.out)) hg (IsS121.own_ne HI104.out HO_5.out (by decide))); have n3_ := Aside0.mk ((by rw [hw]; exact below_set (HB.out) GB43.out : Below w.heap.size w w52)); clear HO_5; clear BK111; clear HI104; clear HB; have HO_5 := n0_; have BK111 := n1_; have HI104 := n2_; have HB := n3_; clear n0_ n1_ n2_ n3_; clear hg hw hp_))
                    have n0_ := Aside0.mk (Kd.R_drew HO_5.out)
                    have n1_ := Aside0.mk (blk_drew BK111.out)
                    have n2_ := Aside0.mk (IsS121.drew HI104.out)
                    have n3_ := Aside0.mk (below_drew1 HB.out)
                    clear HO_5
                    clear BK111
                    clear HI104
                    clear HB
                    have HO_5 := n0_
                    have BK111 := n1_
                    have HI104 := n2_
                    have HB := n3_
                    clear n0_ n1_ n2_ n3_
                    have hlx54 := (Kd.R_reads' HO_5.out).1
                    have q54 : (56 : Int) ≤ ((x5_7.length : Int) : Int) := of_decide_eq_true (by first | (with_reducible assumption) | assumption)
                    obtain ⟨i054, hi054, _, hsz54, _⟩ := info_parts info5
                    have hroom54 : x5_7.length ≤ co50 := (Kd.R_reads' HO_5.out).2.1
                    have hroomc54 : y142.length ≤ co50 := (by rw [← hlx54]; exact hroom54)
                    have hC54 : Kd.F (Kd.int .u8) _ _ (some ⟨go43, 0, none⟩) y142.length y142 := (Kd.V_at (base := w.heap.size) (Kd.R_V (IsS121.apart HI104.out (Kd.R_types (HO_5.out) BK111.out (by decide)) (by decide)))).2.2
                    have hcut54 := cut_to (P := Try.prog) 25 5 .i64 Try.underlying25 hi054 (some ⟨go43, 0, none⟩) x5_7.length co50 56 (by omega) q54 hroom54
                    have hr54 := Kd.F_take (m := 56) hC54 (by omega)
                    have hy54 : y143.length = (56 : Int).toNat := (by rw [Ny143.out, List.length_take]; omega)
                    rw [← Ny143.out] at hr54
                    rw [← hy54] at hcut54
                    have HO147 := Aside0.mk (show Kd.V (Kd.int .u8) 5 _ w.heap.size _ (.slice (some ⟨go43, 0, none⟩) y143.length co50) y143 from Kd.V_mk (by omega) hr54)
                    have HC147 := Aside0.mk (show y143.length ≤ co50 from by omega)
                    clear hr54 hC54 hroom54 hi054 hsz54 hroomc54
                    have KY54 := Aside0.mk hy54
                    clear hy54
                    clear hlx54
                    replace q54 := eq_true q54
                    have hlx55 := (Kd.R_reads' HO_5.out).1
                    have q55 : (56 : Int) ≤ ((x5_7.length : Int) : Int) := of_decide_eq_true (by first | (with_reducible assumption) | assumption)
                    obtain ⟨i055, hi055, _, hsz55, _⟩ := info_parts info5
                    have hroom55 : x5_7.length ≤ co50 := (Kd.R_reads' HO_5.out).2.1
                    have hroomc55 : y142.length ≤ co50 := (by rw [← hlx55]; exact hroom55)
                    have hC55 : Kd.F (Kd.int .u8) _ _ (some ⟨go43, 0, none⟩) y142.length y142 := (Kd.V_at (base := w.heap.size) (Kd.R_V (IsS121.apart HI104.out (Kd.R_types (HO_5.out) BK111.out (by decide)) (by decide)))).2.2
                    have hcut55 := cut_to (P := Try.prog) 25 5 .i64 Try.underlying25 hi055 (some ⟨go43, 0, none⟩) x5_7.length co50 56 (by omega) q55 hroom55
                    have hr55 := Kd.F_take (m := 56) hC55 (by omega)
                    have hy55 : y148.length = (56 : Int).toNat := (by rw [Ny148.out, List.length_take]; omega)
                    rw [← Ny148.out] at hr55
                    rw [← hy55] at hcut55
                    have HO152 := Aside0.mk (show Kd.V (Kd.int .u8) 5 _ w.heap.size _ (.slice (some ⟨go43, 0, none⟩) y148.length co50) y148 from Kd.V_mk (by omega) hr55)
                    have HC152 := Aside0.mk (show y148.length ≤ co50 from by omega)
                    clear hr55 hC55 hroom55 hi055 hsz55 hroomc55
                    have KY55 := Aside0.mk hy55
                    clear hy55
                    clear hlx55
                    replace q55 := eq_true q55
                    have hlx56 := (Kd.R_reads' HO_5.out).1
                    have q56 : (60 : Int) ≤ ((x5_7.length : Int) : Int) := of_decide_eq_true (by first | (with_reducible assumption) | assumption)
                    obtain ⟨i056, hi056, _, hsz56, _⟩ := info_parts info5
                    have hroom56 : x5_7.length ≤ co50 := (Kd.R_reads' HO_5.out).2.1
                    have hroomc56 : y142.length ≤ co50 := (by rw [← hlx56]; exact hroom56)
                    have hC56 : Kd.F (Kd.int .u8) _ _ (some ⟨go43, 0, none⟩) y142.length y142 := (Kd.V_at (base := w.heap.size) (Kd.R_V (IsS121.apart HI104.out (Kd.R_types (HO_5.out) BK111.out (by decide)) (by decide)))).2.2
                    have hcut56 := cut_from (P := Try.prog) 25 5 .i64 Try.underlying25 hi056 1 hsz56 (some ⟨go43, 0, none⟩) x5_7.length co50 60 (by omega) q56
                    have hr56 := Kd.F_cut (m := (60 : Int).toNat) (c := co50) hC56 (by omega) hroomc56
                    obtain ⟨A56, hA56⟩ : ∃ A1, A1 = (if co50 = (60 : Int).toNat then (some ⟨go43, 0, none⟩) else ((some ⟨go43, 0, none⟩) : Option Addr).map (·.add ((60 : Int).toNat * 1))) := ⟨_, rfl⟩
                    obtain ⟨c56, hc56⟩ : ∃ c1, c1 = co50 - (60 : Int).toNat := ⟨_, rfl⟩
                    have hy56 : y157.length = x5_7.length - (60 : Int).toNat := (by rw [Ny157.out, List.length_drop] <;> omega)
                    rw [show (y142).drop (60 : Int).toNat = y157 from Ny157.out.symm] at hr56
                    replace hr56 : Kd.F (Kd.int .u8) _ _ A56 y157.length y157 := (by rw [hA56]; exact hr56)
                    rw [← hy56, ← hA56, ← hc56] at hcut56
                    have HO161 := Aside0.mk (show Kd.V (Kd.int .u8) 5 _ w.heap.size _ (.slice A56 y157.length c56) y157 from Kd.V_mk (by rw [hy56, hc56]; exact Nat.sub_le_sub_right hroom56 _) hr56)
                    have HC161 := Aside0.mk (show y157.length ≤ c56 from by rw [hy56, hc56]; exact Nat.sub_le_sub_right hroom56 _)
                    clear hr56 hC56 hroom56 hi056 hsz56 hc56 hroomc56
                    have KY56 := Aside0.mk hy56
                    have KA56 := Aside0.mk hA56
                    clear hy56 hA56
                    clear hlx56
                    replace q56 := eq_true q56
                    refine start_ (n := 11) (S := fun w' => True) (ds := []) #[false, false, false, false, false, false, false, false, false, false, false] (by kernel_rfl) rfl rfl trivial (fun hHeld => ?_); refine with_tabW spec_DrawDecodeFrame.tab15 spec_DrawDecodeFrame.bits15 (fun HT_ HW_ => ?_)
                    generalize w52.drew = w53 at HO_5 BK111 HI104 HB HO147 HO152 HO161 hHeld ⊢
                    refine pure_ (i := 0) (N := some 61) (v := ?_) (a' := ?_) #[true, false, false, false, false, false, false, false, false, false, false] rfl rfl (any_of HT_.out (by kernel_rfl)) (fun _ _ _ h => h) (Or.inl ⟨by rfl, ?_⟩) ?_ ?_
                    rotate_left
                    · intro w'
                      go_simp
                      with_reducible rfl
                    rotate_left
                    · simp only [Act.put, List.setIfInBounds_toArray, List.set_cons_zero, List.set_cons_succ, i64_w, i32_w]
                      rfl
                    refine pure_ (i := 1) (N := some 62) (v := ?_) (a' := ?_) #[true, true, false, false, false, false, false, false, false, false, false] rfl rfl (any_of HT_.out (by kernel_rfl)) (fun _ _ _ h => h) (Or.inl ⟨by rfl, ?_⟩) ?_ ?_
                    rotate_left
                    · intro w'
                      go_simp
                      with_reducible rfl
                    rotate_left
                    · simp only [Act.put, List.setIfInBounds_toArray, List.set_cons_zero, List.set_cons_succ, i64_w, i32_w]
                      rfl
                    refine pure_ (i := 2) (N := some 63) (v := ?_) (a' := ?_) #[true, true, true, false, false, false, false, false, false, false, false] rfl rfl (any_of HT_.out (by kernel_rfl)) (fun _ _ _ h => h) (Or.inl ⟨by rfl, ?_⟩) ?_ ?_
                    rotate_left
                    · intro w'
                      go_simp
                      with_reducible rfl
                    rotate_left
                    · simp only [Act.put, List.setIfInBounds_toArray, List.set_cons_zero, List.set_cons_succ, i64_w, i32_w]
                      rfl
                    refine pure_ (i := 3) (N := some 64) (v := ?_) (a' := ?_) #[true, true, true, true, false, false, false, false, false, false, false] rfl rfl (any_of HT_.out (by kernel_rfl)) (fun _ _ _ h => h) (Or.inl ⟨by rfl, ?_⟩) ?_ ?_
                    rotate_left
                    · intro w'
                      go_simp
                      with_reducible rfl
                    rotate_left
                    · simp only [Act.put, List.setIfInBounds_toArray, List.set_cons_zero, List.set_cons_succ, i64_w, i32_w]
                      rfl
                    refine pure_ (i := 6) (N := some 67) (v := ?_) (a' := ?_) #[true, true, true, true, false, false, true, false, false, false, false] rfl rfl (any_of HT_.out (by kernel_rfl)) (fun _ _ _ h => h) (Or.inl ⟨by rfl, ?_⟩) ?_ ?_
                    rotate_left
                    · intro w'
                      go_simp
                      with_reducible rfl
                    rotate_left
                    · simp only [Act.put, List.setIfInBounds_toArray, List.set_cons_zero, List.set_cons_succ, i64_w, i32_w]
                      rfl
                    refine pure_ (i := 7) (N := some 68) (v := ?_) (a' := ?_) #[true, true, true, true, false, false, true, true, false, false, false] rfl rfl (any_of HT_.out (by kernel_rfl)) (fun _ _ _ h => h) (Or.inl ⟨by rfl, ?_⟩) ?_ ?_
                    rotate_left
                    · intro w'
                      go_simp
                      with_reducible rfl
                    rotate_left
                    · simp only [Act.put, List.setIfInBounds_toArray, List.set_cons_zero, List.set_cons_succ, i64_w, i32_w]
                      rfl
                    refine one_ (i := 4) (N := some 65) #[true, true, true, true, true, false, true, true, false, false, false] rfl rfl (one_of HT_.out (by kernel_rfl)) (by decide) (fun K hK => ?_)
                    refine goes_ Try.func50 (by kernel_rfl) rfl #[.slice (some ⟨go43, 0, none⟩) y148.length co50] (by rfl) rfl rfl (by (try simp only [List.map_toArray, List.map_cons, List.map_nil]); first | done | rfl | (simp only [List.length_drop, List.length_take]; rfl) | (rw [show y148.length = y143.length from KY55.out.trans KY54.out.symm]; rfl)) ?_
                    with_reducible refine (spec_Crc32.calls kj7 _ _ y148 t153 _ ?side1 ?side2 A46.out).mono ?_
                    (case side1 => repeat (first | exact (Kd.V_reads' HO152.out).2.2 | (with_reducible refine Kd.C_alloc ?_ _) | (with_reducible refine Kd.C_drewN ?_ _) | (with_reducible refine Kd.C_drew ?_)))
                    (case side2 => exact (Kd.V_reads' HO152.out).2.1)
                    rintro e w' ⟨rfl, ⟨nd, rfl⟩⟩
                    refine ⟨_, rfl, ?_⟩
                    refine hK.out _ _ trivial (fun hHeld => ?_)
                    clear hK K
                    refine norm_ (a' := ?_) ?_ ?_
                    rotate_left
                    · show Act.put _ (some 65) _ = _
                      simp only [Act.put, List.setIfInBounds_toArray, List.set_cons_zero, List.set_cons_succ, i64_w, i32_w]
                      rfl
                    refine one_ (i := 5) (N := some 66) #[true, true, true, true, true, true, true, true, false, false, false] rfl rfl (one_of HT_.out (by kernel_rfl)) (by decide) (fun K hK => ?_)
                    refine goes_ Try.func48 (by kernel_rfl) rfl #[.int .u32 t153] (by rfl) rfl rfl (by (try simp only [List.map_toArray, List.map_cons, List.map_nil]); first | done | rfl | (simp only [List.length_drop, List.length_take]; rfl)) ?_
                    with_reducible refine (spec_l2Four.calls t153 t154 _ A47.out).mono ?_
                    rintro e w57 ⟨v155, rfl, ho0, hb⟩
                    refine ⟨_, rfl, ?_⟩
                    have n0_ := Aside0.mk (Kd.R_elder' (by (with_reducible repeat (first | apply Kd.R_alloc | apply Kd.R_drewN | apply Kd.R_drew)); exact HO_5.out) (Kd.R_base ho0) hb)
                    have n1_ := Aside0.mk (Kd.V_elder' (by (with_reducible repeat (first | apply Kd.V_alloc | apply Kd.V_drewN | apply Kd.V_drew)); exact HO147.out) (Kd.R_base ho0) hb)
                    have n2_ := Aside0.mk (Kd.V_elder' (by (with_reducible repeat (first | apply Kd.V_alloc | apply Kd.V_drewN | apply Kd.V_drew)); exact HO152.out) (Kd.R_base ho0) hb)
                    have n3_ := Aside0.mk (Kd.V_elder' (by (with_reducible repeat (first | apply Kd.V_alloc | apply Kd.V_drewN | apply Kd.V_drew)); exact HO161.out) (Kd.R_base ho0) hb)
                    have n4_ := Aside0.mk (Kd.R_lower (Kd.R_new' ho0 (Kd.R_lt (by (with_reducible repeat (first | apply Kd.R_alloc | apply Kd.R_drewN | apply Kd.R_drew)); exact HO_5.out))) (below_size (by repeat (first | (with_reducible first | exact HB.out | apply below_alloc | apply pw_below_drewN | apply below_drew1 | refine below_set ?_ (IsS121.ge HI104.out) | refine below_set ?_ GE111.out) | exact HB.out))))
                    have n5_ := Aside0.mk (blk_below (g := gb111) (o := .cells #[.int .u32 t105, .int .i64 t106, .int .u32 t107, .int .u32 t108] 27 (0, 0)) (by (with_reducible repeat (first | refine blk_drewN ?_ _ | refine blk_drew ?_ | refine blk_alloc ?_ _)); exact BK111.out) hb)
                    have n6_ := Aside0.mk (IsS121.below (by repeat (first | (with_reducible first | exact HI104.out | apply IsS121.alloc | apply IsS121.drewN | apply IsS121.drew | apply IsS121.set_1 | apply IsS121.set_2 | refine IsS121.far ?_ NB104_111.out _) | exact HI104.out)) hb)
                    have n7_ := Aside0.mk (below_step (by repeat (first | (with_reducible first | exact HB.out | apply below_alloc | apply pw_below_drewN | apply below_drew1 | refine below_set ?_ (IsS121.ge HI104.out) | refine below_set ?_ GE111.out) | exact HB.out)) hb)
                    clear HO_5
                    clear HO147
                    clear HO152
                    clear HO161
                    clear BK111
                    clear HI104
                    clear HB
                    have HO_5 := n0_
                    have HO147 := n1_
                    have HO152 := n2_
                    have HO161 := n3_
                    have HO156 := n4_
                    have BK111 := n5_
                    have HI104 := n6_
                    have HB := n7_
                    clear n0_ n1_ n2_ n3_ n4_ n5_ n6_ n7_
                    (try clear hb)
                    (try clear hb2)
                    (try clear hk)
                    (try clear hi)
                    (try clear ho0)
                    obtain ⟨Ao58, co58, eo58⟩ := Kd.R_slice HO156.out
                    (first | subst eo58 | (injection eo58 with f1_ f2_ f3_; have f4_ := f1_.symm; have f5_ := f3_.symm; clear f1_ f2_ f3_; subst f4_; subst f5_))
                    refine hK.out _ _ trivial (fun hHeld => ?_)
                    clear hK K
                    refine norm_ (a' := ?_) ?_ ?_
                    rotate_left
                    · show Act.put _ (some 66) _ = _
                      simp only [Act.put, List.setIfInBounds_toArray, List.set_cons_zero, List.set_cons_succ, i64_w, i32_w]
                      rfl
                    refine one_ (i := 8) (N := some 69) #[true, true, true, true, true, true, true, true, true, false, false] rfl rfl (one_of HT_.out (by kernel_rfl)) (by decide) (fun K hK => ?_)
                    refine Kd.N_lit_step (Kd.slice 5 (Kd.int .u8)) _ 25 ?hg (N' := 69) ?hd (xs := ([y143, t154, y157] : List (List Int))) (inner := [.slice (some ⟨go43, 0, none⟩) y143.length co50, .slice Ao58 t154.length co58, .slice A56 y157.length c56]) (ok := (fun k_ => k_ ≠ gb111 ∧ k_ ≠ g104)) (okp := (fun k_ => k_ ≠ gb111 ∧ k_ ≠ g104)) ?hr ?hp (fun _ hk => hk) ((show ∀ k_, w57.heap.size ≤ k_ → (fun k_ => k_ ≠ gb111 ∧ k_ ≠ g104) k_ from fun k_ hk => ⟨Kd.freshB (g := gb111) (o := .cells #[.int .u32 t105, .int .i64 t106, .int .u32 t107, .int .u32 t108] 27 (0, 0)) (by (with_reducible repeat (first | refine blk_drewN ?_ _ | refine blk_drew ?_ | refine blk_alloc ?_ _)); exact BK111.out) k_ hk, IsS121.fresh (by repeat (first | (with_reducible first | exact HI104.out | apply IsS121.alloc | apply IsS121.drewN | apply IsS121.drew | apply IsS121.set_1 | apply IsS121.set_2 | refine IsS121.far ?_ NB104_111.out _) | exact HI104.out)) k_ hk⟩) _ (Nat.le_refl _)) (Below.refl _ _) (Nat.le_refl _) (by simp) ?_; (case hd => rfl); (case hg => rfl); (case hr => first | (go_simp; done) | (go_simp; rfl)); (case hp => exact (Reps.one (show Kd.FK (Kd.slice 5 (Kd.int .u8)) _ _ y143 [.slice (some ⟨go43, 0, none⟩) y143.length co50] from (Kd.FK_slice_mk (Kd.V_reads' (Kd.V_mono (ok' := (fun k_ => k_ ≠ gb111 ∧ k_ ≠ g104)) (HO147.out) (fun k_ hk => ⟨hk.1.1.2, hk.1.2⟩))).2.1 (Kd.V_F (Kd.V_mono (ok' := (fun k_ => k_ ≠ gb111 ∧ k_ ≠ g104)) (HO147.out) (fun k_ hk => ⟨hk.1.1.2, hk.1.2⟩))))) (Reps.one (show Kd.FK (Kd.slice 5 (Kd.int .u8)) _ _ t154 [.slice Ao58 t154.length co58] from (Kd.FK_slice_mk (Kd.R_reads' (Kd.R_mono (ok' := (fun k_ => k_ ≠ gb111 ∧ k_ ≠ g104)) (IsS121.apart HI104.out (Kd.R_types (HO156.out) BK111.out (by decide)) (by decide)) (fun k_ hk => ⟨hk.1.2, hk.2⟩))).2.1 (Kd.R_F (Kd.R_mono (ok' := (fun k_ => k_ ≠ gb111 ∧ k_ ≠ g104)) (IsS121.apart HI104.out (Kd.R_types (HO156.out) BK111.out (by decide)) (by decide)) (fun k_ hk => ⟨hk.1.2, hk.2⟩))))) (Reps.one (show Kd.FK (Kd.slice 5 (Kd.int .u8)) _ _ y157 [.slice A56 y157.length c56] from (Kd.FK_slice_mk (Kd.V_reads' (Kd.V_mono (ok' := (fun k_ => k_ ≠ gb111 ∧ k_ ≠ g104)) (HO161.out) (fun k_ hk => ⟨hk.1.1.2, hk.1.2⟩))).2.1 (Kd.V_F (Kd.V_mono (ok' := (fun k_ => k_ ≠ gb111 ∧ k_ ≠ g104)) (HO161.out) (fun k_ hk => ⟨hk.1.1.2, hk.1.2⟩))))) (Reps.none _ _)))))
                    intro v163 w59 ho60 hb hg_ hnew_
                    clear hg_ hnew_
                    (first | rw [← Ny162.out] at ho60 | (simp only [Int.reduceToNat] at ho60; rw [← Ny162.out] at ho60))
                    have n0_ := Aside0.mk (Kd.R_below (by (with_reducible repeat (first | apply Kd.R_alloc | apply Kd.R_drewN | apply Kd.R_drew)); exact HO_5.out) hb)
                    have n1_ := Aside0.mk (Kd.V_elder' (by (with_reducible repeat (first | apply Kd.V_alloc | apply Kd.V_drewN | apply Kd.V_drew)); exact HO147.out) (Kd.N_base ho60) hb)
                    have n2_ := Aside0.mk (Kd.V_elder' (by (with_reducible repeat (first | apply Kd.V_alloc | apply Kd.V_drewN | apply Kd.V_drew)); exact HO152.out) (Kd.N_base ho60) hb)
                    have n3_ := Aside0.mk (Kd.V_elder' (by (with_reducible repeat (first | apply Kd.V_alloc | apply Kd.V_drewN | apply Kd.V_drew)); exact HO161.out) (Kd.N_base ho60) hb)
                    have n4_ := Aside0.mk (Kd.N_lower ho60 (below_size (by repeat (first | (with_reducible first | exact HB.out | apply below_alloc | apply pw_below_drewN | apply below_drew1 | refine below_set ?_ (IsS121.ge HI104.out) | refine below_set ?_ GE111.out) | exact HB.out))))
                    have n5_ := Aside0.mk (blk_below (g := gb111) (o := .cells #[.int .u32 t105, .int .i64 t106, .int .u32 t107, .int .u32 t108] 27 (0, 0)) (by (with_reducible repeat (first | refine blk_drewN ?_ _ | refine blk_drew ?_ | refine blk_alloc ?_ _)); exact BK111.out) hb)
                    have n6_ := Aside0.mk (IsS121.below (by repeat (first | (with_reducible first | exact HI104.out | apply IsS121.alloc | apply IsS121.drewN | apply IsS121.drew | apply IsS121.set_1 | apply IsS121.set_2 | refine IsS121.far ?_ NB104_111.out _) | exact HI104.out)) hb)
                    have n7_ := Aside0.mk (below_step (by repeat (first | (with_reducible first | exact HB.out | apply below_alloc | apply pw_below_drewN | apply below_drew1 | refine below_set ?_ (IsS121.ge HI104.out) | refine below_set ?_ GE111.out) | exact HB.out)) hb)
                    clear HO_5
                    clear HO147
                    clear HO152
                    clear HO161
                    clear BK111
                    clear HI104
                    clear HB
                    clear HO156
                    have HO_5 := n0_
                    have HO147 := n1_
                    have HO152 := n2_
                    have HO161 := n3_
                    have HO164 := n4_
                    have BK111 := n5_
                    have HI104 := n6_
                    have HB := n7_
                    clear n0_ n1_ n2_ n3_ n4_ n5_ n6_ n7_
                    clear hb ho60
                    obtain ⟨Ao61, co61, eo61⟩ := Kd.N_slice HO164.out
                    (first | subst eo61 | (injection eo61 with f1_ f2_ f3_; have f4_ := f1_.symm; have f5_ := f3_.symm; clear f1_ f2_ f3_; subst f4_; subst f5_))
                    refine hK.out _ _ trivial (fun hHeld => ?_)
                    clear hK K
                    refine norm_ (a' := ?_) ?_ ?_
                    rotate_left
                    · show Act.put _ (some 69) _ = _
                      simp only [Act.put, List.setIfInBounds_toArray, List.set_cons_zero, List.set_cons_succ, i64_w, i32_w]
                      rfl
                    refine one_ (i := 9) (N := some 70) #[true, true, true, true, true, true, true, true, true, true, false] rfl rfl (one_of HT_.out (by kernel_rfl)) (by decide) (fun K hK => ?_)
                    refine goes_ Try.func47 (by kernel_rfl) rfl #[.slice Ao61 y162.length co61] (by rfl) rfl rfl (by (try simp only [List.map_toArray, List.map_cons, List.map_nil]); first | done | rfl | (simp only [List.length_drop, List.length_take]; rfl)) ?_
                    with_reducible refine (spec_l2Cat.calls kj7 _ _ y162 t165 _ ?side1 ?side2 A49.out).mono ?_
                    (case side1 => repeat (first | exact (Kd.N_reads' HO164.out).2.2 | (with_reducible refine Kd.C_alloc ?_ _) | (with_reducible refine Kd.C_drewN ?_ _) | (with_reducible refine Kd.C_drew ?_)))
                    (case side2 => exact (Kd.N_reads' HO164.out).2.1)
                    rintro e w62 ⟨v166, rfl, ho0, hb⟩
                    refine ⟨_, rfl, ?_⟩
                    have n0_ := Aside0.mk (Kd.R_elder' (by (with_reducible repeat (first | apply Kd.R_alloc | apply Kd.R_drewN | apply Kd.R_drew)); exact HO_5.out) (Kd.R_base ho0) hb)
                    have n1_ := Aside0.mk (Kd.V_elder' (by (with_reducible repeat (first | apply Kd.V_alloc | apply Kd.V_drewN | apply Kd.V_drew)); exact HO147.out) (Kd.R_base ho0) hb)
                    have n2_ := Aside0.mk (Kd.V_elder' (by (with_reducible repeat (first | apply Kd.V_alloc | apply Kd.V_drewN | apply Kd.V_drew)); exact HO152.out) (Kd.R_base ho0) hb)
                    have n3_ := Aside0.mk (Kd.V_elder' (by (with_reducible repeat (first | apply Kd.V_alloc | apply Kd.V_drewN | apply Kd.V_drew)); exact HO161.out) (Kd.R_base ho0) hb)
                    have n4_ := Aside0.mk (Kd.N_elder' (by (with_reducible repeat (first | apply Kd.N_alloc | apply Kd.N_drewN | apply Kd.N_drew)); exact HO164.out) (Kd.R_base ho0) hb)
                    have n5_ := Aside0.mk (Kd.R_lower (Kd.R_new' ho0 (Kd.R_lt (by (with_reducible repeat (first | apply Kd.R_alloc | apply Kd.R_drewN | apply Kd.R_drew)); exact HO_5.out))) (below_size (by repeat (first | (with_reducible first | exact HB.out | apply below_alloc | apply pw_below_drewN | apply below_drew1 | refine below_set ?_ (IsS121.ge HI104.out) | refine below_set ?_ GE111.out) | exact HB.out))))
                    have n6_ := Aside0.mk (blk_below (g := gb111) (o := .cells #[.int .u32 t105, .int .i64 t106, .int .u32 t107, .int .u32 t108] 27 (0, 0)) (by (with_reducible repeat (first | refine blk_drewN ?_ _ | refine blk_drew ?_ | refine blk_alloc ?_ _)); exact BK111.out) hb)
                    have n7_ := Aside0.mk (IsS121.below (by repeat (first | (with_reducible first | exact HI104.out | apply IsS121.alloc | apply IsS121.drewN | apply IsS121.drew | apply IsS121.set_1 | apply IsS121.set_2 | refine IsS121.far ?_ NB104_111.out _) | exact HI104.out)) hb)
                    have n8_ := Aside0.mk (below_step (by repeat (first | (with_reducible first | exact HB.out | apply below_alloc | apply pw_below_drewN | apply below_drew1 | refine below_set ?_ (IsS121.ge HI104.out) | refine below_set ?_ GE111.out) | exact HB.out)) hb)
                    clear HO_5
                    clear HO147
                    clear HO152
                    clear HO161
                    clear HO164
                    clear BK111
                    clear HI104
                    clear HB
                    have HO_5 := n0_
                    have HO147 := n1_
                    have HO152 := n2_
                    have HO161 := n3_
                    have HO164 := n4_
                    have HO167 := n5_
                    have BK111 := n6_
                    have HI104 := n7_
                    have HB := n8_
                    clear n0_ n1_ n2_ n3_ n4_ n5_ n6_ n7_ n8_
                    (try clear hb)
                    (try clear hb2)
                    (try clear hk)
                    (try clear hi)
                    (try clear ho0)
                    refine hK.out _ _ trivial (fun hHeld => ?_)
                    clear hK K
                    refine norm_ (a' := ?_) ?_ ?_
                    rotate_left
                    · show Act.put _ (some 70) _ = _
                      simp only [Act.put, List.setIfInBounds_toArray, List.set_cons_zero, List.set_cons_succ, i64_w, i32_w]
                      rfl
                    refine pure_ (i := 10) (N := some 2) (v := ?_) (a' := ?_) #[true, true, true, true, true, true, true, true, true, true, true] rfl rfl (any_of HT_.out (by kernel_rfl)) (fun _ _ _ h => h) (Or.inl ⟨by rfl, ?_⟩) ?_ ?_
                    rotate_left
                    · intro w'
                      go_simp
                      with_reducible rfl
                    rotate_left
                    · simp only [Act.put, List.setIfInBounds_toArray, List.set_cons_zero, List.set_cons_succ, i64_w, i32_w]
                      rfl
                    refine done_ (done_of HT_.out (by kernel_rfl)) ?_
                    try go_wp2
                    go_ret
                    exact ⟨_, by first | rfl | (simp [errW_none, errW_some] <;> rfl) | (simp only [← hji40]; first | rfl | (simp [errW_none, errW_some] <;> rfl)) | (simp [*, errW_none, errW_some] <;> rfl), by (with_reducible repeat (first | apply Kd.R_alloc | apply Kd.R_drewN | apply Kd.R_drew)); exact Kd.R_mono HO167.out (fun _ hk => trivial), by repeat (first | (with_reducible first | exact HB.out | apply below_alloc | apply pw_below_drewN | apply below_drew1 | refine below_set ?_ (IsS121.ge HI104.out) | refine below_set ?_ GE111.out) | exact HB.out)⟩
                  · rw [if_neg c48] at H
                    exact absurd H (by simp)
                · rw [if_neg c44] at H
                  exact absurd H (by simp)
              · rw [if_neg c42] at H
                exact absurd H (by simp)
            · rw [if_neg c41] at H
              exact absurd H (by simp)
          · rw [if_neg c39] at H
            have c39b0 : (t115 == 3) = false := beq_eq_false_iff_ne.mpr c39
            have c39b1 : (t115 != 3) = true := bne_iff_ne.mpr c39
            by_cases c63 : t115 = 4
            · rw [if_pos c63] at H
              have c63b0 : (t115 == 4) = true := beq_iff_eq.mpr c63
              have c63b1 : (t115 != 4) = false := bne_eq_false_iff_eq.mpr c63
              clear c63
              by_cases c64 : x5_7.length < 140737488355328
              · rw [if_pos c64] at H
                have LMc64 := Aside0.mk c64
                clear c64
                obtain ⟨y168, hy168⟩ : ∃ y_ : List Int, y_ = (x5_7 ++ [0]) := ⟨_, rfl⟩
                replace H : (some y168) = some r := by first | (rw [hy168]; with_reducible exact H) | (have H2_ := (Option.bind_some _ _).symm.trans H; rw [hy168]; with_reducible exact H2_) | (have H2_ := (Option.bind_some _ _).symm.trans H; with_reducible exact H2_) | with_reducible exact H | (rw [hy168]; exact H) | exact H
                have Ny168 := Aside0.mk hy168
                clear hy168
                obtain rfl := Option.some.inj H
                go_wp2_with (first | ((with_reducible refine gate_builtin (b := .append) (xs := #[.tmp 73, .tmp 74]) rfl ?_); at_builtin; refine Kd.R_append (Kd.int .u8) (w0 := w) w.heap.size rfl (.tmp 73) (.tmp 74) 25 5 (.int .u8 0) 1 rfl Try.underlying25 info5 rfl (by decide) (by omega) v113 x5_7 0 [.int .u8 0] (fun _ => True) (fun _ => False) rfl rfl ?aP (fun _ hk => hk.elim) ?aF ?aO ?aB ?aS ?aL ?_; (case aP => exact rfl); (case aB => exact (by repeat (first | (with_reducible first | exact HB.out | apply below_alloc | apply pw_below_drewN | apply below_drew1 | refine below_set ?_ (IsS121.ge HI104.out) | refine below_set ?_ GE111.out) | exact HB.out))); (case aF => exact (fun _ _ => trivial)); (case aO => exact (by (with_reducible repeat (first | apply Kd.R_alloc | apply Kd.R_drewN | apply Kd.R_drew)); exact HO_5.out)); (case aS => exact (below_size (by repeat (first | (with_reducible first | exact HB.out | apply below_alloc | apply pw_below_drewN | apply below_drew1 | refine below_set ?_ (IsS121.ge HI104.out) | refine below_set ?_ GE111.out) | exact HB.out)))); (case aL => have := LMc64.out; omega); intro v169 w65 ho hb hg hat; rw [← Ny168.out] at ho; have n0_ := Aside0.mk (blk_grown (g := gb111) (o := .cells #[.int .u32 t105, .int .i64 t106, .int .u32 t107, .int .u32 t108] 27 (0, 0)) (by (with_reducible repeat (first | refine blk_drewN ?_ _ | refine blk_drew ?_ | refine blk_alloc ?_ _)); exact BK111.out) hg (Kd.R_ne HO_5.out BK111.out (by decide))); have n1_ := Aside0.mk (IsS121.grown (by repeat (first | (with_reducible first | exact HI104.out | apply IsS121.alloc | apply IsS121.drewN | apply IsS121.drew | apply IsS121.set_1 | apply IsS121.set_2 | refine IsS121.far ?_ NB104_111.out _) | exact HI104.out)) hg (IsS121.own_ne HI104.out HO_5.out (by decide))); have n2_ := Aside0.mk (hb); have n3_ := Aside0.mk (ho); clear BK111; clear HI104; clear HB; clear HO_5; have BK111 := n0_; have HI104 := n1_; have HB := n2_; have HO170 := n3_; clear n0_ n1_ n2_ n3_; clear ho hb hg hat))
                go_ret
                exact ⟨_, by first | rfl | (simp [errW_none, errW_some] <;> rfl) | (simp [*, errW_none, errW_some] <;> rfl), by (with_reducible repeat (first | apply Kd.R_alloc | apply Kd.R_drewN | apply Kd.R_drew)); exact HO170.out, by repeat (first | (with_reducible first | exact HB.out | apply below_alloc | apply pw_below_drewN | apply below_drew1 | refine below_set ?_ (IsS121.ge HI104.out) | refine below_set ?_ GE111.out) | exact HB.out)⟩
              · rw [if_neg c64] at H
                exact absurd H (by simp)
            · rw [if_neg c63] at H
              have c63b0 : (t115 == 4) = false := beq_eq_false_iff_ne.mpr c63
              have c63b1 : (t115 != 4) = true := bne_iff_ne.mpr c63
              obtain rfl := Option.some.inj H
              go_wp2
              go_ret
              exact ⟨_, by first | rfl | (simp [errW_none, errW_some] <;> rfl) | (simp [*, errW_none, errW_some] <;> rfl), by (with_reducible repeat (first | apply Kd.R_alloc | apply Kd.R_drewN | apply Kd.R_drew)); exact HO_5.out, by repeat (first | (with_reducible first | exact HB.out | apply below_alloc | apply pw_below_drewN | apply below_drew1 | refine below_set ?_ (IsS121.ge HI104.out) | refine below_set ?_ GE111.out) | exact HB.out)⟩

end Go.Proofs.Ytgfadfahbhcllaa.Q
namespace Go.Proofs.Ytgfadfahbhcllaa.Q
open Go.RowKit Go.Proofs.YtgfadfahbhcllaaW.PrintWords Go.Proofs.YtgfadfahbhcllaaW.PrintLast Go.Proofs.YtgfadfahbhcllaaW.PrintMore Go.Proofs.Ytgfadfahbhcllaa.LK
set_option linter.unusedVariables false
section
variable {P : Program} {w : World}
theorem items_bytes {d : Nat} {e : TypeId} (he : P.underlying e = some (.int .u8)) (xs ys : List Int) : ∀ (is : List Nat), (∀ i ∈ is, i < xs.length ∧ i < ys.length) →
    ∃ r : Bool, (Op.eqItems (d + 1) e 1 (bytesV xs).toArray (bytesV ys).toArray is).run P w = .ok r w ∧ (r = true ↔ ∀ i ∈ is, xs[i]? = ys[i]?)
  | [], _ => ⟨true, by simp [Op.eqItems], by simp⟩
  | i :: is, h => by
    obtain ⟨h1, h2⟩ := h i (List.mem_cons_self ..)
    obtain ⟨r, hr, hi⟩ := items_bytes (d := d) he xs ys is (fun j hj => h j (List.mem_cons_of_mem _ hj))
    have hk : P.plainKey e = true := by unfold Program.plainKey; rw [he]
    have g1 : (bytesV xs).toArray[i * 1]? = some (.int .u8 xs[i]) := by rw [Nat.mul_one]; unfold bytesV; simp [List.getElem?_eq_getElem h1]
    have g2 : (bytesV ys).toArray[i * 1]? = some (.int .u8 ys[i]) := by rw [Nat.mul_one]; unfold bytesV; simp [List.getElem?_eq_getElem h2]
    have p1 := run_part_plain w hk g1
    have p2 := run_part_plain w hk g2
    have p3 := run_equalIn_int (P := P) w d e .u8 .u8 xs[i] ys[i] he
    simp only [Op.eqItems, Sem.run_bind, p1, p2, p3, Result.andThen_ok]
    by_cases hxy : xs[i] = ys[i]
    · rw [if_neg (by simp [hxy])]
      refine ⟨r, hr, ?_⟩
      rw [hi]
      constructor
      · intro hall j hj
        rcases List.mem_cons.1 hj with rfl | hj
        · rw [List.getElem?_eq_getElem h1, List.getElem?_eq_getElem h2, hxy]
        · exact hall j hj
      · exact fun hall j hj => hall j (List.mem_cons_of_mem _ hj)
    · rw [if_pos (by simp [hxy])]
      refine ⟨false, rfl, ?_⟩
      constructor
      · intro hf; cases hf
      · intro hall
        have := hall i (List.mem_cons_self ..)
        rw [List.getElem?_eq_getElem h1, List.getElem?_eq_getElem h2] at this
        exact absurd (Option.some.inj this) hxy
/-- Two arrays of bytes. -/
theorem neq_arr {t e : TypeId} {n : Nat} {i : TypeInfo} (hu : P.underlying t = some (.array n e)) (he : P.underlying e = some (.int .u8)) (hi : P.info? e = some i) (hc : P.cellsOf e = 1) {xs ys : List Int} (hx : xs.length = n) (hy : ys.length = n) :
    (binOp .neq t (.agg (bytesV xs).toArray) (.agg (bytesV ys).toArray)).run P w = .ok (.bool (decide (xs ≠ ys))) w := by
  obtain ⟨r, hr, hiff⟩ := items_bytes (P := P) (w := w) (d := 9998) he xs ys (List.range n) (fun j hj => by have := List.mem_range.1 hj; omega)
  rw [run_neq_struct]
  have h1 := run_equalIn_array (P := P) w 9999 (bytesV xs).toArray (bytesV ys).toArray hu hi
  rw [hc] at h1
  rw [h1, hr, Result.andThen_ok]
  have hd : (!r) = decide (xs ≠ ys) := by
    have e : r = decide (xs = ys) := by
      rw [Bool.eq_iff_iff, hiff, decide_eq_true_iff]
      constructor
      · intro hall
        refine List.ext_getElem? (fun j => ?_)
        by_cases hj : j < n
        · exact hall j (List.mem_range.2 hj)
        · rw [List.getElem?_eq_none (by omega), List.getElem?_eq_none (by omega)]
      · rintro rfl _ _
        rfl
    rw [e]
    by_cases hxy : xs = ys <;> simp [hxy]
  rw [hd]
end
end Go.Proofs.Ytgfadfahbhcllaa.Q
namespace Go.Proofs.Ytgfadfahbhcllaa.Q
open Go.RowKit Go.Proofs.YtgfadfahbhcllaaW.PrintWords Go.Proofs.YtgfadfahbhcllaaW.PrintLast Go.Proofs.Ytgfadfahbhcllaa.LK Go.Proofs.YtgfadfahbhcllaaW.PrintMore
attribute [local go_sem] max2_int min2_int max_two min_two max_three min_three max_four min_four   -- for this text's walks alone
set_option linter.unusedVariables false
set_option linter.unusedSimpArgs false

/-! ### impl_get: function 90 -/
def impl_get.l0 : Nat → List Int → Int → Int → Int → Option (Int)
  | 0, _, _, _, _ => none
  | k + 1, x0, x1, x7, x8 => if x8 ≥ 0 then (if 0 ≤ (wrap64 (x1 + x8)) then (if (wrap64 (x1 + x8)) < (x0.length : Int) then (impl_get.l0 k x0 x1 (Go.bits .or .u64 (IntKind.u64.wrap (x7 * 256)) (IntKind.u64.wrap (rd x0 (wrap64 (x1 + x8))))) (wrap64 (x8 - 1))) else (none)) else (none)) else (some x7)
def impl_get.f (k : Nat) (l0 : List Int) (a1 : Int) (a2 : Int) : Option (Int) := impl_get.l0 k l0 a1 0 (wrap64 (a2 - 1))
theorem impl_get.mono_l : ∀ k, (∀ y0 y1 y2 y3, LeO (impl_get.l0 k y0 y1 y2 y3) (impl_get.l0 (k + 1) y0 y1 y2 y3))
  | 0 => fun _ _ _ _ r h => by simp [impl_get.l0] at h
  | k + 1 => by
    have ih0 := impl_get.mono_l k
    · intro y0 y1 y2 y3
      unfold impl_get.l0
      repeat' first
      | (with_reducible exact ih0 _ _ _ _)
      | (with_reducible exact LeO.refl _)
      | (with_reducible exact LeO.none _)
      | (with_reducible refine LeO.ite ?_ ?_)
      | (with_reducible refine LeO.bind ?_ (fun _ => ?_))
      | exact ih0 _ _ _ _
      | exact LeO.none _
      | refine LeO.ite ?_ ?_
      | refine LeO.bind ?_ (fun _ => ?_)
theorem impl_get.mono : ∀ a0 a1 a2 k, LeO (impl_get.f k a0 a1 a2) (impl_get.f (k + 1) a0 a1 a2) := by
  intro a0 a1 a2 k
  have ih0 := impl_get.mono_l k
  unfold impl_get.f
  repeat' first
      | (with_reducible exact ih0 _ _ _ _)
      | (with_reducible exact LeO.refl _)
      | (with_reducible exact LeO.none _)
      | (with_reducible refine LeO.ite ?_ ?_)
      | (with_reducible refine LeO.bind ?_ (fun _ => ?_))
      | exact ih0 _ _ _ _
      | exact LeO.none _
      | refine LeO.ite ?_ ?_
      | refine LeO.bind ?_ (fun _ => ?_)
set_option maxHeartbeats 8000000 in
set_option maxRecDepth 100000 in
theorem impl_get.calls (k : Nat) (A0 : Option Addr) (c0 : Nat) (l0 : List Int) (a1 : Int) (a2 : Int) (r : Int) (w : World) (hr0 : Kd.C (Kd.int .u8) w A0 l0.length l0) (hc0 : l0.length ≤ c0) (h : impl_get.f k l0 a1 a2 = some r) :
    Calls Try.prog 90 #[.slice A0 l0.length c0, .int .i64 a1, .int .i64 a2] w fun e w' => e = .returned (.int .u64 r) ∧ Drawn0 w w' := by
  have HR0 := Aside0.mk hr0
  have HC0 := Aside0.mk hc0
  clear hr0 hc0
  have H : (impl_get.l0 k l0 a1 0 (wrap64 (a2 - 1))) = some r := h
  clear h
  have H' := Aside0.mk H
  clear H
  go_enter Try.func90, Try.ntmps90
  go_wp2
  go_loopg [7, 8] k (fun kq v7 v8 w' => ∃ (x7_1 : Int) (x8_1 : Int), v7 = .int .u64 x7_1 ∧ v8 = .int .i64 x8_1 ∧ Aside0 (impl_get.l0 kq l0 a1 x7_1 x8_1 = some r) ∧ Aside0 (kq ≤ k) ∧ Drawn0 w w')
  case atStart => exact ⟨(0), (wrap64 (a2 - 1)), (by first | rfl | (simp; done) | (simp [*]; done)), (by first | rfl | (simp; done) | (simp [*]; done)), H', ⟨Nat.le_refl _⟩, by repeat (first | exact Drawn0.refl _ | apply Drawn0.step)⟩
  case round =>
    clear H'
    try clear p2
    obtain ⟨x7_1, x8_1, rfl, rfl, HA, HK1, ⟨m1, rfl⟩⟩ := hrel
    cases gk with
    | zero => exact absurd HA.out (by simp [impl_get.l0])
    | succ k1 =>
      have H := HA.out
      clear HA
      simp only [impl_get.l0] at H
      by_cases c4 : x8_1 ≥ 0
      · rw [if_pos c4] at H
        have c4b0 : decide (0 ≤ x8_1) = true := decide_eq_true c4
        clear c4
        obtain ⟨ji5, hji5⟩ : ∃ j_ : Int, (wrap64 (a1 + x8_1)) = j_ := ⟨_, rfl⟩
        replace H : (if 0 ≤ (ji5) then (if (ji5) < (l0.length : Int) then (impl_get.l0 k1 l0 a1 (Go.bits .or .u64 (IntKind.u64.wrap (x7_1 * 256)) (IntKind.u64.wrap (rd l0 (ji5)))) (wrap64 (x8_1 - 1))) else (none)) else (none)) = some r := by first | (rw [hji5] at H; exact H) | (simp only [hji5] at H ⊢; exact H)
        have hji5w : (IntKind.i64.wrap (a1 + x8_1)) = ji5 := (i64_w _).trans hji5
        by_cases c6 : 0 ≤ (ji5)
        · rw [if_pos c6] at H
          have c6b0 : decide (0 ≤ (ji5)) = true := decide_eq_true c6
          clear c6
          by_cases c7 : (ji5) < (l0.length : Int)
          · rw [if_pos c7] at H
            have c7b0 : decide ((ji5) < (l0.length : Int)) = true := decide_eq_true c7
            clear c7
            have H' := Aside0.mk H
            clear H
            have p101 : 0 ≤ ((ji5) : Int) := of_decide_eq_true (by first | (with_reducible assumption) | assumption)
            have q101 : (ji5) < (l0.length : Int) := of_decide_eq_true (by first | (with_reducible assumption) | assumption)
            obtain ⟨ad101, e101, hx101_0⟩ := Kd.at_int HR0.out (ji5) p101 q101
            cases e101
            replace p101 := eq_true p101
            replace q101 := eq_true q101
            go_wp2
            go_roundg k1
            case measure => have := HK1.out; omega
            case rel => exact ⟨(Go.bits .or .u64 (IntKind.u64.wrap (x7_1 * 256)) (IntKind.u64.wrap (rd l0 (ji5)))), (wrap64 (x8_1 - 1)), (by first | rfl | (simp; done) | (simp only [← hji5] <;> (first | rfl | simp)) | (simp [*]; done)), (by first | rfl | (simp; done) | (simp [*]; done)), H', ⟨by have := HK1.out; omega⟩, by repeat (first | exact Drawn0.refl _ | apply Drawn0.step)⟩
          · rw [if_neg c7] at H
            exact absurd H (by simp)
        · rw [if_neg c6] at H
          exact absurd H (by simp)
      · rw [if_neg c4] at H
        have c4b0 : decide (0 ≤ x8_1) = false := decide_eq_false c4
        clear c4
        obtain rfl := Option.some.inj H
        go_wp2
        go_ret
        exact ⟨by first | rfl | (simp; done) | (simp [*]; done), by repeat (first | exact Drawn0.refl _ | apply Drawn0.step)⟩

end Go.Proofs.Ytgfadfahbhcllaa.Q
namespace Go.Proofs.Ytgfadfahbhcllaa.Q
open Go.RowKit Go.Proofs.YtgfadfahbhcllaaW.PrintWords Go.Proofs.YtgfadfahbhcllaaW.PrintLast Go.Proofs.Ytgfadfahbhcllaa.LK Go.Proofs.YtgfadfahbhcllaaW.PrintMore
attribute [local go_sem] max2_int min2_int max_two min_two max_three min_three max_four min_four   -- for this text's walks alone
set_option linter.unusedVariables false
set_option linter.unusedSimpArgs false

/-! ### spec_l2Get: function 53 -/
def spec_l2Get.f (l0 : List Int) (a1 : Int) : Option (Int) := if 0 ≤ a1 then (if a1 < (l0.length : Int) then (if 0 ≤ (wrap64 (a1 + 1)) then (if (wrap64 (a1 + 1)) < (l0.length : Int) then (if 0 ≤ (wrap64 (a1 + 2)) then (if (wrap64 (a1 + 2)) < (l0.length : Int) then (if 0 ≤ (wrap64 (a1 + 3)) then (if (wrap64 (a1 + 3)) < (l0.length : Int) then (some ((((((((rd l0 a1) % 4294967296) + ((256 * ((rd l0 (wrap64 (a1 + 1))) % 4294967296)) % 4294967296)) % 4294967296) + ((65536 * ((rd l0 (wrap64 (a1 + 2))) % 4294967296)) % 4294967296)) % 4294967296) + ((16777216 * ((rd l0 (wrap64 (a1 + 3))) % 4294967296)) % 4294967296)) % 4294967296)) else (none)) else (none)) else (none)) else (none)) else (none)) else (none)) else (none)) else (none)
set_option maxHeartbeats 8000000 in
set_option maxRecDepth 100000 in
theorem spec_l2Get.calls (A0 : Option Addr) (c0 : Nat) (l0 : List Int) (a1 : Int) (r : Int) (w : World) (hr0 : Kd.C (Kd.int .u8) w A0 l0.length l0) (hc0 : l0.length ≤ c0) (h : spec_l2Get.f l0 a1 = some r) :
    Calls Try.prog 53 #[.slice A0 l0.length c0, .int .i64 a1] w fun e w' => e = .returned (.int .u32 r) ∧ Drawn0 w w' := by
  have HR0 := Aside0.mk hr0
  have HC0 := Aside0.mk hc0
  clear hr0 hc0
  have H : (if 0 ≤ a1 then (if a1 < (l0.length : Int) then (if 0 ≤ (wrap64 (a1 + 1)) then (if (wrap64 (a1 + 1)) < (l0.length : Int) then (if 0 ≤ (wrap64 (a1 + 2)) then (if (wrap64 (a1 + 2)) < (l0.length : Int) then (if 0 ≤ (wrap64 (a1 + 3)) then (if (wrap64 (a1 + 3)) < (l0.length : Int) then (some ((((((((rd l0 a1) % 4294967296) + ((256 * ((rd l0 (wrap64 (a1 + 1))) % 4294967296)) % 4294967296)) % 4294967296) + ((65536 * ((rd l0 (wrap64 (a1 + 2))) % 4294967296)) % 4294967296)) % 4294967296) + ((16777216 * ((rd l0 (wrap64 (a1 + 3))) % 4294967296)) % 4294967296)) % 4294967296)) else (none)) else (none)) else (none)) else (none)) else (none)) else (none)) else (none)) else (none)) = some r := h
  clear h
  by_cases c3 : 0 ≤ a1
  · rw [if_pos c3] at H
    have c3b0 : decide (0 ≤ a1) = true := decide_eq_true c3
    clear c3
    by_cases c4 : a1 < (l0.length : Int)
    · rw [if_pos c4] at H
      have c4b0 : decide (a1 < (l0.length : Int)) = true := decide_eq_true c4
      clear c4
      obtain ⟨ji5, hji5⟩ : ∃ j_ : Int, (wrap64 (a1 + 1)) = j_ := ⟨_, rfl⟩
      replace H : (if 0 ≤ (ji5) then (if (ji5) < (l0.length : Int) then (if 0 ≤ (wrap64 (a1 + 2)) then (if (wrap64 (a1 + 2)) < (l0.length : Int) then (if 0 ≤ (wrap64 (a1 + 3)) then (if (wrap64 (a1 + 3)) < (l0.length : Int) then (some ((((((((rd l0 a1) % 4294967296) + ((256 * ((rd l0 (ji5)) % 4294967296)) % 4294967296)) % 4294967296) + ((65536 * ((rd l0 (wrap64 (a1 + 2))) % 4294967296)) % 4294967296)) % 4294967296) + ((16777216 * ((rd l0 (wrap64 (a1 + 3))) % 4294967296)) % 4294967296)) % 4294967296)) else (none)) else (none)) else (none)) else (none)) else (none)) else (none)) = some r := by first | (rw [hji5] at H; exact H) | (simp only [hji5] at H ⊢; exact H)
      have hji5w : (IntKind.i64.wrap (a1 + 1)) = ji5 := (i64_w _).trans hji5
      by_cases c6 : 0 ≤ (ji5)
      · rw [if_pos c6] at H
        have c6b0 : decide (0 ≤ (ji5)) = true := decide_eq_true c6
        clear c6
        by_cases c7 : (ji5) < (l0.length : Int)
        · rw [if_pos c7] at H
          have c7b0 : decide ((ji5) < (l0.length : Int)) = true := decide_eq_true c7
          clear c7
          obtain ⟨ji8, hji8⟩ : ∃ j_ : Int, (wrap64 (a1 + 2)) = j_ := ⟨_, rfl⟩
          replace H : (if 0 ≤ (ji8) then (if (ji8) < (l0.length : Int) then (if 0 ≤ (wrap64 (a1 + 3)) then (if (wrap64 (a1 + 3)) < (l0.length : Int) then (some ((((((((rd l0 a1) % 4294967296) + ((256 * ((rd l0 (ji5)) % 4294967296)) % 4294967296)) % 4294967296) + ((65536 * ((rd l0 (ji8)) % 4294967296)) % 4294967296)) % 4294967296) + ((16777216 * ((rd l0 (wrap64 (a1 + 3))) % 4294967296)) % 4294967296)) % 4294967296)) else (none)) else (none)) else (none)) else (none)) = some r := by first | (rw [hji8] at H; exact H) | (simp only [hji8] at H ⊢; exact H)
          have hji8w : (IntKind.i64.wrap (a1 + 2)) = ji8 := (i64_w _).trans hji8
          by_cases c9 : 0 ≤ (ji8)
          · rw [if_pos c9] at H
            have c9b0 : decide (0 ≤ (ji8)) = true := decide_eq_true c9
            clear c9
            by_cases c10 : (ji8) < (l0.length : Int)
            · rw [if_pos c10] at H
              have c10b0 : decide ((ji8) < (l0.length : Int)) = true := decide_eq_true c10
              clear c10
              obtain ⟨ji11, hji11⟩ : ∃ j_ : Int, (wrap64 (a1 + 3)) = j_ := ⟨_, rfl⟩
              replace H : (if 0 ≤ (ji11) then (if (ji11) < (l0.length : Int) then (some ((((((((rd l0 a1) % 4294967296) + ((256 * ((rd l0 (ji5)) % 4294967296)) % 4294967296)) % 4294967296) + ((65536 * ((rd l0 (ji8)) % 4294967296)) % 4294967296)) % 4294967296) + ((16777216 * ((rd l0 (ji11)) % 4294967296)) % 4294967296)) % 4294967296)) else (none)) else (none)) = some r := by first | (rw [hji11] at H; exact H) | (simp only [hji11] at H ⊢; exact H)
              have hji11w : (IntKind.i64.wrap (a1 + 3)) = ji11 := (i64_w _).trans hji11
              by_cases c12 : 0 ≤ (ji11)
              · rw [if_pos c12] at H
                have c12b0 : decide (0 ≤ (ji11)) = true := decide_eq_true c12
                clear c12
                by_cases c13 : (ji11) < (l0.length : Int)
                · rw [if_pos c13] at H
                  have c13b0 : decide ((ji11) < (l0.length : Int)) = true := decide_eq_true c13
                  clear c13
                  obtain rfl := Option.some.inj H
                  have p101 : 0 ≤ (a1 : Int) := of_decide_eq_true (by first | (with_reducible assumption) | assumption)
                  have q101 : a1 < (l0.length : Int) := of_decide_eq_true (by first | (with_reducible assumption) | assumption)
                  obtain ⟨ad101, e101, hx101_0⟩ := Kd.at_int HR0.out a1 p101 q101
                  cases e101
                  replace p101 := eq_true p101
                  replace q101 := eq_true q101
                  have p102 : 0 ≤ ((ji5) : Int) := of_decide_eq_true (by first | (with_reducible assumption) | assumption)
                  have q102 : (ji5) < (l0.length : Int) := of_decide_eq_true (by first | (with_reducible assumption) | assumption)
                  obtain ⟨ad102, e102, hx102_0⟩ := Kd.at_int HR0.out (ji5) p102 q102
                  obtain rfl : ad101 = ad102 := (by injection e102)
                  replace p102 := eq_true p102
                  replace q102 := eq_true q102
                  have p103 : 0 ≤ ((ji8) : Int) := of_decide_eq_true (by first | (with_reducible assumption) | assumption)
                  have q103 : (ji8) < (l0.length : Int) := of_decide_eq_true (by first | (with_reducible assumption) | assumption)
                  obtain ⟨ad103, e103, hx103_0⟩ := Kd.at_int HR0.out (ji8) p103 q103
                  obtain rfl : ad101 = ad103 := (by injection e103)
                  replace p103 := eq_true p103
                  replace q103 := eq_true q103
                  have p104 : 0 ≤ ((ji11) : Int) := of_decide_eq_true (by first | (with_reducible assumption) | assumption)
                  have q104 : (ji11) < (l0.length : Int) := of_decide_eq_true (by first | (with_reducible assumption) | assumption)
                  obtain ⟨ad104, e104, hx104_0⟩ := Kd.at_int HR0.out (ji11) p104 q104
                  obtain rfl : ad101 = ad104 := (by injection e104)
                  replace p104 := eq_true p104
                  replace q104 := eq_true q104
                  go_enter Try.func53, Try.ntmps53
                  go_wp2
                  repeat (go_quiet (fail); try go_wp2)
                  go_ret
                  exact ⟨by first | rfl | (simp; done) | (simp only [← hji5, ← hji8, ← hji11] <;> (first | rfl | simp)) | (simp [*]; done), by repeat (first | exact Drawn0.refl _ | apply Drawn0.step)⟩
                · rw [if_neg c13] at H
                  exact absurd H (by simp)
              · rw [if_neg c12] at H
                exact absurd H (by simp)
            · rw [if_neg c10] at H
              exact absurd H (by simp)
          · rw [if_neg c9] at H
            exact absurd H (by simp)
        · rw [if_neg c7] at H
          exact absurd H (by simp)
      · rw [if_neg c6] at H
        exact absurd H (by simp)
    · rw [if_neg c4] at H
      exact absurd H (by simp)
  · rw [if_neg c3] at H
    exact absurd H (by simp)

end Go.Proofs.Ytgfadfahbhcllaa.Q
