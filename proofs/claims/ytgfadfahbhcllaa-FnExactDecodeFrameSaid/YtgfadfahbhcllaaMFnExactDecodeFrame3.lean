/- Part 3 of 4 of the proof that the law FnExactDecodeFrame returns true at every input. No further condition. -/
import Derived.Test.YtgfadfahbhcllaaWInv
import Derived.Test.YtgfadfahbhcllaaWNEv
import Derived.Test.YtgfadfahbhcllaaWMore
import Derived.Test.YtgfadfahbhcllaaMFnExactDecodeFrame2
namespace Go.Proofs.Ytgfadfahbhcllaa.Q
open Go.RowKit Go.Proofs.YtgfadfahbhcllaaW.PrintWords Go.Proofs.YtgfadfahbhcllaaW.PrintLast Go.Proofs.YtgfadfahbhcllaaW.PrintMore Go.Proofs.Ytgfadfahbhcllaa.LK
set_option linter.unusedVariables false
set_option linter.unusedSimpArgs false
def impl_sectorOf.f (l : List Int) : Option (List Int) := if l.length = 64 then some l else none
set_option maxHeartbeats 8000000 in
set_option maxRecDepth 100000 in
theorem impl_sectorOf.calls {A : Option Addr} {c : Nat} {l r : List Int} {w : World} (hr : Kd.C (Kd.int .u8) w A l.length l) (h : impl_sectorOf.f l = some r) :
    Calls Try.prog 54 #[.slice A l.length c] w fun e w' => e = .returned (.agg (bytesV r).toArray) ∧ Below w.heap.size w w' := by
  have hl : l.length = 64 := by
    unfold impl_sectorOf.f at h
    by_cases h1 : l.length = 64
    · exact h1
    · rw [if_neg h1] at h; cases h
  unfold impl_sectorOf.f at h
  rw [if_pos hl] at h
  cases h
  have HL := Aside0.mk hl
  have HR := Aside0.mk hr
  clear hl hr
  go_enter Try.func54, Try.ntmps54
  go_wp2_with (first | ((with_reducible refine gate_dst (N := 2) rfl ?_); refine Aside0.out ?_))
  refine Aside0.mk ?_
  refine mk ?hw (N := 2) ?hd (cs := (List.replicate 64 (Value.int .u8 0)).toArray) (t := 79) ?hr ?_
  case hd => rfl
  case hw => rfl
  case hr => first | (go_simp; done) | (go_simp; rfl)
  intro g2 hg2 w1 hb2 hB2
  have H1 := Aside0.mk hB2
  have B2 := Aside0.mk hb2
  have G2 := Aside0.mk hg2
  clear hg2 hb2 hB2
  go_wp2_with (first | ((with_reducible refine gate_dst (N := 3) rfl ?_); refine Aside0.out ?_))
  refine Aside0.mk ?_
  refine mk ?hw3 (N := 3) ?hd3 (cs := (List.replicate 64 (Value.int .u8 0)).toArray) (t := 79) ?hr3 ?_
  case hd3 => rfl
  case hw3 => rfl
  case hr3 => first | (go_simp; done) | (go_simp; rfl)
  intro g3 hg3 w2 hb3 hB3
  have H2 := Aside0.mk (below_step H1.out hB3)
  have B2' := Aside0.mk ((hB3.block g2 (blk_lt B2.out)).trans B2.out)
  have B3 := Aside0.mk hb3
  have G3 := Aside0.mk (show g2 < g3 from hg3 ▸ blk_lt B2.out)
  clear hg3 hb3 hB3 B2 H1
  go_wp2_with (first | ((with_reducible refine gate_builtin (b := .copy) (xs := #[.tmp 4, .tmp 5]) rfl ?_); refine Aside0.out ?_))
  refine Aside0.mk ?_
  refine wpList_copy_splice rfl (.tmp 4) (.tmp 5) 25 25 rfl 5 Try.underlying25 (by kernel_rfl) _ _ 64 64 l.length c rfl rfl g3 0 (List.replicate 64 (Value.int .u8 0)) 79 B3.out (bytesV l) ?hn ?hpos ?hfit (bytesV_one l) g3 w2 (Below.refl _ _) (Nat.le_refl _) ?_
  case hn => rw [bytesV_length]; show _ = min _ _; rw [HL.out]; rfl
  case hpos =>
    intro hp
    rw [bytesV_length] at hp
    obtain ⟨ad, e, hc⟩ := bytes_at HR.out hp
    exact ⟨rfl, ad, e, fun j v hv => pw_cell_below H2.out (hc j v hv)⟩
  case hfit => rw [bytesV_length, HL.out]; simp
  intro w3 hb3 hB3
  have e : splice (List.replicate 64 (Value.int .u8 0)) 0 (bytesV l) = bytesV l := by
    unfold splice
    rw [List.drop_of_length_le (by rw [bytesV_length, HL.out]; simp)]
    simp
  have HB3 := Aside0.mk (show w3.heap[g3]? = some (.cells (bytesV l).toArray 79 (0, 0)) from e ▸ hb3)
  have H3 := Aside0.mk (show Below w.heap.size w w3 from ⟨hB3.os.trans H2.out.os, hB3.tape.trans H2.out.tape, hB3.output.trans H2.out.output, Nat.le_trans H2.out.size hB3.size, fun i hi => (hB3.block i (by have := G2.out; have := G3.out; omega)).trans (H2.out.block i hi)⟩)
  have B4 := Aside0.mk ((hB3.block g2 G3.out).trans B2'.out)
  clear hb3 hB3 e
  go_wp2_with (first | ((with_reducible refine gate_dst (N := 7) rfl ?_); refine Aside0.out ?_))
  refine Aside0.mk ?_
  refine ld ?hw7 rfl ?hx7 HB3.out Try.underlying79 rfl ?hi7 ?_
  case hi7 => rw [List.size_toArray, bytesV_length, HL.out]; kernel_rfl
  case hw7 => rfl
  case hx7 => rfl
  go_wp2_with (first | ((with_reducible refine gate_store (t := 79) (p := 2) rfl ?_); refine Aside0.out ?_))
  refine Aside0.mk ?_
  refine st_all ?hw8 ?hN8 rfl ?hp8 (cs := (bytesV l).toArray) ?hx8 B4.out ?ht8 ?hs8 ?h18 ?_
  case hw8 => rfl
  case hN8 => rfl
  case hp8 => rfl
  case hx8 => rfl
  case ht8 => rw [List.size_toArray, bytesV_length, HL.out]; kernel_rfl
  case hs8 => rw [List.size_toArray, bytesV_length, HL.out]; rfl
  case h18 => exact bytesV_one l
  intro w4 hb4 hS4
  have B5 := Aside0.mk hb4
  have H5 := Aside0.mk (show Below w.heap.size w w4 from ⟨hS4.os.trans H3.out.os, hS4.tape.trans H3.out.tape, hS4.output.trans H3.out.output, Nat.le_trans H3.out.size hS4.size, fun i hi => (hS4.block i (Nat.lt_of_lt_of_le hi H3.out.size) (by have := G2.out; omega)).trans (H3.out.block i hi)⟩)
  clear hb4 hS4
  go_wp2
  refine bodyPost_ret (results_cell_row rfl _ _ g2 79 (bytesV l).toArray (0, 0) _ rfl B5.out Try.underlying79 rfl ?hi9) rfl ?_
  case hi9 => rw [List.size_toArray, bytesV_length, HL.out]; kernel_rfl
  exact ⟨rfl, H5.out⟩
/-- The numbers of a sector. -/
def fSeq (l : List Int) : Int := P.le ((l.drop 0).take 4)
def fA (l : List Int) : Int := P.le ((l.drop 8).take 4)
def fB (l : List Int) : Int := P.le ((l.drop 12).take 4)
def fKind (l : List Int) : Int := l.getD 6 0
/-- Whether a sector holds a frame. -/
def isFrame (l : List Int) : Prop := (1 ≤ fKind l ∧ fKind l ≤ 3) ∧ frameCode (fSeq l) (fKind l) (fA l) (fB l) = l
instance (l : List Int) : Decidable (isFrame l) := by unfold isFrame; infer_instance
theorem num4 {l : List Int} (h : P.U8s l) (i : Nat) (hi : i + 4 ≤ l.length) : 0 ≤ P.le ((l.drop i).take 4) ∧ P.le ((l.drop i).take 4) ≤ 4294967295 := by
  have h1 := P.le_range ((h.drop i).take 4)
  rw [show ((l.drop i).take 4).length = 4 from by rw [List.length_take, List.length_drop]; omega] at h1
  omega
def frameOut (c : Bool) (q kd a b : Int) : Value := .tuple #[(if c then .agg #[.int .u32 q, .int .i64 kd, .int .u32 a, .int .u32 b] else .agg #[.int .u32 0, .int .i64 0, .int .u32 0, .int .u32 0]), .bool c]
set_option maxHeartbeats 8000000 in
set_option maxRecDepth 100000 in
theorem frame_raw {l : List Int} {q kd a b : Int} {r : Bool} {kq ka kb : Nat} {w : World} (hr : r = decide ((1 ≤ kd ∧ kd ≤ 3) ∧ frameCode q kd a b = l)) (hl : l.length = 64) (h6 : l[6]? = some kd) (hq : impl_get.f kq l 0 4 = some q) (ha : impl_get.f ka l 8 4 = some a) (hb : impl_get.f kb l 12 4 = some b)
    (rq : 0 ≤ q ∧ q ≤ 4294967295) (ra : 0 ≤ a ∧ a ≤ 4294967295) (rb : 0 ≤ b ∧ b ≤ 4294967295) (rk : 0 ≤ kd ∧ kd ≤ 255) :
    Calls Try.prog 55 #[.agg (bytesV l).toArray] w fun e w' => e = .returned (frameOut r q kd a b) ∧ Below w.heap.size w w' := by
  have jq : IntKind.u32.wrap q = q := by rw [IntKind.wrap_u32]; omega
  have ja : IntKind.u32.wrap a = a := by rw [IntKind.wrap_u32]; omega
  have jb : IntKind.u32.wrap b = b := by rw [IntKind.wrap_u32]; omega
  have jk : IntKind.i64.wrap kd = kd := by rw [IntKind.wrap_i64]; omega
  have hgd : impl_Frame_good.f q kd a b = some (decide (1 ≤ kd ∧ kd ≤ 3)) := by
    unfold impl_Frame_good.f
    by_cases c1 : kd ≥ 1
    · rw [if_pos c1]; congr 1; apply decide_eq_decide.2; omega
    · rw [if_neg c1, decide_eq_false (by omega)]
  have HGd := Aside0.mk hgd
  have HR := Aside0.mk hr
  have HL := Aside0.mk hl
  have H6 := Aside0.mk h6
  have HQ := Aside0.mk hq
  have HA := Aside0.mk ha
  have HBb := Aside0.mk hb
  have RQ := Aside0.mk rq
  have RA := Aside0.mk ra
  have RB := Aside0.mk rb
  have H0 := Aside0.mk (Bx.refl w)
  clear hr hgd hl h6 hq ha hb rq ra rb rk
  go_enter Try.func55, Try.ntmps55
  go_wp2_with (first | ((with_reducible refine gate_dst (N := 1) rfl ?_); refine Aside0.out ?_))
  refine Aside0.mk ?_
  refine mk ?hw1 (N := 1) ?hd1 (cs := (bytesV l).toArray) (t := 79) ?hr1 ?_
  case hd1 => rfl
  case hw1 => rfl
  case hr1 => first | (go_simp; done) | (go_simp; rfl)
  intro g1 hg1_ w101 hb1 hB1
  have H102 := Aside0.mk (H0.out.new hg1_ hb1 hB1)
  clear hg1_ hb1 hB1 H0
  go_wp2_with (first | ((with_reducible refine gate_dst (N := 2) rfl ?_); refine Aside0.out ?_))
  refine Aside0.mk ?_
  refine mk ?hw3 (N := 2) ?hd3 (cs := #[.int .u32 0, .int .i64 0, .int .u32 0, .int .u32 0]) (t := 27) ?hr3 ?_
  case hd3 => rfl
  case hw3 => rfl
  case hr3 => first | (go_simp; done) | (go_simp; rfl)
  intro g2 hg2_ w103 hb3 hB3
  have H104 := Aside0.mk (H102.out.new hg2_ hb3 hB3)
  clear hg2_ hb3 hB3 H102
  try go_wp2
  have H106 := Aside0.mk H104.out.drew
  refine start_ (n := 15) (S := fun w' => w'.cell? ⟨g1, 6, none⟩ = some (.int .u8 kd)) (ds := [14]) #[false, false, false, false, false, false, false, false, false, false, false, false, false, false, false] (by kernel_rfl) rfl rfl ((blk_cell (by first | exact H106.out.gt0 | exact H106.out.gt1 | exact H106.out.gt2) 6).trans (by unfold bytesV; rw [List.getElem?_toArray, List.getElem?_map, H6.out]; rfl)) (fun hHeld => ?_)
  clear H104
  generalize w103.drew = w105 at H106 hHeld ⊢
  refine pure_ (i := 0) (N := some 5) (v := ?_) (a' := ?_) #[true, false, false, false, false, false, false, false, false, false, false, false, false, false, false] rfl rfl (by kernel_rfl) (fun _ _ _ h => h) (Or.inl ⟨by rfl, ?_⟩) ?_ ?_
  rotate_left
  · intro w'
    go_simp
    with_reducible rfl
  rotate_left
  · simp only [Act.put, List.setIfInBounds_toArray, List.set_cons_zero, List.set_cons_succ, i64_w, i32_w]
    rfl
  refine pure_ (i := 3) (N := some 8) (v := ?_) (a' := ?_) #[true, false, false, true, false, false, false, false, false, false, false, false, false, false, false] rfl rfl (by kernel_rfl) (fun _ _ _ h => h) (Or.inl ⟨by rfl, ?_⟩) ?_ ?_
  rotate_left
  · intro w'
    go_simp
    with_reducible rfl
  rotate_left
  · simp only [Act.put, List.setIfInBounds_toArray, List.set_cons_zero, List.set_cons_succ, i64_w, i32_w]
    rfl
  refine pure_ (i := 6) (N := some 11) (v := ?_) (a' := ?_) #[true, false, false, true, false, false, true, false, false, false, false, false, false, false, false] rfl rfl (by kernel_rfl) (fun _ _ _ h => h) (Or.inl ⟨by rfl, ?_⟩) ?_ ?_
  rotate_left
  · intro w'
    go_simp
    with_reducible rfl
  rotate_left
  · simp only [Act.put, List.setIfInBounds_toArray, List.set_cons_zero, List.set_cons_succ, i64_w, i32_w]
    rfl
  refine pure_ (i := 9) (N := some 14) (v := ?_) (a' := ?_) #[true, false, false, true, false, false, true, false, false, true, false, false, false, false, false] rfl rfl (by kernel_rfl) (fun _ _ _ h => h) (Or.inl ⟨by rfl, ?_⟩) ?_ ?_
  rotate_left
  · intro w'
    go_simp
    with_reducible rfl
  rotate_left
  · simp only [Act.put, List.setIfInBounds_toArray, List.set_cons_zero, List.set_cons_succ, i64_w, i32_w]
    rfl
  refine take_ (i := 4) (N := some 9) (v := ?_) (a' := ?_) #[true, false, false, true, true, false, true, false, false, true, false, false, false, false, false] rfl rfl (by kernel_rfl) (fun _ _ _ h => h) (Or.inl ⟨by rfl, ?_⟩) hHeld ?_ ?_
  rotate_left
  · rintro w' s0
    go_simp
    with_reducible rfl
  rotate_left
  · simp only [Act.put, List.setIfInBounds_toArray, List.set_cons_zero, List.set_cons_succ, i64_w, i32_w]
    rfl
  refine pure_ (i := 5) (N := some 10) (v := ?_) (a' := ?_) #[true, false, false, true, true, true, true, false, false, true, false, false, false, false, false] rfl rfl (by kernel_rfl) (fun _ _ _ h => h) (Or.inl ⟨by rfl, ?_⟩) ?_ ?_
  rotate_left
  · intro w'
    go_simp
    with_reducible rfl
  rotate_left
  · simp only [Act.put, List.setIfInBounds_toArray, List.set_cons_zero, List.set_cons_succ, i64_w, i32_w]
    rfl
  refine join_ (σ := Nat) 1 #[true, true, true, true, true, true, true, true, true, true, true, true, true, true, false] (fun s_ => [(6, .int .u64 q), (7, .int .u32 q), (12, .int .u64 a), (13, .int .u32 a), (15, .int .u64 b), (16, .int .u32 b), (17, .agg #[.int .u32 q, .int .i64 kd, .int .u32 a, .int .u32 b]), (4, .pointer (some ⟨s_, 0, none⟩))]) (fun s_ w' => (w'.cell? ⟨g1, 6, none⟩ = some (.int .u8 kd)) ∧ Bx w [(s_, #[.int .u32 0, .int .i64 0, .int .u32 0, .int .u32 0], 27), (g2, #[.int .u32 0, .int .i64 0, .int .u32 0, .int .u32 0], 27), (g1, (bytesV l).toArray, 79)] w') ?_ ?_
  rotate_left
  · intro hCont
    refine two_ (i := 1) (j := 13) (Ni := some 6) (Nj := some 4) #[true, true, false, true, true, true, true, false, false, true, false, false, false, false, false] #[true, false, false, true, true, true, true, false, false, true, false, false, false, true, false] rfl rfl rfl rfl (by kernel_rfl) (by decide) (by decide) (fun K hK => ?_) (fun K hK => ?_)
    · skip
      refine goes_ Try.func90 (by kernel_rfl) rfl #[.slice (some ⟨g1, 0, none⟩) 64 64, .int .i64 0, .int .i64 4] (by rfl) rfl rfl (by (try simp only [List.map_toArray, List.map_cons, List.map_nil]); first | done | rfl) ?_
      have hC7 : Kd.C (Kd.int .u8) w105 (some ⟨g1, 0, none⟩) l.length l := (Kd.R_reads' (R_arr (base := 0) (l := l) H106.out.gt1 (Nat.zero_le _) (by rw [HL.out]; decide))).2.2
      have hc7 := impl_get.calls kq _ 64 l 0 4 q _ hC7 (by rw [HL.out]; decide) HQ.out
      rw [HL.out] at hc7
      refine hc7.mono ?_
      rintro e w107 ⟨rfl, hd_⟩
      refine ⟨_, rfl, ?_⟩
      have hb_ := hd_.below
      clear hd_ hC7 hc7
      have H108 := Aside0.mk (H106.out.step hb_)
      clear hb_ H106
      refine hK.out _ _ ((blk_cell (by first | exact H108.out.gt0 | exact H108.out.gt1 | exact H108.out.gt2) 6).trans (by unfold bytesV; rw [List.getElem?_toArray, List.getElem?_map, H6.out]; rfl)) (fun hHeld => ?_)
      clear hK K
      refine norm_ (a' := ?_) ?_ ?_
      rotate_left
      · show Act.put _ (some 6) _ = _
        simp only [Act.put, List.setIfInBounds_toArray, List.set_cons_zero, List.set_cons_succ, i64_w, i32_w]
        rfl
      refine pure_ (i := 2) (N := some 7) (v := ?_) (a' := ?_) #[true, true, true, true, true, true, true, false, false, true, false, false, false, false, false] rfl rfl (by kernel_rfl) (fun _ _ _ h => h) (Or.inl ⟨by rfl, ?_⟩) ?_ ?_
      rotate_left
      · intro w'
        go_simp
        with_reducible rfl
      rotate_left
      · simp only [Act.put, List.setIfInBounds_toArray, List.set_cons_zero, List.set_cons_succ, i64_w, i32_w]
        rfl
      refine two_ (i := 7) (j := 13) (Ni := some 12) (Nj := some 4) #[true, true, true, true, true, true, true, true, false, true, false, false, false, false, false] #[true, true, true, true, true, true, true, false, false, true, false, false, false, true, false] rfl rfl rfl rfl (by kernel_rfl) (by decide) (by decide) (fun K hK => ?_) (fun K hK => ?_)
      · skip
        refine goes_ Try.func90 (by kernel_rfl) rfl #[.slice (some ⟨g1, 0, none⟩) 64 64, .int .i64 8, .int .i64 4] (by rfl) rfl rfl (by (try simp only [List.map_toArray, List.map_cons, List.map_nil]); first | done | rfl) ?_
        have hC9 : Kd.C (Kd.int .u8) w107 (some ⟨g1, 0, none⟩) l.length l := (Kd.R_reads' (R_arr (base := 0) (l := l) H108.out.gt1 (Nat.zero_le _) (by rw [HL.out]; decide))).2.2
        have hc9 := impl_get.calls ka _ 64 l 8 4 a _ hC9 (by rw [HL.out]; decide) HA.out
        rw [HL.out] at hc9
        refine hc9.mono ?_
        rintro e w109 ⟨rfl, hd_⟩
        refine ⟨_, rfl, ?_⟩
        have hb_ := hd_.below
        clear hd_ hC9 hc9
        have H110 := Aside0.mk (H108.out.step hb_)
        clear hb_ H108
        refine hK.out _ _ ((blk_cell (by first | exact H110.out.gt0 | exact H110.out.gt1 | exact H110.out.gt2) 6).trans (by unfold bytesV; rw [List.getElem?_toArray, List.getElem?_map, H6.out]; rfl)) (fun hHeld => ?_)
        clear hK K
        refine norm_ (a' := ?_) ?_ ?_
        rotate_left
        · show Act.put _ (some 12) _ = _
          simp only [Act.put, List.setIfInBounds_toArray, List.set_cons_zero, List.set_cons_succ, i64_w, i32_w]
          rfl
        refine pure_ (i := 8) (N := some 13) (v := ?_) (a' := ?_) #[true, true, true, true, true, true, true, true, true, true, false, false, false, false, false] rfl rfl (by kernel_rfl) (fun _ _ _ h => h) (Or.inl ⟨by rfl, ?_⟩) ?_ ?_
        rotate_left
        · intro w'
          go_simp
          with_reducible rfl
        rotate_left
        · simp only [Act.put, List.setIfInBounds_toArray, List.set_cons_zero, List.set_cons_succ, i64_w, i32_w]
          rfl
        refine two_ (i := 10) (j := 13) (Ni := some 15) (Nj := some 4) #[true, true, true, true, true, true, true, true, true, true, true, false, false, false, false] #[true, true, true, true, true, true, true, true, true, true, false, false, false, true, false] rfl rfl rfl rfl (by kernel_rfl) (by decide) (by decide) (fun K hK => ?_) (fun K hK => ?_)
        · skip
          refine goes_ Try.func90 (by kernel_rfl) rfl #[.slice (some ⟨g1, 0, none⟩) 64 64, .int .i64 12, .int .i64 4] (by rfl) rfl rfl (by (try simp only [List.map_toArray, List.map_cons, List.map_nil]); first | done | rfl) ?_
          have hC11 : Kd.C (Kd.int .u8) w109 (some ⟨g1, 0, none⟩) l.length l := (Kd.R_reads' (R_arr (base := 0) (l := l) H110.out.gt1 (Nat.zero_le _) (by rw [HL.out]; decide))).2.2
          have hc11 := impl_get.calls kb _ 64 l 12 4 b _ hC11 (by rw [HL.out]; decide) HBb.out
          rw [HL.out] at hc11
          refine hc11.mono ?_
          rintro e w111 ⟨rfl, hd_⟩
          refine ⟨_, rfl, ?_⟩
          have hb_ := hd_.below
          clear hd_ hC11 hc11
          have H112 := Aside0.mk (H110.out.step hb_)
          clear hb_ H110
          refine hK.out _ _ ((blk_cell (by first | exact H112.out.gt0 | exact H112.out.gt1 | exact H112.out.gt2) 6).trans (by unfold bytesV; rw [List.getElem?_toArray, List.getElem?_map, H6.out]; rfl)) (fun hHeld => ?_)
          clear hK K
          refine norm_ (a' := ?_) ?_ ?_
          rotate_left
          · show Act.put _ (some 15) _ = _
            simp only [Act.put, List.setIfInBounds_toArray, List.set_cons_zero, List.set_cons_succ, i64_w, i32_w]
            rfl
          refine pure_ (i := 11) (N := some 16) (v := ?_) (a' := ?_) #[true, true, true, true, true, true, true, true, true, true, true, true, false, false, false] rfl rfl (by kernel_rfl) (fun _ _ _ h => h) (Or.inl ⟨by rfl, ?_⟩) ?_ ?_
          rotate_left
          · intro w'
            go_simp
            with_reducible rfl
          rotate_left
          · simp only [Act.put, List.setIfInBounds_toArray, List.set_cons_zero, List.set_cons_succ, i64_w, i32_w]
            rfl
          refine pure_ (i := 12) (N := some 17) (v := ?_) (a' := ?_) #[true, true, true, true, true, true, true, true, true, true, true, true, true, false, false] rfl rfl (by kernel_rfl) (fun _ _ _ h => h) (Or.inl ⟨by rfl, ?_⟩) ?_ ?_
          rotate_left
          · intro w'
            go_simp
            with_reducible rfl
          rotate_left
          · simp only [Act.put, List.setIfInBounds_toArray, List.set_cons_zero, List.set_cons_succ, i64_w, i32_w]
            rfl
          refine one_ (i := 13) (N := some 4) #[true, true, true, true, true, true, true, true, true, true, true, true, true, true, false] rfl rfl (by kernel_rfl) (by decide) (fun K hK => ?_)
          refine box_step ?hg13 (N := 4) ?hd13 (cs := #[.int .u32 0, .int .i64 0, .int .u32 0, .int .u32 0]) (t := 27) ?hr13 ?_
          case hd13 => rfl
          case hg13 => rfl
          case hr13 => first | (go_simp; done) | (go_simp; rfl)
          intro g4 hg4_ w113 hb13 hB13
          have H114 := Aside0.mk (H112.out.new hg4_ hb13 hB13)
          clear hg4_ hb13 hB13 H112
          refine hK.out _ _ ((blk_cell (by first | exact H114.out.gt0 | exact H114.out.gt1 | exact H114.out.gt2) 6).trans (by unfold bytesV; rw [List.getElem?_toArray, List.getElem?_map, H6.out]; rfl)) (fun hHeld => ?_)
          clear hK K
          refine norm_ (a' := ?_) ?_ ?_
          rotate_left
          · show Act.put _ (some 4) _ = _
            simp only [Act.put, List.setIfInBounds_toArray, List.set_cons_zero, List.set_cons_succ, i64_w, i32_w]
            rfl
          exact norm_ (by simp only [putAll, Act.put, List.setIfInBounds_toArray, List.set_cons_zero, List.set_cons_succ]) (hCont g4 _ ⟨hHeld, H114.out⟩)
        · skip
          refine box_step ?hg15 (N := 4) ?hd15 (cs := #[.int .u32 0, .int .i64 0, .int .u32 0, .int .u32 0]) (t := 27) ?hr15 ?_
          case hd15 => rfl
          case hg15 => rfl
          case hr15 => first | (go_simp; done) | (go_simp; rfl)
          intro g4 hg4_ w115 hb15 hB15
          have H116 := Aside0.mk (H110.out.new hg4_ hb15 hB15)
          clear hg4_ hb15 hB15 H110
          refine hK.out _ _ ((blk_cell (by first | exact H116.out.gt0 | exact H116.out.gt1 | exact H116.out.gt2) 6).trans (by unfold bytesV; rw [List.getElem?_toArray, List.getElem?_map, H6.out]; rfl)) (fun hHeld => ?_)
          clear hK K
          refine norm_ (a' := ?_) ?_ ?_
          rotate_left
          · show Act.put _ (some 4) _ = _
            simp only [Act.put, List.setIfInBounds_toArray, List.set_cons_zero, List.set_cons_succ, i64_w, i32_w]
            rfl
          refine one_ (i := 10) (N := some 15) #[true, true, true, true, true, true, true, true, true, true, true, false, false, true, false] rfl rfl (by kernel_rfl) (by decide) (fun K hK => ?_)
          refine goes_ Try.func90 (by kernel_rfl) rfl #[.slice (some ⟨g1, 0, none⟩) 64 64, .int .i64 12, .int .i64 4] (by rfl) rfl rfl (by (try simp only [List.map_toArray, List.map_cons, List.map_nil]); first | done | rfl) ?_
          have hC17 : Kd.C (Kd.int .u8) w115 (some ⟨g1, 0, none⟩) l.length l := (Kd.R_reads' (R_arr (base := 0) (l := l) H116.out.gt2 (Nat.zero_le _) (by rw [HL.out]; decide))).2.2
          have hc17 := impl_get.calls kb _ 64 l 12 4 b _ hC17 (by rw [HL.out]; decide) HBb.out
          rw [HL.out] at hc17
          refine hc17.mono ?_
          rintro e w117 ⟨rfl, hd_⟩
          refine ⟨_, rfl, ?_⟩
          have hb_ := hd_.below
          clear hd_ hC17 hc17
          have H118 := Aside0.mk (H116.out.step hb_)
          clear hb_ H116
          refine hK.out _ _ ((blk_cell (by first | exact H118.out.gt0 | exact H118.out.gt1 | exact H118.out.gt2) 6).trans (by unfold bytesV; rw [List.getElem?_toArray, List.getElem?_map, H6.out]; rfl)) (fun hHeld => ?_)
          clear hK K
          refine norm_ (a' := ?_) ?_ ?_
          rotate_left
          · show Act.put _ (some 15) _ = _
            simp only [Act.put, List.setIfInBounds_toArray, List.set_cons_zero, List.set_cons_succ, i64_w, i32_w]
            rfl
          refine pure_ (i := 11) (N := some 16) (v := ?_) (a' := ?_) #[true, true, true, true, true, true, true, true, true, true, true, true, false, true, false] rfl rfl (by kernel_rfl) (fun _ _ _ h => h) (Or.inl ⟨by rfl, ?_⟩) ?_ ?_
          rotate_left
          · intro w'
            go_simp
            with_reducible rfl
          rotate_left
          · simp only [Act.put, List.setIfInBounds_toArray, List.set_cons_zero, List.set_cons_succ, i64_w, i32_w]
            rfl
          refine pure_ (i := 12) (N := some 17) (v := ?_) (a' := ?_) #[true, true, true, true, true, true, true, true, true, true, true, true, true, true, false] rfl rfl (by kernel_rfl) (fun _ _ _ h => h) (Or.inl ⟨by rfl, ?_⟩) ?_ ?_
          rotate_left
          · intro w'
            go_simp
            with_reducible rfl
          rotate_left
          · simp only [Act.put, List.setIfInBounds_toArray, List.set_cons_zero, List.set_cons_succ, i64_w, i32_w]
            rfl
          exact norm_ (by simp only [putAll, Act.put, List.setIfInBounds_toArray, List.set_cons_zero, List.set_cons_succ]) (hCont g4 _ ⟨hHeld, H118.out⟩)
      · skip
        refine box_step ?hg19 (N := 4) ?hd19 (cs := #[.int .u32 0, .int .i64 0, .int .u32 0, .int .u32 0]) (t := 27) ?hr19 ?_
        case hd19 => rfl
        case hg19 => rfl
        case hr19 => first | (go_simp; done) | (go_simp; rfl)
        intro g4 hg4_ w119 hb19 hB19
        have H120 := Aside0.mk (H108.out.new hg4_ hb19 hB19)
        clear hg4_ hb19 hB19 H108
        refine hK.out _ _ ((blk_cell (by first | exact H120.out.gt0 | exact H120.out.gt1 | exact H120.out.gt2) 6).trans (by unfold bytesV; rw [List.getElem?_toArray, List.getElem?_map, H6.out]; rfl)) (fun hHeld => ?_)
        clear hK K
        refine norm_ (a' := ?_) ?_ ?_
        rotate_left
        · show Act.put _ (some 4) _ = _
          simp only [Act.put, List.setIfInBounds_toArray, List.set_cons_zero, List.set_cons_succ, i64_w, i32_w]
          rfl
        refine one_ (i := 7) (N := some 12) #[true, true, true, true, true, true, true, true, false, true, false, false, false, true, false] rfl rfl (by kernel_rfl) (by decide) (fun K hK => ?_)
        refine goes_ Try.func90 (by kernel_rfl) rfl #[.slice (some ⟨g1, 0, none⟩) 64 64, .int .i64 8, .int .i64 4] (by rfl) rfl rfl (by (try simp only [List.map_toArray, List.map_cons, List.map_nil]); first | done | rfl) ?_
        have hC21 : Kd.C (Kd.int .u8) w119 (some ⟨g1, 0, none⟩) l.length l := (Kd.R_reads' (R_arr (base := 0) (l := l) H120.out.gt2 (Nat.zero_le _) (by rw [HL.out]; decide))).2.2
        have hc21 := impl_get.calls ka _ 64 l 8 4 a _ hC21 (by rw [HL.out]; decide) HA.out
        rw [HL.out] at hc21
        refine hc21.mono ?_
        rintro e w121 ⟨rfl, hd_⟩
        refine ⟨_, rfl, ?_⟩
        have hb_ := hd_.below
        clear hd_ hC21 hc21
        have H122 := Aside0.mk (H120.out.step hb_)
        clear hb_ H120
        refine hK.out _ _ ((blk_cell (by first | exact H122.out.gt0 | exact H122.out.gt1 | exact H122.out.gt2) 6).trans (by unfold bytesV; rw [List.getElem?_toArray, List.getElem?_map, H6.out]; rfl)) (fun hHeld => ?_)
        clear hK K
        refine norm_ (a' := ?_) ?_ ?_
        rotate_left
        · show Act.put _ (some 12) _ = _
          simp only [Act.put, List.setIfInBounds_toArray, List.set_cons_zero, List.set_cons_succ, i64_w, i32_w]
          rfl
        refine pure_ (i := 8) (N := some 13) (v := ?_) (a' := ?_) #[true, true, true, true, true, true, true, true, true, true, false, false, false, true, false] rfl rfl (by kernel_rfl) (fun _ _ _ h => h) (Or.inl ⟨by rfl, ?_⟩) ?_ ?_
        rotate_left
        · intro w'
          go_simp
          with_reducible rfl
        rotate_left
        · simp only [Act.put, List.setIfInBounds_toArray, List.set_cons_zero, List.set_cons_succ, i64_w, i32_w]
          rfl
        refine one_ (i := 10) (N := some 15) #[true, true, true, true, true, true, true, true, true, true, true, false, false, true, false] rfl rfl (by kernel_rfl) (by decide) (fun K hK => ?_)
        refine goes_ Try.func90 (by kernel_rfl) rfl #[.slice (some ⟨g1, 0, none⟩) 64 64, .int .i64 12, .int .i64 4] (by rfl) rfl rfl (by (try simp only [List.map_toArray, List.map_cons, List.map_nil]); first | done | rfl) ?_
        have hC23 : Kd.C (Kd.int .u8) w121 (some ⟨g1, 0, none⟩) l.length l := (Kd.R_reads' (R_arr (base := 0) (l := l) H122.out.gt2 (Nat.zero_le _) (by rw [HL.out]; decide))).2.2
        have hc23 := impl_get.calls kb _ 64 l 12 4 b _ hC23 (by rw [HL.out]; decide) HBb.out
        rw [HL.out] at hc23
        refine hc23.mono ?_
        rintro e w123 ⟨rfl, hd_⟩
        refine ⟨_, rfl, ?_⟩
        have hb_ := hd_.below
        clear hd_ hC23 hc23
        have H124 := Aside0.mk (H122.out.step hb_)
        clear hb_ H122
        refine hK.out _ _ ((blk_cell (by first | exact H124.out.gt0 | exact H124.out.gt1 | exact H124.out.gt2) 6).trans (by unfold bytesV; rw [List.getElem?_toArray, List.getElem?_map, H6.out]; rfl)) (fun hHeld => ?_)
        clear hK K
        refine norm_ (a' := ?_) ?_ ?_
        rotate_left
        · show Act.put _ (some 15) _ = _
          simp only [Act.put, List.setIfInBounds_toArray, List.set_cons_zero, List.set_cons_succ, i64_w, i32_w]
          rfl
        refine pure_ (i := 11) (N := some 16) (v := ?_) (a' := ?_) #[true, true, true, true, true, true, true, true, true, true, true, true, false, true, false] rfl rfl (by kernel_rfl) (fun _ _ _ h => h) (Or.inl ⟨by rfl, ?_⟩) ?_ ?_
        rotate_left
        · intro w'
          go_simp
          with_reducible rfl
        rotate_left
        · simp only [Act.put, List.setIfInBounds_toArray, List.set_cons_zero, List.set_cons_succ, i64_w, i32_w]
          rfl
        refine pure_ (i := 12) (N := some 17) (v := ?_) (a' := ?_) #[true, true, true, true, true, true, true, true, true, true, true, true, true, true, false] rfl rfl (by kernel_rfl) (fun _ _ _ h => h) (Or.inl ⟨by rfl, ?_⟩) ?_ ?_
        rotate_left
        · intro w'
          go_simp
          with_reducible rfl
        rotate_left
        · simp only [Act.put, List.setIfInBounds_toArray, List.set_cons_zero, List.set_cons_succ, i64_w, i32_w]
          rfl
        exact norm_ (by simp only [putAll, Act.put, List.setIfInBounds_toArray, List.set_cons_zero, List.set_cons_succ]) (hCont g4 _ ⟨hHeld, H124.out⟩)
    · skip
      refine box_step ?hg25 (N := 4) ?hd25 (cs := #[.int .u32 0, .int .i64 0, .int .u32 0, .int .u32 0]) (t := 27) ?hr25 ?_
      case hd25 => rfl
      case hg25 => rfl
      case hr25 => first | (go_simp; done) | (go_simp; rfl)
      intro g4 hg4_ w125 hb25 hB25
      have H126 := Aside0.mk (H106.out.new hg4_ hb25 hB25)
      clear hg4_ hb25 hB25 H106
      refine hK.out _ _ ((blk_cell (by first | exact H126.out.gt0 | exact H126.out.gt1 | exact H126.out.gt2) 6).trans (by unfold bytesV; rw [List.getElem?_toArray, List.getElem?_map, H6.out]; rfl)) (fun hHeld => ?_)
      clear hK K
      refine norm_ (a' := ?_) ?_ ?_
      rotate_left
      · show Act.put _ (some 4) _ = _
        simp only [Act.put, List.setIfInBounds_toArray, List.set_cons_zero, List.set_cons_succ, i64_w, i32_w]
        rfl
      refine one_ (i := 1) (N := some 6) #[true, true, false, true, true, true, true, false, false, true, false, false, false, true, false] rfl rfl (by kernel_rfl) (by decide) (fun K hK => ?_)
      refine goes_ Try.func90 (by kernel_rfl) rfl #[.slice (some ⟨g1, 0, none⟩) 64 64, .int .i64 0, .int .i64 4] (by rfl) rfl rfl (by (try simp only [List.map_toArray, List.map_cons, List.map_nil]); first | done | rfl) ?_
      have hC27 : Kd.C (Kd.int .u8) w125 (some ⟨g1, 0, none⟩) l.length l := (Kd.R_reads' (R_arr (base := 0) (l := l) H126.out.gt2 (Nat.zero_le _) (by rw [HL.out]; decide))).2.2
      have hc27 := impl_get.calls kq _ 64 l 0 4 q _ hC27 (by rw [HL.out]; decide) HQ.out
      rw [HL.out] at hc27
      refine hc27.mono ?_
      rintro e w127 ⟨rfl, hd_⟩
      refine ⟨_, rfl, ?_⟩
      have hb_ := hd_.below
      clear hd_ hC27 hc27
      have H128 := Aside0.mk (H126.out.step hb_)
      clear hb_ H126
      refine hK.out _ _ ((blk_cell (by first | exact H128.out.gt0 | exact H128.out.gt1 | exact H128.out.gt2) 6).trans (by unfold bytesV; rw [List.getElem?_toArray, List.getElem?_map, H6.out]; rfl)) (fun hHeld => ?_)
      clear hK K
      refine norm_ (a' := ?_) ?_ ?_
      rotate_left
      · show Act.put _ (some 6) _ = _
        simp only [Act.put, List.setIfInBounds_toArray, List.set_cons_zero, List.set_cons_succ, i64_w, i32_w]
        rfl
      refine pure_ (i := 2) (N := some 7) (v := ?_) (a' := ?_) #[true, true, true, true, true, true, true, false, false, true, false, false, false, true, false] rfl rfl (by kernel_rfl) (fun _ _ _ h => h) (Or.inl ⟨by rfl, ?_⟩) ?_ ?_
      rotate_left
      · intro w'
        go_simp
        with_reducible rfl
      rotate_left
      · simp only [Act.put, List.setIfInBounds_toArray, List.set_cons_zero, List.set_cons_succ, i64_w, i32_w]
        rfl
      refine one_ (i := 7) (N := some 12) #[true, true, true, true, true, true, true, true, false, true, false, false, false, true, false] rfl rfl (by kernel_rfl) (by decide) (fun K hK => ?_)
      refine goes_ Try.func90 (by kernel_rfl) rfl #[.slice (some ⟨g1, 0, none⟩) 64 64, .int .i64 8, .int .i64 4] (by rfl) rfl rfl (by (try simp only [List.map_toArray, List.map_cons, List.map_nil]); first | done | rfl) ?_
      have hC29 : Kd.C (Kd.int .u8) w127 (some ⟨g1, 0, none⟩) l.length l := (Kd.R_reads' (R_arr (base := 0) (l := l) H128.out.gt2 (Nat.zero_le _) (by rw [HL.out]; decide))).2.2
      have hc29 := impl_get.calls ka _ 64 l 8 4 a _ hC29 (by rw [HL.out]; decide) HA.out
      rw [HL.out] at hc29
      refine hc29.mono ?_
      rintro e w129 ⟨rfl, hd_⟩
      refine ⟨_, rfl, ?_⟩
      have hb_ := hd_.below
      clear hd_ hC29 hc29
      have H130 := Aside0.mk (H128.out.step hb_)
      clear hb_ H128
      refine hK.out _ _ ((blk_cell (by first | exact H130.out.gt0 | exact H130.out.gt1 | exact H130.out.gt2) 6).trans (by unfold bytesV; rw [List.getElem?_toArray, List.getElem?_map, H6.out]; rfl)) (fun hHeld => ?_)
      clear hK K
      refine norm_ (a' := ?_) ?_ ?_
      rotate_left
      · show Act.put _ (some 12) _ = _
        simp only [Act.put, List.setIfInBounds_toArray, List.set_cons_zero, List.set_cons_succ, i64_w, i32_w]
        rfl
      refine pure_ (i := 8) (N := some 13) (v := ?_) (a' := ?_) #[true, true, true, true, true, true, true, true, true, true, false, false, false, true, false] rfl rfl (by kernel_rfl) (fun _ _ _ h => h) (Or.inl ⟨by rfl, ?_⟩) ?_ ?_
      rotate_left
      · intro w'
        go_simp
        with_reducible rfl
      rotate_left
      · simp only [Act.put, List.setIfInBounds_toArray, List.set_cons_zero, List.set_cons_succ, i64_w, i32_w]
        rfl
      refine one_ (i := 10) (N := some 15) #[true, true, true, true, true, true, true, true, true, true, true, false, false, true, false] rfl rfl (by kernel_rfl) (by decide) (fun K hK => ?_)
      refine goes_ Try.func90 (by kernel_rfl) rfl #[.slice (some ⟨g1, 0, none⟩) 64 64, .int .i64 12, .int .i64 4] (by rfl) rfl rfl (by (try simp only [List.map_toArray, List.map_cons, List.map_nil]); first | done | rfl) ?_
      have hC31 : Kd.C (Kd.int .u8) w129 (some ⟨g1, 0, none⟩) l.length l := (Kd.R_reads' (R_arr (base := 0) (l := l) H130.out.gt2 (Nat.zero_le _) (by rw [HL.out]; decide))).2.2
      have hc31 := impl_get.calls kb _ 64 l 12 4 b _ hC31 (by rw [HL.out]; decide) HBb.out
      rw [HL.out] at hc31
      refine hc31.mono ?_
      rintro e w131 ⟨rfl, hd_⟩
      refine ⟨_, rfl, ?_⟩
      have hb_ := hd_.below
      clear hd_ hC31 hc31
      have H132 := Aside0.mk (H130.out.step hb_)
      clear hb_ H130
      refine hK.out _ _ ((blk_cell (by first | exact H132.out.gt0 | exact H132.out.gt1 | exact H132.out.gt2) 6).trans (by unfold bytesV; rw [List.getElem?_toArray, List.getElem?_map, H6.out]; rfl)) (fun hHeld => ?_)
      clear hK K
      refine norm_ (a' := ?_) ?_ ?_
      rotate_left
      · show Act.put _ (some 15) _ = _
        simp only [Act.put, List.setIfInBounds_toArray, List.set_cons_zero, List.set_cons_succ, i64_w, i32_w]
        rfl
      refine pure_ (i := 11) (N := some 16) (v := ?_) (a' := ?_) #[true, true, true, true, true, true, true, true, true, true, true, true, false, true, false] rfl rfl (by kernel_rfl) (fun _ _ _ h => h) (Or.inl ⟨by rfl, ?_⟩) ?_ ?_
      rotate_left
      · intro w'
        go_simp
        with_reducible rfl
      rotate_left
      · simp only [Act.put, List.setIfInBounds_toArray, List.set_cons_zero, List.set_cons_succ, i64_w, i32_w]
        rfl
      refine pure_ (i := 12) (N := some 17) (v := ?_) (a' := ?_) #[true, true, true, true, true, true, true, true, true, true, true, true, true, true, false] rfl rfl (by kernel_rfl) (fun _ _ _ h => h) (Or.inl ⟨by rfl, ?_⟩) ?_ ?_
      rotate_left
      · intro w'
        go_simp
        with_reducible rfl
      rotate_left
      · simp only [Act.put, List.setIfInBounds_toArray, List.set_cons_zero, List.set_cons_succ, i64_w, i32_w]
        rfl
      exact norm_ (by simp only [putAll, Act.put, List.setIfInBounds_toArray, List.set_cons_zero, List.set_cons_succ]) (hCont g4 _ ⟨hHeld, H132.out⟩)
  rintro g4 w133 ⟨hHeld, hX_⟩
  have H134 := Aside0.mk hX_
  clear hX_ H106
  refine norm_ (a' := ?_) ?_ ?_
  rotate_left
  · simp only [putAll, Act.put, List.setIfInBounds_toArray, List.set_cons_zero, List.set_cons_succ]
    rfl
  refine last_ (i := 14) (N := none) #[true, true, true, true, true, true, true, true, true, true, true, true, true, true, true] rfl rfl (by kernel_rfl) (by decide) (fun K hK => ?_)
  refine st_step (by rfl) rfl rfl ?hp35 (cs := #[.int .u32 q, .int .i64 kd, .int .u32 a, .int .u32 b]) ?hx35 H134.out.gt0 (by kernel_rfl) (rfl) (by simp [Value.oneCell']) ?_
  case hp35 => rfl
  case hx35 => rfl
  intro w135 hb35 hS35
  have H136 := Aside0.mk (H134.out.wr0 (cs' := #[.int .u32 q, .int .i64 kd, .int .u32 a, .int .u32 b]) hb35 hS35)
  clear hb35 hS35 H134
  refine hK.out _ _ ?_
  clear hK K
  refine done_ (by kernel_rfl) ?_
  try go_wp2
  have H138 := Aside0.mk H136.out.drew
  refine start_ (n := 9) (S := fun w' => w'.heap[g4]? = some (.cells #[.int .u32 q, .int .i64 kd, .int .u32 a, .int .u32 b] 27 (0, 0)) ∧ w'.heap[g1]? = some (.cells (bytesV l).toArray 79 (0, 0))) (ds := []) #[false, false, false, false, false, false, false, false, false] (by kernel_rfl) rfl rfl ⟨H138.out.gt0, H138.out.gt2⟩ (fun hHeld => ?_)
  clear H136
  generalize w135.drew = w137 at H138 hHeld ⊢
  refine take_ (i := 0) (N := some 18) (v := .agg #[.int .u32 q, .int .i64 kd, .int .u32 a, .int .u32 b]) (a' := ?_) #[true, false, false, false, false, false, false, false, false] rfl rfl (by kernel_rfl) (fun _ _ _ h => h) (Or.inl ⟨by rfl, ?yl39⟩) hHeld ?ha39 ?hh39
  case yl39 =>
    rintro w' ⟨s0, s1⟩
    exact ld_run (x := .tmp 4) (by rfl) (by rfl) s0 Try.underlying27 rfl (by kernel_rfl)
  case ha39 =>
    simp only [Act.put, List.setIfInBounds_toArray, List.set_cons_zero, List.set_cons_succ, i64_w, i32_w]
    rfl
  refine one_ (i := 1) (N := some 19) #[true, true, false, false, false, false, false, false, false] rfl rfl (by kernel_rfl) (by decide) (fun K hK => ?_)
  refine goes_ Try.func51 (by kernel_rfl) rfl #[.agg #[.int .u32 q, .int .i64 kd, .int .u32 a, .int .u32 b]] (by rfl) rfl rfl (by (try simp only [List.map_toArray, List.map_cons, List.map_nil]); first | done | rfl) ?_
  refine (impl_Frame_good.calls q kd a b _ _ HGd.out).mono ?_
  rintro e w140 ⟨rfl, hb_⟩
  refine ⟨_, rfl, ?_⟩
  have H141 := Aside0.mk (H138.out.step hb_)
  clear hb_ H138
  refine hK.out _ _ ⟨H141.out.gt0, H141.out.gt2⟩ (fun hHeld => ?_)
  clear hK K
  refine norm_ (a' := ?_) ?_ ?_
  rotate_left
  · show Act.put _ (some 19) _ = _
    simp only [Act.put, List.setIfInBounds_toArray, List.set_cons_zero, List.set_cons_succ, i64_w, i32_w]
    rfl
  by_cases hk : 1 ≤ kd ∧ kd ≤ 3
  · rw [decide_eq_true hk]
    have HK := Aside0.mk hk
    clear hk
    refine pure_ (i := 2) (N := some 20) (v := ?_) (a' := ?_) #[true, true, true, false, false, false, false, false, false] rfl rfl (by kernel_rfl) (fun _ _ _ h => h) (Or.inl ⟨by rfl, ?_⟩) ?_ ?_
    rotate_left
    · intro w'
      go_simp
      with_reducible rfl
    rotate_left
    · simp only [Act.put, List.setIfInBounds_toArray, List.set_cons_zero, List.set_cons_succ, i64_w, i32_w]
      rfl
    refine pure_ (i := 3) (N := some 21) (v := ?_) (a' := ?_) #[true, true, true, true, false, false, false, false, false] rfl rfl (by kernel_rfl) (fun _ _ _ h => h) (Or.inl ⟨by rfl, ?_⟩) ?_ ?_
    rotate_left
    · intro w'
      go_simp
      with_reducible rfl
    rotate_left
    · simp only [Act.put, List.setIfInBounds_toArray, List.set_cons_zero, List.set_cons_succ, i64_w, i32_w]
      rfl
    refine take_ (i := 4) (N := some 22) (v := .agg #[.int .u32 q, .int .i64 kd, .int .u32 a, .int .u32 b]) (a' := ?_) #[true, true, true, true, true, false, false, false, false] rfl rfl (by kernel_rfl) (fun _ _ _ h => h) (Or.inl ⟨by rfl, ?yl42⟩) hHeld ?ha42 ?hh42
    case yl42 =>
      rintro w' ⟨s0, s1⟩
      exact ld_run (x := .tmp 4) (by rfl) (by rfl) s0 Try.underlying27 rfl (by kernel_rfl)
    case ha42 =>
      simp only [Act.put, List.setIfInBounds_toArray, List.set_cons_zero, List.set_cons_succ, i64_w, i32_w]
      rfl
    refine take_ (i := 6) (N := some 24) (v := .agg (bytesV l).toArray) (a' := ?_) #[true, true, true, true, true, false, true, false, false] rfl rfl (by kernel_rfl) (fun _ _ _ h => h) (Or.inl ⟨by rfl, ?yl43⟩) hHeld ?ha43 ?hh43
    case yl43 =>
      rintro w' ⟨s0, s1⟩
      exact ld_run (x := .tmp 1) (by rfl) (by rfl) s1 Try.underlying79 rfl (by rw [List.size_toArray, bytesV_length, HL.out]; kernel_rfl)
    case ha43 =>
      simp only [Act.put, List.setIfInBounds_toArray, List.set_cons_zero, List.set_cons_succ, i64_w, i32_w]
      rfl
    refine one_ (i := 5) (N := some 23) #[true, true, true, true, true, true, true, false, false] rfl rfl (by kernel_rfl) (by decide) (fun K hK => ?_)
    refine goes_ Try.func52 (by kernel_rfl) rfl #[.agg #[.int .u32 q, .int .i64 kd, .int .u32 a, .int .u32 b]] (by rfl) rfl rfl (by (try simp only [List.map_toArray, List.map_cons, List.map_nil]); first | done | rfl) ?_
    refine (code_calls RQ.out RA.out RB.out).mono ?_
    rintro e w144 ⟨rfl, hb_⟩
    refine ⟨_, rfl, ?_⟩
    have H145 := Aside0.mk (H141.out.step hb_)
    clear hb_ H141
    refine hK.out _ _ ⟨H145.out.gt0, H145.out.gt2⟩ (fun hHeld => ?_)
    clear hK K
    refine norm_ (a' := ?_) ?_ ?_
    rotate_left
    · show Act.put _ (some 23) _ = _
      simp only [Act.put, List.setIfInBounds_toArray, List.set_cons_zero, List.set_cons_succ, i64_w, i32_w]
      rfl
    obtain ⟨i5, hi5, _, hsz5, _⟩ := info_parts info5
    have hne := fun W => neq_arr (P := Try.prog) (w := W) Try.underlying79 Try.underlying5 hi5 (by kernel_rfl) (frameCode_length q kd a b) HL.out
    refine pure_ (i := 7) (N := some 25) (v := ?_) (a' := ?_) #[true, true, true, true, true, true, true, true, false] rfl rfl (by kernel_rfl) (fun _ _ _ h => h) (Or.inl ⟨by rfl, ?_⟩) ?_ ?_
    rotate_left
    · intro w'
      go_simp
      first | with_reducible rfl | rfl
    rotate_left
    · simp only [Act.put, List.setIfInBounds_toArray, List.set_cons_zero, List.set_cons_succ, i64_w, i32_w]
      rfl
    refine pure_ (i := 8) (N := some 26) (v := ?_) (a' := ?_) #[true, true, true, true, true, true, true, true, true] rfl rfl (by kernel_rfl) (fun _ _ _ h => h) (Or.inl ⟨by rfl, ?_⟩) ?_ ?_
    rotate_left
    · intro w'
      go_simp
      with_reducible rfl
    rotate_left
    · simp only [Act.put, List.setIfInBounds_toArray, List.set_cons_zero, List.set_cons_succ, i64_w, i32_w]
      rfl
    refine done_ (by kernel_rfl) ?_
    clear hne
    clear hi5 hsz5 hHeld
    by_cases hc : frameCode q kd a b = l
    · rw [decide_eq_true hc]
      have HC := Aside0.mk hc
      clear hc
      go_wp2_with (first | ((with_reducible refine gate_dst (N := 28) rfl ?_); refine Aside0.out ?_))
      refine Aside0.mk ?_
      refine ld ?hw46 rfl ?hx46 H145.out.gt0 Try.underlying27 rfl (by kernel_rfl) ?_
      case hw46 => rfl
      case hx46 => rfl
      go_wp2_with (first | ((with_reducible refine gate_store (t := 27) (p := 2) rfl ?_); refine Aside0.out ?_))
      refine Aside0.mk ?_
      refine st_all ?hw47 ?hN47 rfl ?hp47 (cs := #[.int .u32 q, .int .i64 kd, .int .u32 a, .int .u32 b]) ?hx47 H145.out.gt1 (by kernel_rfl) rfl (by simp [Value.oneCell']) ?_
      case hw47 => rfl
      case hN47 => rfl
      case hp47 => rfl
      case hx47 => first | rfl | (go_simp; rfl)
      intro w147 hb47 hS47
      have H148 := Aside0.mk (H145.out.wr1 (cs' := #[.int .u32 q, .int .i64 kd, .int .u32 a, .int .u32 b]) hb47 hS47)
      clear hb47 hS47 H145
      go_wp2
      refine bodyPost_ret (results_ct rfl _ _ g2 27 #[.int .u32 q, .int .i64 kd, .int .u32 a, .int .u32 b] (0, 0) _ rfl H148.out.gt1 Try.underlying27 rfl (by kernel_rfl)) rfl ?_
      exact ⟨by rw [HR.out, decide_eq_true ⟨HK.out, HC.out⟩]; rfl, H148.out.below⟩
    · rw [decide_eq_false hc]
      have HC := Aside0.mk hc
      clear hc
      go_wp2_with (first | ((with_reducible refine gate_store (t := 27) (p := 2) rfl ?_); refine Aside0.out ?_))
      refine Aside0.mk ?_
      refine st_all ?hw46 ?hN46 rfl ?hp46 (cs := #[.int .u32 0, .int .i64 0, .int .u32 0, .int .u32 0]) ?hx46 H145.out.gt1 (by kernel_rfl) rfl (by simp [Value.oneCell']) ?_
      case hw46 => rfl
      case hN46 => rfl
      case hp46 => rfl
      case hx46 => first | rfl | (go_simp; rfl)
      intro w146 hb46 hS46
      have H147 := Aside0.mk (H145.out.wr1 (cs' := #[.int .u32 0, .int .i64 0, .int .u32 0, .int .u32 0]) hb46 hS46)
      clear hb46 hS46 H145
      go_wp2
      refine bodyPost_ret (results_ct rfl _ _ g2 27 #[.int .u32 0, .int .i64 0, .int .u32 0, .int .u32 0] (0, 0) _ rfl H147.out.gt1 Try.underlying27 rfl (by kernel_rfl)) rfl ?_
      exact ⟨by rw [HR.out, decide_eq_false (fun h => HC.out h.2)]; rfl, H147.out.below⟩
  · rw [decide_eq_false hk]
    have HK := Aside0.mk hk
    clear hk
    refine pure_ (i := 2) (N := some 20) (v := ?_) (a' := ?_) #[true, true, true, false, false, false, false, false, false] rfl rfl (by kernel_rfl) (fun _ _ _ h => h) (Or.inl ⟨by rfl, ?_⟩) ?_ ?_
    rotate_left
    · intro w'
      go_simp
      with_reducible rfl
    rotate_left
    · simp only [Act.put, List.setIfInBounds_toArray, List.set_cons_zero, List.set_cons_succ, i64_w, i32_w]
      rfl
    refine pure_ (i := 3) (N := some 21) (v := ?_) (a' := ?_) #[true, true, true, true, false, false, false, false, false] rfl rfl (by kernel_rfl) (fun _ _ _ h => h) (Or.inl ⟨by rfl, ?_⟩) ?_ ?_
    rotate_left
    · intro w'
      go_simp
      with_reducible rfl
    rotate_left
    · simp only [Act.put, List.setIfInBounds_toArray, List.set_cons_zero, List.set_cons_succ, i64_w, i32_w]
      rfl
    refine pure_ (i := 4) (N := some 22) (v := undef) (a' := ?_) #[true, true, true, true, true, false, false, false, false] rfl rfl (by kernel_rfl) (fun _ _ _ h => h) (Or.inr ⟨by rfl, rfl⟩) ?_ ?_
    rotate_left
    · simp only [Act.put, List.setIfInBounds_toArray, List.set_cons_zero, List.set_cons_succ, i64_w, i32_w]
      rfl
    refine pure_ (i := 6) (N := some 24) (v := undef) (a' := ?_) #[true, true, true, true, true, false, true, false, false] rfl rfl (by kernel_rfl) (fun _ _ _ h => h) (Or.inr ⟨by rfl, rfl⟩) ?_ ?_
    rotate_left
    · simp only [Act.put, List.setIfInBounds_toArray, List.set_cons_zero, List.set_cons_succ, i64_w, i32_w]
      rfl
    refine pure_ (i := 5) (N := some 23) (v := undef) (a' := ?_) #[true, true, true, true, true, true, true, false, false] rfl rfl (by kernel_rfl) (fun _ _ _ h => h) (Or.inr ⟨by rfl, rfl⟩) ?_ ?_
    rotate_left
    · simp only [Act.put, List.setIfInBounds_toArray, List.set_cons_zero, List.set_cons_succ, i64_w, i32_w]
      rfl
    refine pure_ (i := 7) (N := some 25) (v := undef) (a' := ?_) #[true, true, true, true, true, true, true, true, false] rfl rfl (by kernel_rfl) (fun _ _ _ h => h) (Or.inr ⟨by rfl, rfl⟩) ?_ ?_
    rotate_left
    · simp only [Act.put, List.setIfInBounds_toArray, List.set_cons_zero, List.set_cons_succ, i64_w, i32_w]
      rfl
    refine pure_ (i := 8) (N := some 26) (v := ?_) (a' := ?_) #[true, true, true, true, true, true, true, true, true] rfl rfl (by kernel_rfl) (fun _ _ _ h => h) (Or.inl ⟨by rfl, ?_⟩) ?_ ?_
    rotate_left
    · intro w'
      go_simp
      with_reducible rfl
    rotate_left
    · simp only [Act.put, List.setIfInBounds_toArray, List.set_cons_zero, List.set_cons_succ, i64_w, i32_w]
      rfl
    refine done_ (by kernel_rfl) ?_
    clear hHeld
    go_wp2_with (first | ((with_reducible refine gate_store (t := 27) (p := 2) rfl ?_); refine Aside0.out ?_))
    refine Aside0.mk ?_
    refine st_all ?hw42 ?hN42 rfl ?hp42 (cs := #[.int .u32 0, .int .i64 0, .int .u32 0, .int .u32 0]) ?hx42 H141.out.gt1 (by kernel_rfl) rfl (by simp [Value.oneCell']) ?_
    case hw42 => rfl
    case hN42 => rfl
    case hp42 => rfl
    case hx42 => first | rfl | (go_simp; rfl)
    intro w142 hb42 hS42
    have H143 := Aside0.mk (H141.out.wr1 (cs' := #[.int .u32 0, .int .i64 0, .int .u32 0, .int .u32 0]) hb42 hS42)
    clear hb42 hS42 H141
    go_wp2
    refine bodyPost_ret (results_ct rfl _ _ g2 27 #[.int .u32 0, .int .i64 0, .int .u32 0, .int .u32 0] (0, 0) _ rfl H143.out.gt1 Try.underlying27 rfl (by kernel_rfl)) rfl ?_
    exact ⟨by rw [HR.out, decide_eq_false (fun h => HK.out h.1)]; rfl, H143.out.below⟩
theorem frame_calls {l : List Int} {w : World} (hl : l.length = 64) (hu : P.U8s l) :
    Calls Try.prog 55 #[.agg (bytesV l).toArray] w fun e w' => e = .returned (frameOut (decide (isFrame l)) (fSeq l) (fKind l) (fA l) (fB l)) ∧ Below w.heap.size w w' := by
  obtain ⟨kq, hkq⟩ := (P.impl_get_ev l 0 4 hu (by decide) (by decide) (by decide) (by omega) (by omega)).ex
  obtain ⟨ka, hka⟩ := (P.impl_get_ev l 8 4 hu (by decide) (by decide) (by decide) (by omega) (by omega)).ex
  obtain ⟨kb, hkb⟩ := (P.impl_get_ev l 12 4 hu (by decide) (by decide) (by decide) (by omega) (by omega)).ex
  have h6 : l[6]? = some (fKind l) := by unfold fKind; rw [List.getD_eq_getElem?_getD, List.getElem?_eq_getElem (by omega)]; rfl
  exact frame_raw rfl hl h6 hkq hka hkb (num4 hu 0 (by omega)) (num4 hu 8 (by omega)) (num4 hu 12 (by omega)) (hu.at_ h6)

instance (l : List Int) : Decidable (P.U8s l) := by unfold P.U8s; infer_instance
/-- What DecodeFrame answers. -/
def impl_DecodeFrame.f (l0 : List Int) : Option (Bool × Int × Int × Int × Int) :=
  if P.U8s l0 then some (if l0.length = 64 ∧ isFrame l0 then (true, fSeq l0, fKind l0, fA l0, fB l0) else (false, 0, 0, 0, 0)) else none
set_option maxHeartbeats 8000000 in
set_option maxRecDepth 100000 in
theorem impl_DecodeFrame.calls (A0 : Option Addr) (c0 : Nat) (l0 : List Int) (r1 : Bool) (r2 : Int) (r3 : Int) (r4 : Int) (r5 : Int) (w : World) (hr0 : Kd.C (Kd.int .u8) w A0 l0.length l0) (hc0 : l0.length ≤ c0) (h : impl_DecodeFrame.f l0 = some (r1, r2, r3, r4, r5)) :
    Calls Try.prog 19 #[.slice A0 l0.length c0] w fun e w' => e = .returned (.agg #[.bool r1, .int .u32 r2, .int .i64 r3, .int .u32 r4, .int .u32 r5]) ∧ Below w.heap.size w w' := by
  unfold impl_DecodeFrame.f at h
  by_cases hu : P.U8s l0
  case neg => rw [if_neg hu] at h; cases h
  rw [if_pos hu] at h
  have h := Option.some.inj h
  have HU := Aside0.mk hu
  have HR0 := Aside0.mk hr0
  have H := Aside0.mk h
  have H0 := Aside0.mk (Bx.refl w)
  clear hu hr0 h
  go_enter Try.func19, Try.ntmps19
  go_wp2_with (first | ((with_reducible refine gate_dst (N := 2) rfl ?_); refine Aside0.out ?_))
  refine Aside0.mk ?_
  refine mk ?hw1 (N := 2) ?hd1 (cs := #[.bool false, .int .u32 0, .int .i64 0, .int .u32 0, .int .u32 0]) (t := 33) ?hr1 ?_
  case hd1 => rfl
  case hw1 => rfl
  case hr1 => first | (go_simp; done) | (go_simp; rfl)
  intro g2 hg2_ w101 hb1 hB1
  have H102 := Aside0.mk (H0.out.new hg2_ hb1 hB1)
  clear hg2_ hb1 hB1 H0
  by_cases h64 : l0.length = 64
  · have h64b : ((l0.length : Int) != 64) = false := bne_eq_false_iff_eq.mpr (by omega)
    have H64 := Aside0.mk h64
    clear h64
    go_wp2_with (first | ((with_reducible refine gate_callee (f := 54) rfl ?_); refine Aside0.out ?_))
    refine Aside0.mk ?_
    refine goesW (some 11) rfl ?hw3 Try.func54 (by kernel_rfl) rfl #[.slice A0 l0.length c0] rfl (by (try simp only [List.map_toArray, List.map_cons, List.map_nil]); first | done | rfl) ?_
    case hw3 => rfl
    refine (impl_sectorOf.calls (Kd.C_below HR0.out H102.out.below) (if_pos H64.out)).mono ?_
    rintro e w103 ⟨rfl, hb_⟩
    refine ⟨_, rfl, ?_⟩
    have H104 := Aside0.mk (H102.out.step hb_)
    clear hb_ H102
    go_wp2_with (first | ((with_reducible refine gate_callee (f := 55) rfl ?_); refine Aside0.out ?_))
    refine Aside0.mk ?_
    refine goesW (some 12) rfl ?hw5 Try.func55 (by kernel_rfl) rfl #[.agg (bytesV l0).toArray] rfl (by (try simp only [List.map_toArray, List.map_cons, List.map_nil]); first | done | rfl) ?_
    case hw5 => rfl
    refine (frame_calls H64.out HU.out).mono ?_
    rintro e w105 ⟨rfl, hb_⟩
    refine ⟨_, rfl, ?_⟩
    have H106 := Aside0.mk (H104.out.step hb_)
    clear hb_ H104
    by_cases hf : isFrame l0
    · rw [decide_eq_true hf, show frameOut true (fSeq l0) (fKind l0) (fA l0) (fB l0) = .tuple #[.agg #[.int .u32 (fSeq l0), .int .i64 (fKind l0), .int .u32 (fA l0), .int .u32 (fB l0)], .bool true] from rfl]
      have HF := Aside0.mk hf
      clear hf
      go_wp2_with (first | ((with_reducible refine gate_dst (N := 3) rfl ?_); refine Aside0.out ?_))
      refine Aside0.mk ?_
      refine mk ?hw7 (N := 3) ?hd7 (cs := #[.int .u32 0, .int .i64 0, .int .u32 0, .int .u32 0]) (t := 27) ?hr7 ?_
      case hd7 => rfl
      case hw7 => rfl
      case hr7 => first | (go_simp; done) | (go_simp; rfl)
      intro g3 hg3_ w107 hb7 hB7
      have H108 := Aside0.mk (H106.out.new hg3_ hb7 hB7)
      clear hg3_ hb7 hB7 H106
      go_wp2_with (first | ((with_reducible refine gate_store (t := 27) (p := 3) rfl ?_); refine Aside0.out ?_))
      refine Aside0.mk ?_
      refine st_all ?hw9 ?hN9 rfl ?hp9 (cs := #[.int .u32 (fSeq l0), .int .i64 (fKind l0), .int .u32 (fA l0), .int .u32 (fB l0)]) ?hx9 H108.out.gt0 (by kernel_rfl) rfl (by simp [Value.oneCell']) ?_
      case hw9 => rfl
      case hN9 => rfl
      case hp9 => rfl
      case hx9 => first | rfl | (go_simp; rfl)
      intro w109 hb9 hS9
      have H110 := Aside0.mk (H108.out.wr0 (cs' := #[.int .u32 (fSeq l0), .int .i64 (fKind l0), .int .u32 (fA l0), .int .u32 (fB l0)]) hb9 hS9)
      clear hb9 hS9 H108
      go_wp2_with (first | ((with_reducible refine gate_dst (N := 16) rfl ?_); refine Aside0.out ?_))
      refine Aside0.mk ?_
      refine ld ?hw11 rfl ?hx11 H110.out.gt0 Try.underlying27 rfl (by kernel_rfl) ?_
      case hw11 => rfl
      case hx11 => rfl
      go_wp2_with (first | ((with_reducible refine gate_store (t := 33) (p := 2) rfl ?_); refine Aside0.out ?_))
      refine Aside0.mk ?_
      refine st_all ?hw12 ?hN12 rfl ?hp12 (cs := #[.bool true, .int .u32 (fSeq l0), .int .i64 (fKind l0), .int .u32 (fA l0), .int .u32 (fB l0)]) ?hx12 H110.out.gt1 (by kernel_rfl) rfl (by simp [Value.oneCell']) ?_
      case hw12 => rfl
      case hN12 => rfl
      case hp12 => rfl
      case hx12 => first | rfl | (go_simp; rfl)
      intro w112 hb12 hS12
      have H113 := Aside0.mk (H110.out.wr1 (cs' := #[.bool true, .int .u32 (fSeq l0), .int .i64 (fKind l0), .int .u32 (fA l0), .int .u32 (fB l0)]) hb12 hS12)
      clear hb12 hS12 H110
      go_wp2
      refine bodyPost_ret (results_cell_row rfl _ _ g2 33 #[.bool true, .int .u32 (fSeq l0), .int .i64 (fKind l0), .int .u32 (fA l0), .int .u32 (fB l0)] (0, 0) _ rfl H113.out.gt1 Try.underlying33 rfl (by kernel_rfl)) rfl ?_
      have h := H.out
      rw [if_pos ⟨H64.out, HF.out⟩] at h
      cases h
      exact ⟨rfl, H113.out.below⟩
    · rw [decide_eq_false hf, show frameOut false (fSeq l0) (fKind l0) (fA l0) (fB l0) = .tuple #[.agg #[.int .u32 0, .int .i64 0, .int .u32 0, .int .u32 0], .bool false] from rfl]
      have HF := Aside0.mk hf
      clear hf
      go_wp2_with (first | ((with_reducible refine gate_dst (N := 3) rfl ?_); refine Aside0.out ?_))
      refine Aside0.mk ?_
      refine mk ?hw7 (N := 3) ?hd7 (cs := #[.int .u32 0, .int .i64 0, .int .u32 0, .int .u32 0]) (t := 27) ?hr7 ?_
      case hd7 => rfl
      case hw7 => rfl
      case hr7 => first | (go_simp; done) | (go_simp; rfl)
      intro g3 hg3_ w107 hb7 hB7
      have H108 := Aside0.mk (H106.out.new hg3_ hb7 hB7)
      clear hg3_ hb7 hB7 H106
      go_wp2_with (first | ((with_reducible refine gate_store (t := 27) (p := 3) rfl ?_); refine Aside0.out ?_))
      refine Aside0.mk ?_
      refine st_all ?hw9 ?hN9 rfl ?hp9 (cs := #[.int .u32 0, .int .i64 0, .int .u32 0, .int .u32 0]) ?hx9 H108.out.gt0 (by kernel_rfl) rfl (by simp [Value.oneCell']) ?_
      case hw9 => rfl
      case hN9 => rfl
      case hp9 => rfl
      case hx9 => first | rfl | (go_simp; rfl)
      intro w109 hb9 hS9
      have H110 := Aside0.mk (H108.out.wr0 (cs' := #[.int .u32 0, .int .i64 0, .int .u32 0, .int .u32 0]) hb9 hS9)
      clear hb9 hS9 H108
      go_wp2_with (first | ((with_reducible refine gate_dst (N := 16) rfl ?_); refine Aside0.out ?_))
      refine Aside0.mk ?_
      refine ld ?hw11 rfl ?hx11 H110.out.gt0 Try.underlying27 rfl (by kernel_rfl) ?_
      case hw11 => rfl
      case hx11 => rfl
      go_wp2_with (first | ((with_reducible refine gate_store (t := 33) (p := 2) rfl ?_); refine Aside0.out ?_))
      refine Aside0.mk ?_
      refine st_all ?hw12 ?hN12 rfl ?hp12 (cs := #[.bool false, .int .u32 0, .int .i64 0, .int .u32 0, .int .u32 0]) ?hx12 H110.out.gt1 (by kernel_rfl) rfl (by simp [Value.oneCell']) ?_
      case hw12 => rfl
      case hN12 => rfl
      case hp12 => rfl
      case hx12 => first | rfl | (go_simp; rfl)
      intro w112 hb12 hS12
      have H113 := Aside0.mk (H110.out.wr1 (cs' := #[.bool false, .int .u32 0, .int .i64 0, .int .u32 0, .int .u32 0]) hb12 hS12)
      clear hb12 hS12 H110
      go_wp2
      refine bodyPost_ret (results_cell_row rfl _ _ g2 33 #[.bool false, .int .u32 0, .int .i64 0, .int .u32 0, .int .u32 0] (0, 0) _ rfl H113.out.gt1 Try.underlying33 rfl (by kernel_rfl)) rfl ?_
      have h := H.out
      rw [if_neg (fun h => HF.out h.2)] at h
      cases h
      exact ⟨rfl, H113.out.below⟩
  · have h64b : ((l0.length : Int) != 64) = true := bne_iff_ne.mpr (by omega)
    have H64 := Aside0.mk h64
    clear h64
    go_wp2_with (first | ((with_reducible refine gate_store (t := 33) (p := 2) rfl ?_); refine Aside0.out ?_))
    refine Aside0.mk ?_
    refine st_all ?hw3 ?hN3 rfl ?hp3 (cs := #[.bool false, .int .u32 0, .int .i64 0, .int .u32 0, .int .u32 0]) ?hx3 H102.out.gt0 (by kernel_rfl) rfl (by simp [Value.oneCell']) ?_
    case hw3 => rfl
    case hN3 => rfl
    case hp3 => rfl
    case hx3 => first | rfl | (go_simp; rfl)
    intro w103 hb3 hS3
    have H104 := Aside0.mk (H102.out.wr0 (cs' := #[.bool false, .int .u32 0, .int .i64 0, .int .u32 0, .int .u32 0]) hb3 hS3)
    clear hb3 hS3 H102
    go_wp2
    refine bodyPost_ret (results_cell_row rfl _ _ g2 33 #[.bool false, .int .u32 0, .int .i64 0, .int .u32 0, .int .u32 0] (0, 0) _ rfl H104.out.gt0 Try.underlying33 rfl (by kernel_rfl)) rfl ?_
    have h := H.out
    rw [if_neg (fun h => H64.out h.1)] at h
    cases h
    exact ⟨rfl, H104.out.below⟩
end Go.Proofs.Ytgfadfahbhcllaa.Q
namespace Go.Proofs.Ytgfadfahbhcllaa.Q
open Go.RowKit Go.Proofs.YtgfadfahbhcllaaW.PrintWords Go.Proofs.YtgfadfahbhcllaaW.PrintLast Go.Proofs.Ytgfadfahbhcllaa.LK Go.Proofs.YtgfadfahbhcllaaW.PrintMore
attribute [local go_sem] max2_int min2_int max_two min_two max_three min_three max_four min_four   -- for this text's walks alone
set_option linter.unusedVariables false
set_option linter.unusedSimpArgs false

/-! ### spec_l2Four: function 48 -/
def spec_l2Four.f (a0 : Int) : Option (List Int) := some (([(Int.tmod a0 256) % 256, ((Int.tdiv a0 256) % 4294967296) % 256, ((Int.tdiv a0 65536) % 4294967296) % 256, ((Int.tdiv a0 16777216) % 4294967296) % 256] : List Int))
set_option maxHeartbeats 8000000 in
set_option maxRecDepth 100000 in
theorem spec_l2Four.calls (a0 : Int) (r : List Int) (w : World) (h : spec_l2Four.f a0 = some r) :
    Calls Try.prog 48 #[.int .u32 a0] w fun e w' => ∃ v0_ : Value, e = .returned (v0_) ∧ Kd.R (Kd.int .u8) 5 w' w.heap.size (fun _ => True) v0_ r ∧ Below w.heap.size w w' := by
  have HB := Aside0.mk (Below.refl w.heap.size w)
  have H : (some (([(Int.tmod a0 256) % 256, ((Int.tdiv a0 256) % 4294967296) % 256, ((Int.tdiv a0 65536) % 4294967296) % 256, ((Int.tdiv a0 16777216) % 4294967296) % 256] : List Int))) = some r := h
  clear h
  obtain ⟨y101, hy101⟩ : ∃ y_ : List Int, y_ = (([(Int.tmod a0 256) % 256, ((Int.tdiv a0 256) % 4294967296) % 256, ((Int.tdiv a0 65536) % 4294967296) % 256, ((Int.tdiv a0 16777216) % 4294967296) % 256] : List Int)) := ⟨_, rfl⟩
  replace H : (some y101) = some r := by first | (rw [hy101]; with_reducible exact H) | (have H2_ := (Option.bind_some _ _).symm.trans H; rw [hy101]; with_reducible exact H2_) | (have H2_ := (Option.bind_some _ _).symm.trans H; with_reducible exact H2_) | with_reducible exact H | (rw [hy101]; exact H) | exact H
  have Ny101 := Aside0.mk hy101
  clear hy101
  obtain rfl := Option.some.inj H
  go_enter Try.func48, Try.ntmps48
  go_wp2_with (first | ((with_reducible refine gate_dst (N := 17) rfl ?_); refine Kd.R_lit (Kd.int .u8) _ 5 ?hg (N := 17) ?hd (xs := ([(Int.tmod a0 256) % 256, ((Int.tdiv a0 256) % 4294967296) % 256, ((Int.tdiv a0 65536) % 4294967296) % 256, ((Int.tdiv a0 16777216) % 4294967296) % 256] : List Int)) (inner := [.int .u8 ((Int.tmod a0 256) % 256), .int .u8 (((Int.tdiv a0 256) % 4294967296) % 256), .int .u8 (((Int.tdiv a0 65536) % 4294967296) % 256), .int .u8 (((Int.tdiv a0 16777216) % 4294967296) % 256)]) (ok := fun _ => True) (okp := fun _ => True) ?hr ?hp (fun _ hk => hk) trivial (Below.refl _ _) (Nat.le_refl _) (by simp) ?_; (case hd => rfl); (case hg => rfl); (case hr => first | (go_simp; done) | (go_simp; rfl)); (case hp => exact (Reps.one (show Kd.M (Kd.int .u8) _ _ _ ((Int.tmod a0 256) % 256) [.int .u8 ((Int.tmod a0 256) % 256)] from rfl) (Reps.one (show Kd.M (Kd.int .u8) _ _ _ (((Int.tdiv a0 256) % 4294967296) % 256) [.int .u8 (((Int.tdiv a0 256) % 4294967296) % 256)] from rfl) (Reps.one (show Kd.M (Kd.int .u8) _ _ _ (((Int.tdiv a0 65536) % 4294967296) % 256) [.int .u8 (((Int.tdiv a0 65536) % 4294967296) % 256)] from rfl) (Reps.one (show Kd.M (Kd.int .u8) _ _ _ (((Int.tdiv a0 16777216) % 4294967296) % 256) [.int .u8 (((Int.tdiv a0 16777216) % 4294967296) % 256)] from rfl) (Reps.none _ _)))))); intro v102 w2 ho3 hb hg_ hnew_; clear hg_ hnew_; (first | rw [← Ny101.out] at ho3 | (simp only [Int.reduceToNat] at ho3; rw [← Ny101.out] at ho3)); have n0_ := Aside0.mk (Kd.R_lower ho3 (below_size (by repeat (first | (with_reducible first | exact HB.out | apply below_alloc | apply pw_below_drewN | apply below_drew1) | exact HB.out)))); have n1_ := Aside0.mk (below_step (by repeat (first | (with_reducible first | exact HB.out | apply below_alloc | apply pw_below_drewN | apply below_drew1) | exact HB.out)) hb); clear HB; have HO103 := n0_; have HB := n1_; clear n0_ n1_; clear hb ho3))
  go_ret
  exact ⟨_, by first | rfl | (simp [errW_none, errW_some] <;> rfl) | (simp [*, errW_none, errW_some] <;> rfl), by (with_reducible repeat (first | apply Kd.R_alloc | apply Kd.R_drewN | apply Kd.R_drew)); exact HO103.out, by repeat (first | (with_reducible first | exact HB.out | apply below_alloc | apply pw_below_drewN | apply below_drew1) | exact HB.out)⟩

end Go.Proofs.Ytgfadfahbhcllaa.Q
namespace Go.Proofs.Ytgfadfahbhcllaa.Q
open Go.RowKit Go.Proofs.YtgfadfahbhcllaaW.PrintWords Go.Proofs.YtgfadfahbhcllaaW.PrintLast Go.Proofs.Ytgfadfahbhcllaa.LK Go.Proofs.YtgfadfahbhcllaaW.PrintMore
attribute [local go_sem] max2_int min2_int max_two min_two max_three min_three max_four min_four   -- for this text's walks alone
set_option linter.unusedVariables false
set_option linter.unusedSimpArgs false

/-! ### spec_l2Cat: function 47 -/
def spec_l2Cat.l0 : Nat → List (List Int) → List Int → Int → Option (List Int)
  | 0, _, _, _ => none
  | k + 1, x0, x3, x4 => if x4 < (x0.length : Int) then (if 0 ≤ x4 then (if x3.length + (rd_L1 x0 x4).length < 140737488355328 then (spec_l2Cat.l0 k x0 (x3 ++ (rd_L1 x0 x4)) (wrap64 (x4 + 1))) else (none)) else (none)) else (some x3)
def spec_l2Cat.f (k : Nat) (l0 : List (List Int)) : Option (List Int) := spec_l2Cat.l0 k l0 (([] : List Int)) 0
theorem spec_l2Cat.mono_l : ∀ k, (∀ y0 y1 y2, LeO (spec_l2Cat.l0 k y0 y1 y2) (spec_l2Cat.l0 (k + 1) y0 y1 y2))
  | 0 => fun _ _ _ r h => by simp [spec_l2Cat.l0] at h
  | k + 1 => by
    have ih0 := spec_l2Cat.mono_l k
    · intro y0 y1 y2
      unfold spec_l2Cat.l0
      repeat' first
      | (with_reducible exact ih0 _ _ _)
      | (with_reducible exact LeO.refl _)
      | (with_reducible exact LeO.none _)
      | (with_reducible refine LeO.ite ?_ ?_)
      | (with_reducible refine LeO.bind ?_ (fun _ => ?_))
      | exact ih0 _ _ _
      | exact LeO.none _
      | refine LeO.ite ?_ ?_
      | refine LeO.bind ?_ (fun _ => ?_)
theorem spec_l2Cat.mono : ∀ a0 k, LeO (spec_l2Cat.f k a0) (spec_l2Cat.f (k + 1) a0) := by
  intro a0 k
  have ih0 := spec_l2Cat.mono_l k
  unfold spec_l2Cat.f
  repeat' first
      | (with_reducible exact ih0 _ _ _)
      | (with_reducible exact LeO.refl _)
      | (with_reducible exact LeO.none _)
      | (with_reducible refine LeO.ite ?_ ?_)
      | (with_reducible refine LeO.bind ?_ (fun _ => ?_))
      | exact ih0 _ _ _
      | exact LeO.none _
      | refine LeO.ite ?_ ?_
      | refine LeO.bind ?_ (fun _ => ?_)
set_option maxHeartbeats 8000000 in
set_option maxRecDepth 100000 in
theorem spec_l2Cat.calls (k : Nat) (A0 : Option Addr) (c0 : Nat) (l0 : List (List Int)) (r : List Int) (w : World) (hr0 : Kd.C (Kd.slice 5 (Kd.int .u8)) w A0 l0.length l0) (hc0 : l0.length ≤ c0) (h : spec_l2Cat.f k l0 = some r) :
    Calls Try.prog 47 #[.slice A0 l0.length c0] w fun e w' => ∃ v0_ : Value, e = .returned (v0_) ∧ Kd.R (Kd.int .u8) 5 w' w.heap.size (fun _ => True) v0_ r ∧ Below w.heap.size w w' := by
  have HR0 := Aside0.mk hr0
  have HC0 := Aside0.mk hc0
  clear hr0 hc0
  have HB := Aside0.mk (Below.refl w.heap.size w)
  have H : (spec_l2Cat.l0 k l0 (([] : List Int)) 0) = some r := h
  clear h
  obtain ⟨y101, hy101⟩ : ∃ y_ : List Int, y_ = (([] : List Int)) := ⟨_, rfl⟩
  replace H : (spec_l2Cat.l0 k l0 y101 0) = some r := by first | (rw [hy101]; with_reducible exact H) | (have H2_ := (Option.bind_some _ _).symm.trans H; rw [hy101]; with_reducible exact H2_) | (have H2_ := (Option.bind_some _ _).symm.trans H; with_reducible exact H2_) | with_reducible exact H | (rw [hy101]; exact H) | exact H
  have Ny101 := Aside0.mk hy101
  clear hy101
  have H' := Aside0.mk H
  clear H
  go_enter Try.func47, Try.ntmps47
  go_wp2_with (first | ((with_reducible refine gate_dst (N := 5) rfl ?_); refine Kd.R_lit (Kd.int .u8) _ 5 ?hg (N := 5) ?hd (xs := ([] : List Int)) (inner := []) (ok := fun _ => True) (okp := fun _ => True) ?hr ?hp (fun _ hk => hk) trivial (Below.refl _ _) (Nat.le_refl _) (by simp) ?_; (case hd => rfl); (case hg => rfl); (case hr => first | (go_simp; done) | (go_simp; rfl)); (case hp => exact (Reps.none _ _)); intro v102 w2 ho3 hb hg_ hnew_; clear hg_ hnew_; (first | rw [← Ny101.out] at ho3 | (simp only [Int.reduceToNat] at ho3; rw [← Ny101.out] at ho3)); have n0_ := Aside0.mk (Kd.R_lower ho3 (below_size (by repeat (first | (with_reducible first | exact HB.out | apply below_alloc | apply pw_below_drewN | apply below_drew1) | exact HB.out)))); have n1_ := Aside0.mk (below_step (by repeat (first | (with_reducible first | exact HB.out | apply below_alloc | apply pw_below_drewN | apply below_drew1) | exact HB.out)) hb); clear HB; have HO103 := n0_; have HB := n1_; clear n0_ n1_; clear hb ho3))
  go_loopg [3, 4] k (fun kq v3 v4 w' => ∃ (x3_1 : List Int) (x4_1 : Int), v4 = .int .i64 x4_1 ∧ Aside0 (spec_l2Cat.l0 kq l0 x3_1 x4_1 = some r) ∧ Aside0 (kq ≤ k) ∧ Aside0 (Kd.R (Kd.int .u8) 5 w' w.heap.size (fun _ => True) v3 x3_1) ∧ Aside0 (Below w.heap.size w w'))
  case atStart => exact ⟨(y101), (0), (by first | rfl | (simp; done) | (simp [*]; done)), H', ⟨Nat.le_refl _⟩, ⟨by (with_reducible repeat (first | apply Kd.R_alloc | apply Kd.R_drewN | apply Kd.R_drew)); exact HO103.out⟩, ⟨by repeat (first | (with_reducible first | exact HB.out | apply below_alloc | apply pw_below_drewN | apply below_drew1) | exact HB.out)⟩⟩
  case round =>
    clear H'
    try clear p2
    obtain ⟨x3_1, x4_1, rfl, HA, HK1, HO_3, HB⟩ := hrel
    cases gk with
    | zero => exact absurd HA.out (by simp [spec_l2Cat.l0])
    | succ k1 =>
      have H := HA.out
      clear HA
      simp only [spec_l2Cat.l0] at H
      by_cases c4 : x4_1 < (l0.length : Int)
      · rw [if_pos c4] at H
        have c4b0 : decide (x4_1 < (l0.length : Int)) = true := decide_eq_true c4
        clear c4
        by_cases c5 : 0 ≤ x4_1
        · rw [if_pos c5] at H
          have c5b0 : decide (0 ≤ x4_1) = true := decide_eq_true c5
          clear c5
          by_cases c6 : x3_1.length + (rd_L1 l0 x4_1).length < 140737488355328
          · rw [if_pos c6] at H
            have LMc6 := Aside0.mk c6
            clear c6
            obtain ⟨y105, hy105⟩ : ∃ y_ : List Int, y_ = (x3_1 ++ (rd_L1 l0 x4_1)) := ⟨_, rfl⟩
            replace H : (spec_l2Cat.l0 k1 l0 y105 (wrap64 (x4_1 + 1))) = some r := by first | (rw [hy105]; with_reducible exact H) | (have H2_ := (Option.bind_some _ _).symm.trans H; rw [hy105]; with_reducible exact H2_) | (have H2_ := (Option.bind_some _ _).symm.trans H; with_reducible exact H2_) | with_reducible exact H | (rw [hy105]; exact H) | exact H
            have Ny105 := Aside0.mk hy105
            clear hy105
            have H' := Aside0.mk H
            clear H
            have p104 : 0 ≤ (x4_1 : Int) := of_decide_eq_true (by first | (with_reducible assumption) | assumption)
            have q104 : x4_1 < (l0.length : Int) := of_decide_eq_true (by first | (with_reducible assumption) | assumption)
            obtain ⟨ad104, A104_0, c104_0, e104, hx104_0, hl104_0, hi104_0⟩ := at_L1 HR0.out x4_1 p104 q104
            cases e104
            replace hx104_0 := (HB.out.cell (World.block_lt_of_cell? w _ hx104_0)).trans hx104_0
            have HR104_0 := Aside0.mk hi104_0
            have HC104_0 := Aside0.mk hl104_0
            clear hi104_0 hl104_0
            replace p104 := eq_true p104
            replace q104 := eq_true q104
            go_wp2_with (first | ((with_reducible refine gate_builtin (b := .append) (xs := #[.tmp 12, .tmp 16]) rfl ?_); at_builtin; refine Kd.R_append_rows (Kd.int .u8) (w0 := w) w.heap.size rfl (.tmp 12) (.tmp 16) 25 5 (.int .u8 0) 1 rfl Try.underlying25 info5 rfl (by decide) (by omega) u3 x3_1 (rd_L1 l0 x4_1) _ _ _ (fun _ => True) (fun _ => False) rfl rfl ?aO ?aR (fun _ _ h => h) (fun _ h => h.elim) ?aF ?aB ?aS ?aL ?_; (case aR => repeat (first | exact (Kd.C_below HR104_0.out HB.out) | (with_reducible refine Kd.C_alloc ?_ _) | (with_reducible refine Kd.C_drewN ?_ _) | (with_reducible refine Kd.C_drew ?_))); (case aB => exact (by repeat (first | (with_reducible first | exact HB.out | apply below_alloc | apply pw_below_drewN | apply below_drew1) | exact HB.out))); (case aF => exact (fun _ _ => trivial)); (case aO => exact (by (with_reducible repeat (first | apply Kd.R_alloc | apply Kd.R_drewN | apply Kd.R_drew)); exact HO_3.out)); (case aS => exact (below_size (by repeat (first | (with_reducible first | exact HB.out | apply below_alloc | apply pw_below_drewN | apply below_drew1) | exact HB.out)))); (case aL => have := LMc6.out; omega); intro v106 w7 ho hb hg hat; rw [← Ny105.out] at ho; have n0_ := Aside0.mk (hb); have n1_ := Aside0.mk (ho); clear HB; clear HO_3; have HB := n0_; have HO107 := n1_; clear n0_ n1_; clear ho hb hg hat))
            go_roundg k1
            case measure => have := HK1.out; omega
            case rel => exact ⟨(y105), (wrap64 (x4_1 + 1)), (by first | rfl | (simp; done) | (simp [*]; done)), H', ⟨by have := HK1.out; omega⟩, ⟨by (with_reducible repeat (first | apply Kd.R_alloc | apply Kd.R_drewN | apply Kd.R_drew)); exact HO107.out⟩, ⟨by repeat (first | (with_reducible first | exact HB.out | apply below_alloc | apply pw_below_drewN | apply below_drew1) | exact HB.out)⟩⟩
          · rw [if_neg c6] at H
            exact absurd H (by simp)
        · rw [if_neg c5] at H
          exact absurd H (by simp)
      · rw [if_neg c4] at H
        have c4b0 : decide (x4_1 < (l0.length : Int)) = false := decide_eq_false c4
        clear c4
        obtain rfl := Option.some.inj H
        go_wp2
        go_ret
        exact ⟨_, by first | rfl | (simp [errW_none, errW_some] <;> rfl) | (simp [*, errW_none, errW_some] <;> rfl), by (with_reducible repeat (first | apply Kd.R_alloc | apply Kd.R_drewN | apply Kd.R_drew)); exact HO_3.out, by repeat (first | (with_reducible first | exact HB.out | apply below_alloc | apply pw_below_drewN | apply below_drew1) | exact HB.out)⟩

end Go.Proofs.Ytgfadfahbhcllaa.Q
namespace Go.Proofs.Ytgfadfahbhcllaa.Q
open Go.RowKit Go.Proofs.YtgfadfahbhcllaaW.PrintWords Go.Proofs.YtgfadfahbhcllaaW.PrintLast Go.Proofs.Ytgfadfahbhcllaa.LK Go.Proofs.YtgfadfahbhcllaaW.PrintMore
attribute [local go_sem] max2_int min2_int max_two min_two max_three min_three max_four min_four   -- for this text's walks alone
set_option linter.unusedVariables false
set_option linter.unusedSimpArgs false

/-! ### spec_l1Zeros: function 49 -/
def spec_l1Zeros.l0 : Nat → Int → List Int → Int → Option (List Int)
  | 0, _, _, _ => none
  | k + 1, x0, x3, x4 => if x4 < x0 then (if x3.length < 140737488355328 then (spec_l1Zeros.l0 k x0 (x3 ++ [0]) (wrap64 (x4 + 1))) else (none)) else (some x3)
def spec_l1Zeros.f (k : Nat) (a0 : Int) : Option (List Int) := spec_l1Zeros.l0 k a0 (([] : List Int)) 0
theorem spec_l1Zeros.mono_l : ∀ k, (∀ y0 y1 y2, LeO (spec_l1Zeros.l0 k y0 y1 y2) (spec_l1Zeros.l0 (k + 1) y0 y1 y2))
  | 0 => fun _ _ _ r h => by simp [spec_l1Zeros.l0] at h
  | k + 1 => by
    have ih0 := spec_l1Zeros.mono_l k
    · intro y0 y1 y2
      unfold spec_l1Zeros.l0
      repeat' first
      | (with_reducible exact ih0 _ _ _)
      | (with_reducible exact LeO.refl _)
      | (with_reducible exact LeO.none _)
      | (with_reducible refine LeO.ite ?_ ?_)
      | (with_reducible refine LeO.bind ?_ (fun _ => ?_))
      | exact ih0 _ _ _
      | exact LeO.none _
      | refine LeO.ite ?_ ?_
      | refine LeO.bind ?_ (fun _ => ?_)
theorem spec_l1Zeros.mono : ∀ a0 k, LeO (spec_l1Zeros.f k a0) (spec_l1Zeros.f (k + 1) a0) := by
  intro a0 k
  have ih0 := spec_l1Zeros.mono_l k
  unfold spec_l1Zeros.f
  repeat' first
      | (with_reducible exact ih0 _ _ _)
      | (with_reducible exact LeO.refl _)
      | (with_reducible exact LeO.none _)
      | (with_reducible refine LeO.ite ?_ ?_)
      | (with_reducible refine LeO.bind ?_ (fun _ => ?_))
      | exact ih0 _ _ _
      | exact LeO.none _
      | refine LeO.ite ?_ ?_
      | refine LeO.bind ?_ (fun _ => ?_)
set_option maxHeartbeats 8000000 in
set_option maxRecDepth 100000 in
theorem spec_l1Zeros.calls (k : Nat) (a0 : Int) (r : List Int) (w : World) (h : spec_l1Zeros.f k a0 = some r) :
    Calls Try.prog 49 #[.int .i64 a0] w fun e w' => ∃ v0_ : Value, e = .returned (v0_) ∧ Kd.R (Kd.int .u8) 5 w' w.heap.size (fun _ => True) v0_ r ∧ Below w.heap.size w w' := by
  have HB := Aside0.mk (Below.refl w.heap.size w)
  have H : (spec_l1Zeros.l0 k a0 (([] : List Int)) 0) = some r := h
  clear h
  obtain ⟨y101, hy101⟩ : ∃ y_ : List Int, y_ = (([] : List Int)) := ⟨_, rfl⟩
  replace H : (spec_l1Zeros.l0 k a0 y101 0) = some r := by first | (rw [hy101]; with_reducible exact H) | (have H2_ := (Option.bind_some _ _).symm.trans H; rw [hy101]; with_reducible exact H2_) | (have H2_ := (Option.bind_some _ _).symm.trans H; with_reducible exact H2_) | with_reducible exact H | (rw [hy101]; exact H) | exact H
  have Ny101 := Aside0.mk hy101
  clear hy101
  have H' := Aside0.mk H
  clear H
  go_enter Try.func49, Try.ntmps49
  go_wp2_with (first | ((with_reducible refine gate_dst (N := 5) rfl ?_); refine Kd.R_lit (Kd.int .u8) _ 5 ?hg (N := 5) ?hd (xs := ([] : List Int)) (inner := []) (ok := fun _ => True) (okp := fun _ => True) ?hr ?hp (fun _ hk => hk) trivial (Below.refl _ _) (Nat.le_refl _) (by simp) ?_; (case hd => rfl); (case hg => rfl); (case hr => first | (go_simp; done) | (go_simp; rfl)); (case hp => exact (Reps.none _ _)); intro v102 w2 ho3 hb hg_ hnew_; clear hg_ hnew_; (first | rw [← Ny101.out] at ho3 | (simp only [Int.reduceToNat] at ho3; rw [← Ny101.out] at ho3)); have n0_ := Aside0.mk (Kd.R_lower ho3 (below_size (by repeat (first | (with_reducible first | exact HB.out | apply below_alloc | apply pw_below_drewN | apply below_drew1) | exact HB.out)))); have n1_ := Aside0.mk (below_step (by repeat (first | (with_reducible first | exact HB.out | apply below_alloc | apply pw_below_drewN | apply below_drew1) | exact HB.out)) hb); clear HB; have HO103 := n0_; have HB := n1_; clear n0_ n1_; clear hb ho3))
  go_loopg [3, 4] k (fun kq v3 v4 w' => ∃ (x3_1 : List Int) (x4_1 : Int), v4 = .int .i64 x4_1 ∧ Aside0 (spec_l1Zeros.l0 kq a0 x3_1 x4_1 = some r) ∧ Aside0 (kq ≤ k) ∧ Aside0 (Kd.R (Kd.int .u8) 5 w' w.heap.size (fun _ => True) v3 x3_1) ∧ Aside0 (Below w.heap.size w w'))
  case atStart => exact ⟨(y101), (0), (by first | rfl | (simp; done) | (simp [*]; done)), H', ⟨Nat.le_refl _⟩, ⟨by (with_reducible repeat (first | apply Kd.R_alloc | apply Kd.R_drewN | apply Kd.R_drew)); exact HO103.out⟩, ⟨by repeat (first | (with_reducible first | exact HB.out | apply below_alloc | apply pw_below_drewN | apply below_drew1) | exact HB.out)⟩⟩
  case round =>
    clear H'
    try clear p2
    obtain ⟨x3_1, x4_1, rfl, HA, HK1, HO_3, HB⟩ := hrel
    cases gk with
    | zero => exact absurd HA.out (by simp [spec_l1Zeros.l0])
    | succ k1 =>
      have H := HA.out
      clear HA
      simp only [spec_l1Zeros.l0] at H
      by_cases c4 : x4_1 < a0
      · rw [if_pos c4] at H
        have c4b0 : decide (x4_1 < a0) = true := decide_eq_true c4
        clear c4
        by_cases c5 : x3_1.length < 140737488355328
        · rw [if_pos c5] at H
          have LMc5 := Aside0.mk c5
          clear c5
          obtain ⟨y104, hy104⟩ : ∃ y_ : List Int, y_ = (x3_1 ++ [0]) := ⟨_, rfl⟩
          replace H : (spec_l1Zeros.l0 k1 a0 y104 (wrap64 (x4_1 + 1))) = some r := by first | (rw [hy104]; with_reducible exact H) | (have H2_ := (Option.bind_some _ _).symm.trans H; rw [hy104]; with_reducible exact H2_) | (have H2_ := (Option.bind_some _ _).symm.trans H; with_reducible exact H2_) | with_reducible exact H | (rw [hy104]; exact H) | exact H
          have Ny104 := Aside0.mk hy104
          clear hy104
          have H' := Aside0.mk H
          clear H
          go_wp2_with (first | ((with_reducible refine gate_builtin (b := .append) (xs := #[.tmp 11, .tmp 12]) rfl ?_); at_builtin; refine Kd.R_append (Kd.int .u8) (w0 := w) w.heap.size rfl (.tmp 11) (.tmp 12) 25 5 (.int .u8 0) 1 rfl Try.underlying25 info5 rfl (by decide) (by omega) u3 x3_1 0 [.int .u8 0] (fun _ => True) (fun _ => False) rfl rfl ?aP (fun _ hk => hk.elim) ?aF ?aO ?aB ?aS ?aL ?_; (case aP => exact rfl); (case aB => exact (by repeat (first | (with_reducible first | exact HB.out | apply below_alloc | apply pw_below_drewN | apply below_drew1) | exact HB.out))); (case aF => exact (fun _ _ => trivial)); (case aO => exact (by (with_reducible repeat (first | apply Kd.R_alloc | apply Kd.R_drewN | apply Kd.R_drew)); exact HO_3.out)); (case aS => exact (below_size (by repeat (first | (with_reducible first | exact HB.out | apply below_alloc | apply pw_below_drewN | apply below_drew1) | exact HB.out)))); (case aL => have := LMc5.out; omega); intro v105 w6 ho hb hg hat; rw [← Ny104.out] at ho; have n0_ := Aside0.mk (hb); have n1_ := Aside0.mk (ho); clear HB; clear HO_3; have HB := n0_; have HO106 := n1_; clear n0_ n1_; clear ho hb hg hat))
          go_roundg k1
          case measure => have := HK1.out; omega
          case rel => exact ⟨(y104), (wrap64 (x4_1 + 1)), (by first | rfl | (simp; done) | (simp [*]; done)), H', ⟨by have := HK1.out; omega⟩, ⟨by (with_reducible repeat (first | apply Kd.R_alloc | apply Kd.R_drewN | apply Kd.R_drew)); exact HO106.out⟩, ⟨by repeat (first | (with_reducible first | exact HB.out | apply below_alloc | apply pw_below_drewN | apply below_drew1) | exact HB.out)⟩⟩
        · rw [if_neg c5] at H
          exact absurd H (by simp)
      · rw [if_neg c4] at H
        have c4b0 : decide (x4_1 < a0) = false := decide_eq_false c4
        clear c4
        obtain rfl := Option.some.inj H
        go_wp2
        go_ret
        exact ⟨_, by first | rfl | (simp [errW_none, errW_some] <;> rfl) | (simp [*, errW_none, errW_some] <;> rfl), by (with_reducible repeat (first | apply Kd.R_alloc | apply Kd.R_drewN | apply Kd.R_drew)); exact HO_3.out, by repeat (first | (with_reducible first | exact HB.out | apply below_alloc | apply pw_below_drewN | apply below_drew1) | exact HB.out)⟩

end Go.Proofs.Ytgfadfahbhcllaa.Q
namespace Go.Proofs.Ytgfadfahbhcllaa.P
open Go.RowKit Go.Proofs.YtgfadfahbhcllaaW.PrintWords Go.Proofs.YtgfadfahbhcllaaW.PrintMore Go.Proofs.Ytgfadfahbhcllaa.Q
set_option linter.unusedVariables false
set_option linter.unusedSimpArgs false
theorem four_is (x : Int) (h : 0 ≤ x ∧ x ≤ 4294967295) : spec_l2Four.f x = some (leB 4 x) := by
  unfold spec_l2Four.f
  show some _ = some [x / 2 ^ (8 * 0) % 256, x / 2 ^ (8 * 1) % 256, x / 2 ^ (8 * 2) % 256, x / 2 ^ (8 * 3) % 256]
  rw [Int.tmod_eq_emod_of_nonneg h.1, Int.tdiv_eq_ediv_of_nonneg h.1, Int.tdiv_eq_ediv_of_nonneg h.1, Int.tdiv_eq_ediv_of_nonneg h.1]
  congr 1
  simp only [List.cons.injEq, and_true]
  refine ⟨?_, ?_, ?_, ?_⟩
  · show x % 256 % 256 = x / 1 % 256; omega
  · show x / 256 % 4294967296 % 256 = x / 256 % 256; omega
  · show x / 65536 % 4294967296 % 256 = x / 65536 % 256; omega
  · show x / 16777216 % 4294967296 % 256 = x / 16777216 % 256; omega
theorem zeros_ev (n : Nat) (h : n ≤ 1048576) : Ev (fun k => spec_l1Zeros.f k n) (List.replicate n 0) := by
  simp only [spec_l1Zeros.f]
  have h1 := Ev.loop0 (fun k (s : List Int × Int) => spec_l1Zeros.l0 k n s.1 s.2) (fun i => (List.replicate i 0, (i : Int))) n (List.replicate n 0) ?_ ?_
  · exact h1
  · intro i hi
    refine ⟨0, fun k _ => ?_⟩
    simp only [spec_l1Zeros.l0]
    rw [if_pos (by omega), if_pos (by rw [List.length_replicate]; omega), w64s hi (by omega), List.replicate_succ']
  · refine Ev.last ⟨0, fun k _ => ?_⟩
    simp only [spec_l1Zeros.l0]
    rw [if_neg (by omega)]
theorem cat_ev (ls : List (List Int)) (hl : ls.length ≤ 1048576) (h : ls.flatten.length ≤ 1048576) : Ev (fun k => spec_l2Cat.f k ls) ls.flatten := by
  simp only [spec_l2Cat.f]
  have h1 := Ev.loop0 (fun k (s : List Int × Int) => spec_l2Cat.l0 k ls s.1 s.2) (fun i => ((ls.take i).flatten, (i : Int))) ls.length ls.flatten ?_ ?_
  · exact h1
  · intro i hi
    refine ⟨0, fun k _ => ?_⟩
    obtain ⟨p, hp⟩ := some_at hi
    have e : ls.getD (i : Int).toNat [] = p := by
      rw [Int.toNat_natCast, List.getD_eq_getElem?_getD, hp]
      rfl
    have e2 : (ls.take (i + 1)).flatten = (ls.take i).flatten ++ p := by
      rw [List.take_add_one, hp]
      simp
    have e3 : (ls.take (i + 1)).flatten.length ≤ ls.flatten.length := by
      conv => rhs; rw [← List.take_append_drop (i + 1) ls]
      rw [List.flatten_append, List.length_append]
      omega
    rw [e2, List.length_append] at e3
    simp only [spec_l2Cat.l0]
    first | unfold rd_L1 | unfold rd_L2 | unfold rd_L3 | unfold rd_L4 | unfold rd_L5 | unfold rd_L8 | unfold rd_L14
    rw [e, if_pos (by omega), if_pos (by omega), if_pos (by omega), w64s hi (by omega), e2]
  · refine Ev.last ⟨0, fun k _ => ?_⟩
    simp only [spec_l2Cat.l0]
    rw [if_neg (by omega), List.take_length]
end Go.Proofs.Ytgfadfahbhcllaa.P
namespace Go.Proofs.Ytgfadfahbhcllaa.Q
open Go.RowKit Go.Proofs.YtgfadfahbhcllaaW.PrintWords Go.Proofs.YtgfadfahbhcllaaW.PrintLast Go.Proofs.YtgfadfahbhcllaaW.PrintMore Go.Proofs.Ytgfadfahbhcllaa.LK
set_option linter.unusedVariables false
theorem C_cells {k : IntKind} {w w' : World} {A : Option Addr} {n : Nat} {xs : List Int} (h : Kd.C (Kd.int k) w A n xs) (hc : ∀ a v, w.cell? a = some v → w'.cell? a = some v) : Kd.C (Kd.int k) w' A n xs := by
  obtain ⟨h1, h2, h3⟩ := Kd.reads_of_C (enc := Value.int k) (d := (0 : Int)) (h1 := fun _ => rfl) h
  refine Kd.C_of_reads (h1 := fun _ => rfl) (d := (0 : Int)) ⟨h1, h2, fun hp => ?_⟩
  obtain ⟨ad, e, hj⟩ := h3 hp
  exact ⟨ad, e, fun j hjn => hc _ _ (hj j hjn)⟩
theorem cells_of_blocks {w w' : World} (hb : ∀ k, k < w.heap.size → w'.heap[k]? = w.heap[k]?) : ∀ a v, w.cell? a = some v → w'.cell? a = some v := fun a v h => by
  have hlt := World.block_lt_of_cell? w a h
  rw [World.cell?_of_block (hb _ hlt)]
  exact h
theorem cells_of_mark {w w' : World} {g : Nat} {cs : Array Value} {e : Nat} {fr fr' : Nat × Nat} (hS : Stp (fun k => k = g) w w') (h1 : w.heap[g]? = some (.cells cs e fr)) (h2 : w'.heap[g]? = some (.cells cs e fr')) : ∀ a v, w.cell? a = some v → w'.cell? a = some v := fun a v h => by
  have hlt := World.block_lt_of_cell? w a h
  by_cases hg : a.block = g
  · rw [← h]
    unfold World.cell?
    rw [hg, h1, h2]
  · rw [World.cell?_of_block (hS.block _ hlt hg)]
    exact h
/-- A row of bytes that is read. -/
def RdP (w : World) (v : Value) (xs : List Int) : Prop := ∃ A c, v = .slice A xs.length c ∧ xs.length ≤ c ∧ Kd.C (Kd.int .u8) w A xs.length xs
theorem RdP.cells {w w' : World} {v : Value} {xs : List Int} (h : RdP w v xs) (hc : ∀ a v, w.cell? a = some v → w'.cell? a = some v) : RdP w' v xs := by
  obtain ⟨A, c, e, hl, hC⟩ := h
  exact ⟨A, c, e, hl, C_cells hC hc⟩
theorem RdP.below {w w' : World} {v : Value} {xs : List Int} (h : RdP w v xs) (hb : Below w.heap.size w w') : RdP w' v xs := h.cells (cells_of_blocks (fun k hk => hb.block k hk))
theorem RdP.of_R {e base : Nat} {ok : Nat → Prop} {w : World} {v : Value} {xs : List Int} (h : Kd.R (Kd.int .u8) e w base ok v xs) : RdP w v xs := by
  obtain ⟨A, c, rfl⟩ := Kd.R_slice h
  have h2 := Kd.R_reads' h
  exact ⟨A, c, rfl, h2.2.1, h2.2.2⟩
theorem RdP.FK {w : World} {A : Option Addr} {c : Nat} {xs : List Int} (hl : xs.length ≤ c) (h : Kd.C (Kd.int .u8) w A xs.length xs) : Kd.FK (Kd.slice 5 (Kd.int .u8)) w (fun _ => True) xs [.slice A xs.length c] :=
  Kd.FK_slice_mk hl (fun W' hW => C_cells h (cells_of_blocks (fun k hk => hW k trivial hk)))
/-- A literal's row of bytes, marked or not. -/
def LitP (base : Nat) (w : World) (v : Value) (xs : List Int) : Prop := ∃ g c tl fr, v = .slice (some ⟨g, 0, none⟩) xs.length c ∧ xs.length ≤ c ∧ c ≤ 9223372036854775807 ∧ base ≤ g ∧ w.heap[g]? = some (.cells (bytesV xs ++ tl).toArray 5 fr)
theorem LitP.below {base : Nat} {w w' : World} {v : Value} {xs : List Int} (h : LitP base w v xs) (hb : Below w.heap.size w w') : LitP base w' v xs := by
  obtain ⟨g, c, tl, fr, e, hl, hm, hg, hh⟩ := h
  exact ⟨g, c, tl, fr, e, hl, hm, hg, (hb.block g (blk_lt hh)).trans hh⟩
theorem LitP.of_R {base base' : Nat} {ok : Nat → Prop} {w : World} {v : Value} {xs : List Int} (h : Kd.R (Kd.int .u8) 5 w base ok v xs) (hp : 0 < xs.length) (hb : base' ≤ base) : LitP base' w v xs := by
  obtain ⟨A, c, rfl⟩ := Kd.R_slice h
  obtain ⟨B, tl, rfl, _, e, h1, _, _, h2, h3⟩ := R_block h hp
  exact ⟨B, c, tl, _, rfl, by omega, h3, by omega, h2⟩
theorem LitP.rd {base : Nat} {w : World} {v : Value} {xs : List Int} (h : LitP base w v xs) : RdP w v xs := by
  obtain ⟨g, c, tl, fr, rfl, hl, hm, hg, hh⟩ := h
  refine ⟨_, c, rfl, hl, Kd.C_of_reads (h1 := fun _ => rfl) (d := (0 : Int)) ⟨rfl, by omega, fun _ => ⟨_, rfl, fun j hj => ?_⟩⟩⟩
  have hj' : j < xs.length := hj
  have e1 : (Addr.mk g 0 none).add j = ⟨g, j, none⟩ := by
    unfold Addr.add
    by_cases h0 : j = 0
    · rw [if_pos h0, h0]
    · rw [if_neg h0, Nat.zero_add]
  rw [e1, cell_of_row w g j _ _ _ hh]
  unfold bytesV
  simp [List.getD_eq_getElem?_getD, List.getElem?_append_left, hj']
theorem LitP.mark {base : Nat} {w w' : World} {v : Value} {xs : List Int} (h : LitP base w v xs) {g : Nat} {cs : Array Value} {e : Nat} {fr fr' : Nat × Nat} (hS : Stp (fun k => k = g) w w') (h1 : w.heap[g]? = some (.cells cs e fr)) (h2 : w'.heap[g]? = some (.cells cs e fr')) : LitP base w' v xs := by
  obtain ⟨g', c, tl, fr2, ev, hl, hm, hg, hh⟩ := h
  by_cases hgg : g' = g
  · subst hgg
    rw [h1] at hh
    injection hh with hh
    injection hh with e1 e2 e3
    subst e1 e2
    exact ⟨g', c, tl, fr', ev, hl, hm, hg, h2⟩
  · exact ⟨g', c, tl, fr2, ev, hl, hm, hg, (hS.block g' (blk_lt hh) hgg).trans hh⟩
/-- A conversion of a slice of bytes to its own type marks its row. -/
theorem conv_mark {P : Program} {t e : TypeId} (ht : P.underlying t = some (.slice e)) (he : P.underlying e = some (.int .u8)) {w : World} {g n c : Nat} {cs : Array Value} {q : Nat} {fr : Nat × Nat} (hg : w.heap[g]? = some (.cells cs q fr)) :
    ∃ w', (convert t t (.slice (some ⟨g, 0, none⟩) n c)).run P w = .ok (.slice (some ⟨g, 0, none⟩) n c) w' ∧ Stp (fun k => k = g) w w' ∧ ∃ fr', w'.heap[g]? = some (.cells cs q fr') := by
  have hsh : w.shape? g = some (q, cs.size) := by unfold World.shape?; rw [hg]
  refine ⟨w.freeze ⟨g, cs.size, none⟩ 1, ?_, ?_, ?_⟩
  · simp [convert, run_underlying ht, run_underlying he, markStringish, hsh]
  · unfold World.freeze
    rw [if_neg (by decide)]
    exact ⟨rfl, rfl, rfl, by simp, fun i _ hn => by show (w.heap.modify g _)[i]? = _; rw [Array.getElem?_modify, if_neg (fun h => hn h.symm)]⟩
  · unfold World.freeze
    rw [if_neg (by decide)]
    obtain ⟨lo, hi⟩ := fr
    refine ⟨if lo == hi then (cs.size, cs.size + 1) else (min lo cs.size, max hi (cs.size + 1)), ?_⟩
    show (w.heap.modify g _)[g]? = _
    rw [Array.getElem?_modify, if_pos rfl, hg]
    rfl
theorem Bx_mark {w0 W W' : World} {l : List (Nat × Array Value × Nat)} {g : Nat} {cs : Array Value} {e : Nat} {fr : Nat × Nat} (h : Bx w0 l W) (hS : Stp (fun k => k = g) W W') (hg : w0.heap.size ≤ g) (h1 : W.heap[g]? = some (.cells cs e fr)) (ht : ∀ b ∈ l, b.2.2 ≠ e) : Bx w0 l W' :=
  h.stp hS (fun k hk => by rw [hk]; exact hg) (fun b hb he => by
    have h2 := (h.at_ b hb).2
    have h3 : b.1 = g := he
    rw [h3, h1] at h2
    injection h2 with h2
    injection h2 with _ h2 _
    exact ht b hb h2.symm)
/-- A row of rows of bytes that is read. -/
def RowsP (w : World) (v : Value) (xss : List (List Int)) : Prop := ∃ A c, v = .slice A xss.length c ∧ xss.length ≤ c ∧ Kd.C (Kd.slice 5 (Kd.int .u8)) w A xss.length xss
theorem RowsP.below {w w' : World} {v : Value} {xss : List (List Int)} (h : RowsP w v xss) (hb : Below w.heap.size w w') : RowsP w' v xss := by
  obtain ⟨A, c, e, hl, hC⟩ := h
  exact ⟨A, c, e, hl, Kd.C_below hC hb⟩
theorem RowsP.of_N {e base : Nat} {ok : Nat → Prop} {w : World} {v : Value} {xss : List (List Int)} (h : Kd.N (Kd.slice 5 (Kd.int .u8)) e w base ok v xss) : RowsP w v xss := by
  obtain ⟨A, c, rfl⟩ := Kd.N_slice h
  have h2 := Kd.N_reads' h
  exact ⟨A, c, rfl, h2.2.1, h2.2.2⟩
end Go.Proofs.Ytgfadfahbhcllaa.Q
namespace Go.Proofs.Ytgfadfahbhcllaa.Q
open Go.RowKit Go.Proofs.YtgfadfahbhcllaaW.PrintWords Go.Proofs.YtgfadfahbhcllaaW.PrintLast Go.Proofs.YtgfadfahbhcllaaW.PrintMore Go.Proofs.Ytgfadfahbhcllaa.LK
set_option linter.unusedVariables false
set_option linter.unusedSimpArgs false
def specF_T3 : Bool × List (List Nat × List Nat) := (true, [([], []), ([0], [0]), ([1], [1]), ([], []), ([3], [3]), ([], []), ([5], [5]), ([6], [6]), ([7], [7]), ([], []), ([9], [9]), ([10, 2], [10]), ([], []), ([12], [12]), ([13, 11], [13]), ([14], []), ([2, 4, 8, 11, 14, 15], [2, 4, 8, 11, 14, 15]), ([16, 15], [16]), ([17, 17, 0, 1, 2, 3, 4, 5, 6, 7, 8, 9, 10, 11, 12, 13, 14, 15, 16, 17], [17])])
def specF_B3 : List Nat := [0, 1, 3, 0, 8, 0, 32, 96, 224, 0, 512, 1543, 0, 4096, 15879, 32263, 65535, 131071, 262143]
theorem specF_tab3 : rtab .any (opsOf Try.f11 3) = specF_T3 := by kernel_rfl
theorem specF_bits3 : waitsOk specF_T3.2 specF_B3 = true := by kernel_rfl
def specF_T4 : Bool × List (List Nat × List Nat) := (true, [([], []), ([], []), ([1], [1]), ([2, 2], [2]), ([], []), ([4], [4]), ([5, 3], [5]), ([0, 3, 6], [0, 3, 6]), ([7, 6], [7]), ([8, 8, 0, 1, 2, 3, 4, 5, 6, 7, 8], [8])])
def specF_B4 : List Nat := [0, 0, 2, 6, 0, 16, 62, 127, 255, 511]
theorem specF_tab4 : rtab .any (opsOf Try.f11 4) = specF_T4 := by kernel_rfl
theorem specF_bits4 : waitsOk specF_T4.2 specF_B4 = true := by kernel_rfl
def spec_EncodeFrame.f (a0_0 : Int) (a0_1 : Int) (a0_2 : Int) (a0_3 : Int) : Option (List Int) :=
  if (0 ≤ a0_0 ∧ a0_0 ≤ 4294967295) ∧ (0 ≤ a0_2 ∧ a0_2 ≤ 4294967295) ∧ (0 ≤ a0_3 ∧ a0_3 ≤ 4294967295) then some (if 1 ≤ a0_1 ∧ a0_1 ≤ 3 then frameCode a0_0 a0_1 a0_2 a0_3 else []) else none
set_option maxHeartbeats 8000000 in
set_option maxRecDepth 100000 in
theorem specFrame_raw {q kd a b : Int} {kz k1 k2 kc : Nat} {w : World} (hq : 0 ≤ q ∧ q ≤ 4294967295) (ha : 0 ≤ a ∧ a ≤ 4294967295) (hb : 0 ≤ b ∧ b ≤ 4294967295) (hk : 1 ≤ kd ∧ kd ≤ 3)
    (hz : spec_l1Zeros.f kz 40 = some (List.replicate 40 0)) (hc1 : spec_l2Cat.f k1 [P.leB 4 q, [74, 49], [kd % 256, 0], P.leB 4 a, P.leB 4 b, List.replicate 40 0] = some (frameHead q kd a b))
    {c : Int} (hcr : spec_Crc32.f kc (frameHead q kd a b) = some c) (hc : 0 ≤ c ∧ c ≤ 4294967295) {r : List Int} (hc2 : spec_l2Cat.f k2 [frameHead q kd a b, P.leB 4 c, P.leB 4 q] = some r) :
    Calls Try.prog 11 #[.agg #[.int .u32 q, .int .i64 kd, .int .u32 a, .int .u32 b]] w fun e w' => ∃ v0_ : Value, e = .returned (v0_) ∧ Kd.R (Kd.int .u8) 5 w' w.heap.size (fun _ => True) v0_ r ∧ Below w.heap.size w w' := by
  have jk : IntKind.u8.wrap kd = kd % 256 := by rw [IntKind.wrap_u8]
  have k1b : decide (kd < 1) = false := decide_eq_false (by omega)
  have k3b : decide (3 < kd) = false := decide_eq_false (by omega)
  have HQ := Aside0.mk hq
  have HA := Aside0.mk ha
  have HBb := Aside0.mk hb
  have HC := Aside0.mk hc
  have HZ := Aside0.mk hz
  have HC1 := Aside0.mk hc1
  have HC2 := Aside0.mk hc2
  have HCR := Aside0.mk hcr
  obtain ⟨fh, hfh⟩ : ∃ fh, fh = frameHead q kd a b := ⟨_, rfl⟩
  rw [← hfh] at HC1 HC2 HCR
  have HFL := Aside0.mk (show fh.length ≤ 56 from by rw [hfh]; exact Nat.le_refl _)
  have H0 := Aside0.mk (Bx.refl w)
  clear hq ha hb hc hz hc1 hc2 hcr hk hfh
  go_enter Try.func11, Try.ntmps11
  go_wp2_with (first | ((with_reducible refine gate_dst (N := 1) rfl ?_); refine Aside0.out ?_))
  refine Aside0.mk ?_
  refine mk ?hw1 (N := 1) ?hd1 (cs := #[.int .u32 q, .int .i64 kd, .int .u32 a, .int .u32 b]) (t := 27) ?hr1 ?_
  case hd1 => rfl
  case hw1 => rfl
  case hr1 => first | (go_simp; done) | (go_simp; rfl)
  intro g1 hg1_ w101 hb1 hB1
  have H102 := Aside0.mk (H0.out.new hg1_ hb1 hB1)
  clear hg1_ hb1 hB1 H0
  have hk1 : w101.cell? ⟨g1, 1, none⟩ = some (.int .i64 kd) := (blk_cell H102.out.gt0 1).trans rfl
  go_wp2
  clear hk1
  have H104 := Aside0.mk H102.out.drew
  refine start_ (n := 19) (S := fun w' => True) (ds := []) #[false, false, false, false, false, false, false, false, false, false, false, false, false, false, false, false, false, false, false] (by kernel_rfl) rfl rfl trivial (fun hHeld => ?_)
  clear H102
  generalize w101.drew = w103 at H104 hHeld ⊢
  refine with_tabW specF_tab3 specF_bits3 (fun HT_ HW_ => ?_)
  refine pure_ (i := 0) (N := some 13) (v := ?_) (a' := ?_) #[true, false, false, false, false, false, false, false, false, false, false, false, false, false, false, false, false, false, false] rfl rfl (any_of HT_.out (by kernel_rfl)) (fun _ _ _ h => h) (Or.inl ⟨by rfl, ?_⟩) ?_ ?_
  rotate_left
  · intro w'
    go_simp
    with_reducible rfl
  rotate_left
  · simp only [Act.put, List.setIfInBounds_toArray, List.set_cons_zero, List.set_cons_succ, i64_w, i32_w]
    rfl
  refine pure_ (i := 5) (N := some 18) (v := ?_) (a' := ?_) #[true, false, false, false, false, true, false, false, false, false, false, false, false, false, false, false, false, false, false] rfl rfl (any_of HT_.out (by kernel_rfl)) (fun _ _ _ h => h) (Or.inl ⟨by rfl, ?_⟩) ?_ ?_
  rotate_left
  · intro w'
    go_simp
    with_reducible rfl
  rotate_left
  · simp only [Act.put, List.setIfInBounds_toArray, List.set_cons_zero, List.set_cons_succ, i64_w, i32_w]
    rfl
  refine pure_ (i := 9) (N := some 22) (v := ?_) (a' := ?_) #[true, false, false, false, false, true, false, false, false, true, false, false, false, false, false, false, false, false, false] rfl rfl (any_of HT_.out (by kernel_rfl)) (fun _ _ _ h => h) (Or.inl ⟨by rfl, ?_⟩) ?_ ?_
  rotate_left
  · intro w'
    go_simp
    with_reducible rfl
  rotate_left
  · simp only [Act.put, List.setIfInBounds_toArray, List.set_cons_zero, List.set_cons_succ, i64_w, i32_w]
    rfl
  refine pure_ (i := 12) (N := some 25) (v := ?_) (a' := ?_) #[true, false, false, false, false, true, false, false, false, true, false, false, true, false, false, false, false, false, false] rfl rfl (any_of HT_.out (by kernel_rfl)) (fun _ _ _ h => h) (Or.inl ⟨by rfl, ?_⟩) ?_ ?_
  rotate_left
  · intro w'
    go_simp
    with_reducible rfl
  rotate_left
  · simp only [Act.put, List.setIfInBounds_toArray, List.set_cons_zero, List.set_cons_succ, i64_w, i32_w]
    rfl
  refine inv_at [1, 2, 3, 4, 6, 7, 8, 10, 11, 13, 14, 15, 16, 17, 18] (fun a0_ b_ a_ w' => ∃ (v2 : Value) (v3 : Value) (m4 : Value) (v8 : Value) (v11 : Value) (v14 : Value) (v15 : Value) (v16 : Value) (v17 : Value) (m18 : Value), a_ = putSel a0_ b_ [(1, 14, .int .u32 q), (2, 15, v2), (3, 16, v3), (4, 17, m4), (6, 19, .int .i64 kd), (7, 20, .int .u8 (kd % 256)), (8, 21, v8), (10, 23, .int .u32 a), (11, 24, v11), (13, 26, .int .u32 b), (14, 27, v14), (15, 28, v15), (16, 29, v16), (17, 30, v17), (18, 3, m18)] ∧ Bx w [(g1, #[.int .u32 q, .int .i64 kd, .int .u32 a, .int .u32 b], 27)] w' ∧ (b_ 2 = true → RdP w' v2 (P.leB 4 q)) ∧ (b_ 3 = true → LitP w.heap.size w' v3 [74, 49]) ∧ (b_ 4 = true → m4 = v3 ∧ RdP w' m4 [74, 49]) ∧ (b_ 8 = true → RdP w' v8 [kd % 256, 0]) ∧ (b_ 11 = true → RdP w' v11 (P.leB 4 a)) ∧ (b_ 14 = true → RdP w' v14 (P.leB 4 b)) ∧ (b_ 15 = true → RdP w' v15 (List.replicate 40 0)) ∧ (b_ 16 = true → RowsP w' v16 [P.leB 4 q, [74, 49], [kd % 256, 0], P.leB 4 a, P.leB 4 b, List.replicate 40 0]) ∧ (b_ 17 = true → RdP w' v17 fh) ∧ (b_ 18 = true → m18 = v17)) HT_.out HW_.out (by kernel_rfl) (by kernel_rfl) ?_ ?_ ?_
  · exact ⟨.bool false, .bool false, .bool false, .bool false, .bool false, .bool false, .bool false, .bool false, .bool false, .bool false, by simp only [putSel, Bool.false_eq_true, if_false], H104.out, fun h_ => absurd h_ (by decide), fun h_ => absurd h_ (by decide), fun h_ => absurd h_ (by decide), fun h_ => absurd h_ (by decide), fun h_ => absurd h_ (by decide), fun h_ => absurd h_ (by decide), fun h_ => absurd h_ (by decide), fun h_ => absurd h_ (by decide), fun h_ => absurd h_ (by decide), fun h_ => absurd h_ (by decide)⟩
  · skip
    clear H104
    refine steps_cons ?_ ?_
    · rintro b_ a_ w' ⟨v2, v3, m4, v8, v11, v14, v15, v16, v17, m18, ha, QX, Q2, Q3, Q4, Q8, Q11, Q14, Q15, Q16, Q17, Q18⟩ hbo_ hon hoff
      refine ⟨_, rfl, fun K hK => ?_⟩
      have e13 : a_.tmps[13]? = some (.pointer (some ⟨g1, 0, none⟩)) := by rw [ha]; exact (putSel_off rfl).trans rfl
      replace ha := Aside0.mk ha
      have HX := Aside0.mk QX
      clear QX
      have hc_ : w'.cell? ⟨g1, 0, none⟩ = some (.int .u32 q) := (blk_cell HX.out.gt0 0).trans rfl
      refine value_ (w1 := w') (v := .int .u32 q) (by rfl) rfl ?_ ?_
      · go_simp
        (try simp only [i64_w])
        try rfl
      refine hK.out _ _ ⟨v2, v3, m4, v8, v11, v14, v15, v16, v17, m18, (by rw [ha.out]; exact putSel_upk 0 hbo_ rfl rfl rfl), HX.out, fun h0_ => absurd ((hoff 2 (by kernel_rfl)).symm.trans h0_) (by decide), Q3, Q4, Q8, fun h0_ => absurd ((hoff 11 (by kernel_rfl)).symm.trans h0_) (by decide), fun h0_ => absurd ((hoff 14 (by kernel_rfl)).symm.trans h0_) (by decide), fun h0_ => absurd ((hoff 15 (by kernel_rfl)).symm.trans h0_) (by decide), fun h0_ => absurd ((hoff 16 (by kernel_rfl)).symm.trans h0_) (by decide), fun h0_ => absurd ((hoff 17 (by kernel_rfl)).symm.trans h0_) (by decide), fun h0_ => absurd ((hoff 18 (by kernel_rfl)).symm.trans h0_) (by decide)⟩
    refine steps_cons ?_ ?_
    · rintro b_ a_ w' ⟨v2, v3, m4, v8, v11, v14, v15, v16, v17, m18, ha, QX, Q2, Q3, Q4, Q8, Q11, Q14, Q15, Q16, Q17, Q18⟩ hbo_ hon hoff
      refine ⟨_, rfl, fun K hK => ?_⟩
      have e14 : a_.tmps[14]? = some (.int .u32 q) := by rw [ha]; exact putSel_on (e := (1, 14, .int .u32 q)) 0 rfl rfl (hon 1 (by kernel_rfl)) rfl
      replace ha := Aside0.mk ha
      have HX := Aside0.mk QX
      clear QX
      refine goes_ Try.func48 (by kernel_rfl) rfl #[.int .u32 q] (by rfl) rfl rfl (by first | (simp only [List.map_toArray, List.map_cons, List.map_nil, Act.eval, Array.getD_eq_getD_getElem?, Option.getD_some, e14]; done) | (simp only [List.map_toArray, List.map_cons, List.map_nil, Act.eval, Array.getD_eq_getD_getElem?, Option.getD_some, e14]; rfl)) ?_
      refine (spec_l2Four.calls q (P.leB 4 q) _ (P.four_is q HQ.out)).mono ?_
      rintro e w2_ ⟨vn_, rfl, ho, hb_⟩
      refine ⟨_, rfl, ?_⟩
      replace HX := Aside0.mk (HX.out.step hb_)
      refine hK.out _ _ ⟨vn_, v3, m4, v8, v11, v14, v15, v16, v17, m18, (by rw [ha.out]; exact putSel_upk 1 hbo_ rfl rfl rfl), HX.out, fun _ => RdP.of_R ho, fun h0_ => (Q3 h0_).below hb_, fun h0_ => ⟨(Q4 h0_).1, (Q4 h0_).2.below hb_⟩, fun h0_ => (Q8 h0_).below hb_, fun h0_ => absurd ((hoff 11 (by kernel_rfl)).symm.trans h0_) (by decide), fun h0_ => absurd ((hoff 14 (by kernel_rfl)).symm.trans h0_) (by decide), fun h0_ => absurd ((hoff 15 (by kernel_rfl)).symm.trans h0_) (by decide), fun h0_ => absurd ((hoff 16 (by kernel_rfl)).symm.trans h0_) (by decide), fun h0_ => absurd ((hoff 17 (by kernel_rfl)).symm.trans h0_) (by decide), fun h0_ => absurd ((hoff 18 (by kernel_rfl)).symm.trans h0_) (by decide)⟩
    refine steps_cons ?_ ?_
    · rintro b_ a_ w' ⟨v2, v3, m4, v8, v11, v14, v15, v16, v17, m18, ha, QX, Q2, Q3, Q4, Q8, Q11, Q14, Q15, Q16, Q17, Q18⟩ hbo_ hon hoff
      refine ⟨_, rfl, fun K hK => ?_⟩
      replace ha := Aside0.mk ha
      have HX := Aside0.mk QX
      clear QX
      refine Kd.R_lit_step (Kd.int .u8) _ 5 ?hg (N := 16) ?hd (xs := ([74, 49] : List Int)) (inner := [.int .u8 74, .int .u8 49]) (ok := fun _ => True) (okp := fun _ => True) ?hr ?hp (fun _ hk => hk) trivial (Below.refl _ _) (Nat.le_refl _) (by simp) ?_; (case hd => rfl); (case hg => rfl); (case hr => first | (go_simp; done) | (go_simp; rfl)); (case hp => exact (Reps.one (show Kd.M (Kd.int .u8) _ _ _ _ [_] from rfl) (Reps.one (show Kd.M (Kd.int .u8) _ _ _ _ [_] from rfl) (Reps.none _ _))))
      intro vn_ w2_ ho hb_ hg_ hnew_
      clear hg_ hnew_
      have HBW := Aside0.mk HX.out.below.size
      replace HX := Aside0.mk (HX.out.step hb_)
      refine hK.out _ _ ⟨v2, vn_, m4, v8, v11, v14, v15, v16, v17, m18, (by rw [ha.out]; exact putSel_upk 2 hbo_ rfl rfl rfl), HX.out, fun h0_ => (Q2 h0_).below hb_, fun _ => LitP.of_R ho (by decide) HBW.out, fun h0_ => absurd ((hoff 4 (by kernel_rfl)).symm.trans h0_) (by decide), fun h0_ => (Q8 h0_).below hb_, fun h0_ => (Q11 h0_).below hb_, fun h0_ => (Q14 h0_).below hb_, fun h0_ => (Q15 h0_).below hb_, fun h0_ => absurd ((hoff 16 (by kernel_rfl)).symm.trans h0_) (by decide), fun h0_ => absurd ((hoff 17 (by kernel_rfl)).symm.trans h0_) (by decide), fun h0_ => absurd ((hoff 18 (by kernel_rfl)).symm.trans h0_) (by decide)⟩
    refine steps_cons ?_ ?_
    · rintro b_ a_ w' ⟨v2, v3, m4, v8, v11, v14, v15, v16, v17, m18, ha, QX, Q2, Q3, Q4, Q8, Q11, Q14, Q15, Q16, Q17, Q18⟩ hbo_ hon hoff
      refine ⟨_, rfl, fun K hK => ?_⟩
      have e16 : a_.tmps[16]? = some (v3) := by rw [ha]; exact putSel_on (e := (3, 16, v3)) 2 rfl rfl (hon 3 (by kernel_rfl)) rfl
      replace ha := Aside0.mk ha
      have HX := Aside0.mk QX
      clear QX
      obtain ⟨g_, c_, tl_, fr_, ev_, hl_, hm_, hg_, hh_⟩ := Q3 (hon 3 (by kernel_rfl))
      obtain ⟨w2_, hrun_, hS_, fr2_, hh2_⟩ := conv_mark (P := Try.prog) (t := 25) (n := 2) (c := c_) Try.underlying25 Try.underlying5 hh_
      rw [ev_] at e16
      refine value_ (w1 := w2_) (v := v3) (by rfl) rfl ?_ ?_
      · rw [ev_]
        go_simp
        try (first | exact hrun_ | (rw [hrun_]; rfl) | rfl)
      replace HX := Aside0.mk (Bx_mark HX.out hS_ hg_ hh_ (by intro b hb; simp only [List.mem_cons, List.not_mem_nil, or_false] at hb; rcases hb with rfl; exact (show 27 ≠ 5 from by decide)))
      refine hK.out _ _ ⟨v2, v3, v3, v8, v11, v14, v15, v16, v17, m18, (by rw [ha.out]; exact putSel_upk 3 hbo_ rfl rfl rfl), HX.out, fun h0_ => (Q2 h0_).cells (cells_of_mark hS_ hh_ hh2_), fun h0_ => LitP.mark (Q3 h0_) hS_ hh_ hh2_, fun _ => ⟨rfl, (LitP.mark (Q3 (hon 3 (by kernel_rfl))) hS_ hh_ hh2_).rd⟩, fun h0_ => (Q8 h0_).cells (cells_of_mark hS_ hh_ hh2_), fun h0_ => (Q11 h0_).cells (cells_of_mark hS_ hh_ hh2_), fun h0_ => (Q14 h0_).cells (cells_of_mark hS_ hh_ hh2_), fun h0_ => (Q15 h0_).cells (cells_of_mark hS_ hh_ hh2_), fun h0_ => absurd ((hoff 16 (by kernel_rfl)).symm.trans h0_) (by decide), fun h0_ => absurd ((hoff 17 (by kernel_rfl)).symm.trans h0_) (by decide), fun h0_ => absurd ((hoff 18 (by kernel_rfl)).symm.trans h0_) (by decide)⟩
    refine steps_cons ?_ ?_
    · rintro b_ a_ w' ⟨v2, v3, m4, v8, v11, v14, v15, v16, v17, m18, ha, QX, Q2, Q3, Q4, Q8, Q11, Q14, Q15, Q16, Q17, Q18⟩ hbo_ hon hoff
      refine ⟨_, rfl, fun K hK => ?_⟩
      have e18 : a_.tmps[18]? = some (.pointer (some ⟨g1, 1, none⟩)) := by rw [ha]; exact (putSel_off rfl).trans rfl
      replace ha := Aside0.mk ha
      have HX := Aside0.mk QX
      clear QX
      have hc_ : w'.cell? ⟨g1, 1, none⟩ = some (.int .i64 kd) := (blk_cell HX.out.gt0 1).trans rfl
      refine value_ (w1 := w') (v := .int .i64 kd) (by rfl) rfl ?_ ?_
      · go_simp
        (try simp only [i64_w])
        try rfl
      refine hK.out _ _ ⟨v2, v3, m4, v8, v11, v14, v15, v16, v17, m18, (by rw [ha.out]; exact putSel_upk 4 hbo_ rfl rfl rfl), HX.out, Q2, Q3, Q4, fun h0_ => absurd ((hoff 8 (by kernel_rfl)).symm.trans h0_) (by decide), Q11, Q14, Q15, fun h0_ => absurd ((hoff 16 (by kernel_rfl)).symm.trans h0_) (by decide), fun h0_ => absurd ((hoff 17 (by kernel_rfl)).symm.trans h0_) (by decide), fun h0_ => absurd ((hoff 18 (by kernel_rfl)).symm.trans h0_) (by decide)⟩
    refine steps_cons ?_ ?_
    · rintro b_ a_ w' ⟨v2, v3, m4, v8, v11, v14, v15, v16, v17, m18, ha, QX, Q2, Q3, Q4, Q8, Q11, Q14, Q15, Q16, Q17, Q18⟩ hbo_ hon hoff
      refine ⟨_, rfl, fun K hK => ?_⟩
      have e19 : a_.tmps[19]? = some (.int .i64 kd) := by rw [ha]; exact putSel_on (e := (6, 19, .int .i64 kd)) 4 rfl rfl (hon 6 (by kernel_rfl)) rfl
      replace ha := Aside0.mk ha
      have HX := Aside0.mk QX
      clear QX
      refine value_ (w1 := w') (v := .int .u8 (kd % 256)) (by rfl) rfl ?_ ?_
      · go_simp
        (try simp only [i64_w])
        try rfl
      refine hK.out _ _ ⟨v2, v3, m4, v8, v11, v14, v15, v16, v17, m18, (by rw [ha.out]; exact putSel_upk 5 hbo_ rfl rfl rfl), HX.out, Q2, Q3, Q4, fun h0_ => absurd ((hoff 8 (by kernel_rfl)).symm.trans h0_) (by decide), Q11, Q14, Q15, fun h0_ => absurd ((hoff 16 (by kernel_rfl)).symm.trans h0_) (by decide), fun h0_ => absurd ((hoff 17 (by kernel_rfl)).symm.trans h0_) (by decide), fun h0_ => absurd ((hoff 18 (by kernel_rfl)).symm.trans h0_) (by decide)⟩
    refine steps_cons ?_ ?_
    · rintro b_ a_ w' ⟨v2, v3, m4, v8, v11, v14, v15, v16, v17, m18, ha, QX, Q2, Q3, Q4, Q8, Q11, Q14, Q15, Q16, Q17, Q18⟩ hbo_ hon hoff
      refine ⟨_, rfl, fun K hK => ?_⟩
      have e20 : a_.tmps[20]? = some (.int .u8 (kd % 256)) := by rw [ha]; exact putSel_on (e := (7, 20, .int .u8 (kd % 256))) 5 rfl rfl (hon 7 (by kernel_rfl)) rfl
      replace ha := Aside0.mk ha
      have HX := Aside0.mk QX
      clear QX
      refine Kd.R_lit_step (Kd.int .u8) _ 5 ?hg (N := 21) ?hd (xs := ([kd % 256, 0] : List Int)) (inner := [.int .u8 (kd % 256), .int .u8 0]) (ok := fun _ => True) (okp := fun _ => True) ?hr ?hp (fun _ hk => hk) trivial (Below.refl _ _) (Nat.le_refl _) (by simp) ?_; (case hd => rfl); (case hg => rfl); (case hr => first | (go_simp; done) | (go_simp; rfl)); (case hp => exact (Reps.one (show Kd.M (Kd.int .u8) _ _ _ _ [_] from rfl) (Reps.one (show Kd.M (Kd.int .u8) _ _ _ _ [_] from rfl) (Reps.none _ _))))
      intro vn_ w2_ ho hb_ hg_ hnew_
      clear hg_ hnew_
      have HBW := Aside0.mk HX.out.below.size
      replace HX := Aside0.mk (HX.out.step hb_)
      refine hK.out _ _ ⟨v2, v3, m4, vn_, v11, v14, v15, v16, v17, m18, (by rw [ha.out]; exact putSel_upk 6 hbo_ rfl rfl rfl), HX.out, fun h0_ => (Q2 h0_).below hb_, fun h0_ => (Q3 h0_).below hb_, fun h0_ => ⟨(Q4 h0_).1, (Q4 h0_).2.below hb_⟩, fun _ => RdP.of_R ho, fun h0_ => (Q11 h0_).below hb_, fun h0_ => (Q14 h0_).below hb_, fun h0_ => (Q15 h0_).below hb_, fun h0_ => absurd ((hoff 16 (by kernel_rfl)).symm.trans h0_) (by decide), fun h0_ => absurd ((hoff 17 (by kernel_rfl)).symm.trans h0_) (by decide), fun h0_ => absurd ((hoff 18 (by kernel_rfl)).symm.trans h0_) (by decide)⟩
    refine steps_cons ?_ ?_
    · rintro b_ a_ w' ⟨v2, v3, m4, v8, v11, v14, v15, v16, v17, m18, ha, QX, Q2, Q3, Q4, Q8, Q11, Q14, Q15, Q16, Q17, Q18⟩ hbo_ hon hoff
      refine ⟨_, rfl, fun K hK => ?_⟩
      have e22 : a_.tmps[22]? = some (.pointer (some ⟨g1, 2, none⟩)) := by rw [ha]; exact (putSel_off rfl).trans rfl
      replace ha := Aside0.mk ha
      have HX := Aside0.mk QX
      clear QX
      have hc_ : w'.cell? ⟨g1, 2, none⟩ = some (.int .u32 a) := (blk_cell HX.out.gt0 2).trans rfl
      refine value_ (w1 := w') (v := .int .u32 a) (by rfl) rfl ?_ ?_
      · go_simp
        (try simp only [i64_w])
        try rfl
      refine hK.out _ _ ⟨v2, v3, m4, v8, v11, v14, v15, v16, v17, m18, (by rw [ha.out]; exact putSel_upk 7 hbo_ rfl rfl rfl), HX.out, Q2, Q3, Q4, Q8, fun h0_ => absurd ((hoff 11 (by kernel_rfl)).symm.trans h0_) (by decide), fun h0_ => absurd ((hoff 14 (by kernel_rfl)).symm.trans h0_) (by decide), fun h0_ => absurd ((hoff 15 (by kernel_rfl)).symm.trans h0_) (by decide), fun h0_ => absurd ((hoff 16 (by kernel_rfl)).symm.trans h0_) (by decide), fun h0_ => absurd ((hoff 17 (by kernel_rfl)).symm.trans h0_) (by decide), fun h0_ => absurd ((hoff 18 (by kernel_rfl)).symm.trans h0_) (by decide)⟩
    refine steps_cons ?_ ?_
    · rintro b_ a_ w' ⟨v2, v3, m4, v8, v11, v14, v15, v16, v17, m18, ha, QX, Q2, Q3, Q4, Q8, Q11, Q14, Q15, Q16, Q17, Q18⟩ hbo_ hon hoff
      refine ⟨_, rfl, fun K hK => ?_⟩
      have e23 : a_.tmps[23]? = some (.int .u32 a) := by rw [ha]; exact putSel_on (e := (10, 23, .int .u32 a)) 7 rfl rfl (hon 10 (by kernel_rfl)) rfl
      replace ha := Aside0.mk ha
      have HX := Aside0.mk QX
      clear QX
      refine goes_ Try.func48 (by kernel_rfl) rfl #[.int .u32 a] (by rfl) rfl rfl (by first | (simp only [List.map_toArray, List.map_cons, List.map_nil, Act.eval, Array.getD_eq_getD_getElem?, Option.getD_some, e23]; done) | (simp only [List.map_toArray, List.map_cons, List.map_nil, Act.eval, Array.getD_eq_getD_getElem?, Option.getD_some, e23]; rfl)) ?_
      refine (spec_l2Four.calls a (P.leB 4 a) _ (P.four_is a HA.out)).mono ?_
      rintro e w2_ ⟨vn_, rfl, ho, hb_⟩
      refine ⟨_, rfl, ?_⟩
      replace HX := Aside0.mk (HX.out.step hb_)
      refine hK.out _ _ ⟨v2, v3, m4, v8, vn_, v14, v15, v16, v17, m18, (by rw [ha.out]; exact putSel_upk 8 hbo_ rfl rfl rfl), HX.out, fun h0_ => (Q2 h0_).below hb_, fun h0_ => (Q3 h0_).below hb_, fun h0_ => ⟨(Q4 h0_).1, (Q4 h0_).2.below hb_⟩, fun h0_ => (Q8 h0_).below hb_, fun _ => RdP.of_R ho, fun h0_ => absurd ((hoff 14 (by kernel_rfl)).symm.trans h0_) (by decide), fun h0_ => absurd ((hoff 15 (by kernel_rfl)).symm.trans h0_) (by decide), fun h0_ => absurd ((hoff 16 (by kernel_rfl)).symm.trans h0_) (by decide), fun h0_ => absurd ((hoff 17 (by kernel_rfl)).symm.trans h0_) (by decide), fun h0_ => absurd ((hoff 18 (by kernel_rfl)).symm.trans h0_) (by decide)⟩
    refine steps_cons ?_ ?_
    · rintro b_ a_ w' ⟨v2, v3, m4, v8, v11, v14, v15, v16, v17, m18, ha, QX, Q2, Q3, Q4, Q8, Q11, Q14, Q15, Q16, Q17, Q18⟩ hbo_ hon hoff
      refine ⟨_, rfl, fun K hK => ?_⟩
      have e25 : a_.tmps[25]? = some (.pointer (some ⟨g1, 3, none⟩)) := by rw [ha]; exact (putSel_off rfl).trans rfl
      replace ha := Aside0.mk ha
      have HX := Aside0.mk QX
      clear QX
      have hc_ : w'.cell? ⟨g1, 3, none⟩ = some (.int .u32 b) := (blk_cell HX.out.gt0 3).trans rfl
      refine value_ (w1 := w') (v := .int .u32 b) (by rfl) rfl ?_ ?_
      · go_simp
        (try simp only [i64_w])
        try rfl
      refine hK.out _ _ ⟨v2, v3, m4, v8, v11, v14, v15, v16, v17, m18, (by rw [ha.out]; exact putSel_upk 9 hbo_ rfl rfl rfl), HX.out, Q2, Q3, Q4, Q8, Q11, fun h0_ => absurd ((hoff 14 (by kernel_rfl)).symm.trans h0_) (by decide), fun h0_ => absurd ((hoff 15 (by kernel_rfl)).symm.trans h0_) (by decide), fun h0_ => absurd ((hoff 16 (by kernel_rfl)).symm.trans h0_) (by decide), fun h0_ => absurd ((hoff 17 (by kernel_rfl)).symm.trans h0_) (by decide), fun h0_ => absurd ((hoff 18 (by kernel_rfl)).symm.trans h0_) (by decide)⟩
    refine steps_cons ?_ ?_
    · rintro b_ a_ w' ⟨v2, v3, m4, v8, v11, v14, v15, v16, v17, m18, ha, QX, Q2, Q3, Q4, Q8, Q11, Q14, Q15, Q16, Q17, Q18⟩ hbo_ hon hoff
      refine ⟨_, rfl, fun K hK => ?_⟩
      have e26 : a_.tmps[26]? = some (.int .u32 b) := by rw [ha]; exact putSel_on (e := (13, 26, .int .u32 b)) 9 rfl rfl (hon 13 (by kernel_rfl)) rfl
      replace ha := Aside0.mk ha
      have HX := Aside0.mk QX
      clear QX
      refine goes_ Try.func48 (by kernel_rfl) rfl #[.int .u32 b] (by rfl) rfl rfl (by first | (simp only [List.map_toArray, List.map_cons, List.map_nil, Act.eval, Array.getD_eq_getD_getElem?, Option.getD_some, e26]; done) | (simp only [List.map_toArray, List.map_cons, List.map_nil, Act.eval, Array.getD_eq_getD_getElem?, Option.getD_some, e26]; rfl)) ?_
      refine (spec_l2Four.calls b (P.leB 4 b) _ (P.four_is b HBb.out)).mono ?_
      rintro e w2_ ⟨vn_, rfl, ho, hb_⟩
      refine ⟨_, rfl, ?_⟩
      replace HX := Aside0.mk (HX.out.step hb_)
      refine hK.out _ _ ⟨v2, v3, m4, v8, v11, vn_, v15, v16, v17, m18, (by rw [ha.out]; exact putSel_upk 10 hbo_ rfl rfl rfl), HX.out, fun h0_ => (Q2 h0_).below hb_, fun h0_ => (Q3 h0_).below hb_, fun h0_ => ⟨(Q4 h0_).1, (Q4 h0_).2.below hb_⟩, fun h0_ => (Q8 h0_).below hb_, fun h0_ => (Q11 h0_).below hb_, fun _ => RdP.of_R ho, fun h0_ => absurd ((hoff 15 (by kernel_rfl)).symm.trans h0_) (by decide), fun h0_ => absurd ((hoff 16 (by kernel_rfl)).symm.trans h0_) (by decide), fun h0_ => absurd ((hoff 17 (by kernel_rfl)).symm.trans h0_) (by decide), fun h0_ => absurd ((hoff 18 (by kernel_rfl)).symm.trans h0_) (by decide)⟩
    refine steps_cons ?_ ?_
    · rintro b_ a_ w' ⟨v2, v3, m4, v8, v11, v14, v15, v16, v17, m18, ha, QX, Q2, Q3, Q4, Q8, Q11, Q14, Q15, Q16, Q17, Q18⟩ hbo_ hon hoff
      refine ⟨_, rfl, fun K hK => ?_⟩
      replace ha := Aside0.mk ha
      have HX := Aside0.mk QX
      clear QX
      refine goes_ Try.func49 (by kernel_rfl) rfl #[.int .i64 40] (by rfl) rfl rfl (by first | (simp only [List.map_toArray, List.map_cons, List.map_nil, Act.eval, Array.getD_eq_getD_getElem?, Option.getD_some, List.map_nil]; done) | (simp only [List.map_toArray, List.map_cons, List.map_nil, Act.eval, Array.getD_eq_getD_getElem?, Option.getD_some, List.map_nil]; rfl)) ?_
      refine (spec_l1Zeros.calls kz 40 (List.replicate 40 0) _ HZ.out).mono ?_
      rintro e w2_ ⟨vn_, rfl, ho, hb_⟩
      refine ⟨_, rfl, ?_⟩
      replace HX := Aside0.mk (HX.out.step hb_)
      refine hK.out _ _ ⟨v2, v3, m4, v8, v11, v14, vn_, v16, v17, m18, (by rw [ha.out]; exact putSel_upk 11 hbo_ rfl rfl rfl), HX.out, fun h0_ => (Q2 h0_).below hb_, fun h0_ => (Q3 h0_).below hb_, fun h0_ => ⟨(Q4 h0_).1, (Q4 h0_).2.below hb_⟩, fun h0_ => (Q8 h0_).below hb_, fun h0_ => (Q11 h0_).below hb_, fun h0_ => (Q14 h0_).below hb_, fun _ => RdP.of_R ho, fun h0_ => absurd ((hoff 16 (by kernel_rfl)).symm.trans h0_) (by decide), fun h0_ => absurd ((hoff 17 (by kernel_rfl)).symm.trans h0_) (by decide), fun h0_ => absurd ((hoff 18 (by kernel_rfl)).symm.trans h0_) (by decide)⟩
    refine steps_cons ?_ ?_
    · rintro b_ a_ w' ⟨v2, v3, m4, v8, v11, v14, v15, v16, v17, m18, ha, QX, Q2, Q3, Q4, Q8, Q11, Q14, Q15, Q16, Q17, Q18⟩ hbo_ hon hoff
      refine ⟨_, rfl, fun K hK => ?_⟩
      have e15 : a_.tmps[15]? = some (v2) := by rw [ha]; exact putSel_on (e := (2, 15, v2)) 1 rfl rfl (hon 2 (by kernel_rfl)) rfl
      have e17 : a_.tmps[17]? = some (m4) := by rw [ha]; exact putSel_on (e := (4, 17, m4)) 3 rfl rfl (hon 4 (by kernel_rfl)) rfl
      have e21 : a_.tmps[21]? = some (v8) := by rw [ha]; exact putSel_on (e := (8, 21, v8)) 6 rfl rfl (hon 8 (by kernel_rfl)) rfl
      have e24 : a_.tmps[24]? = some (v11) := by rw [ha]; exact putSel_on (e := (11, 24, v11)) 8 rfl rfl (hon 11 (by kernel_rfl)) rfl
      have e27 : a_.tmps[27]? = some (v14) := by rw [ha]; exact putSel_on (e := (14, 27, v14)) 10 rfl rfl (hon 14 (by kernel_rfl)) rfl
      have e28 : a_.tmps[28]? = some (v15) := by rw [ha]; exact putSel_on (e := (15, 28, v15)) 11 rfl rfl (hon 15 (by kernel_rfl)) rfl
      replace ha := Aside0.mk ha
      have HX := Aside0.mk QX
      clear QX
      obtain ⟨A0_, c0_, ev0_, hl0_, hC0_⟩ := Q2 (hon 2 (by kernel_rfl))
      rw [ev0_] at e15
      obtain ⟨A1_, c1_, ev1_, hl1_, hC1_⟩ := (Q4 (hon 4 (by kernel_rfl))).2
      rw [ev1_] at e17
      obtain ⟨A2_, c2_, ev2_, hl2_, hC2_⟩ := Q8 (hon 8 (by kernel_rfl))
      rw [ev2_] at e21
      obtain ⟨A3_, c3_, ev3_, hl3_, hC3_⟩ := Q11 (hon 11 (by kernel_rfl))
      rw [ev3_] at e24
      obtain ⟨A4_, c4_, ev4_, hl4_, hC4_⟩ := Q14 (hon 14 (by kernel_rfl))
      rw [ev4_] at e27
      obtain ⟨A5_, c5_, ev5_, hl5_, hC5_⟩ := Q15 (hon 15 (by kernel_rfl))
      rw [ev5_] at e28
      refine Kd.N_lit_step (Kd.slice 5 (Kd.int .u8)) _ 25 ?hg (N' := 29) ?hd (xs := ([P.leB 4 q, [74, 49], [kd % 256, 0], P.leB 4 a, P.leB 4 b, List.replicate 40 0] : List (List Int))) (inner := [.slice A0_ (P.leB 4 q).length c0_, .slice A1_ ([74, 49]).length c1_, .slice A2_ ([kd % 256, 0]).length c2_, .slice A3_ (P.leB 4 a).length c3_, .slice A4_ (P.leB 4 b).length c4_, .slice A5_ (List.replicate 40 0).length c5_]) (ok := fun _ => True) (okp := fun _ => True) ?hr ?hp (fun _ hk => hk) trivial (Below.refl _ _) (Nat.le_refl _) (by simp) ?_; (case hd => rfl); (case hg => rfl); (case hr => first | (go_simp; done) | (go_simp; rfl)); (case hp => exact (Reps.one (RdP.FK hl0_ hC0_) (Reps.one (RdP.FK hl1_ hC1_) (Reps.one (RdP.FK hl2_ hC2_) (Reps.one (RdP.FK hl3_ hC3_) (Reps.one (RdP.FK hl4_ hC4_) (Reps.one (RdP.FK hl5_ hC5_) (Reps.none _ _))))))))
      intro vn_ w2_ ho hb_ hg_ hnew_
      clear hg_ hnew_
      replace HX := Aside0.mk (HX.out.step hb_)
      refine hK.out _ _ ⟨v2, v3, m4, v8, v11, v14, v15, vn_, v17, m18, (by rw [ha.out]; exact putSel_upk 12 hbo_ rfl rfl rfl), HX.out, fun h0_ => (Q2 h0_).below hb_, fun h0_ => (Q3 h0_).below hb_, fun h0_ => ⟨(Q4 h0_).1, (Q4 h0_).2.below hb_⟩, fun h0_ => (Q8 h0_).below hb_, fun h0_ => (Q11 h0_).below hb_, fun h0_ => (Q14 h0_).below hb_, fun h0_ => (Q15 h0_).below hb_, fun _ => RowsP.of_N ho, fun h0_ => absurd ((hoff 17 (by kernel_rfl)).symm.trans h0_) (by decide), fun h0_ => absurd ((hoff 18 (by kernel_rfl)).symm.trans h0_) (by decide)⟩
    refine steps_cons ?_ ?_
    · rintro b_ a_ w' ⟨v2, v3, m4, v8, v11, v14, v15, v16, v17, m18, ha, QX, Q2, Q3, Q4, Q8, Q11, Q14, Q15, Q16, Q17, Q18⟩ hbo_ hon hoff
      refine ⟨_, rfl, fun K hK => ?_⟩
      have e29 : a_.tmps[29]? = some (v16) := by rw [ha]; exact putSel_on (e := (16, 29, v16)) 12 rfl rfl (hon 16 (by kernel_rfl)) rfl
      replace ha := Aside0.mk ha
      have HX := Aside0.mk QX
      clear QX
      obtain ⟨A_, c_, ev_, hl_, hC_⟩ := Q16 (hon 16 (by kernel_rfl))
      rw [ev_] at e29
      refine goes_ Try.func47 (by kernel_rfl) rfl #[.slice A_ ([P.leB 4 q, [74, 49], [kd % 256, 0], P.leB 4 a, P.leB 4 b, List.replicate 40 0]).length c_] (by rfl) rfl rfl (by first | (simp only [List.map_toArray, List.map_cons, List.map_nil, Act.eval, Array.getD_eq_getD_getElem?, Option.getD_some, e29]; done) | (simp only [List.map_toArray, List.map_cons, List.map_nil, Act.eval, Array.getD_eq_getD_getElem?, Option.getD_some, e29]; rfl)) ?_
      refine (spec_l2Cat.calls k1 _ c_ [P.leB 4 q, [74, 49], [kd % 256, 0], P.leB 4 a, P.leB 4 b, List.replicate 40 0] fh _ hC_ hl_ HC1.out).mono ?_
      rintro e w2_ ⟨vn_, rfl, ho, hb_⟩
      refine ⟨_, rfl, ?_⟩
      replace HX := Aside0.mk (HX.out.step hb_)
      refine hK.out _ _ ⟨v2, v3, m4, v8, v11, v14, v15, v16, vn_, m18, (by rw [ha.out]; exact putSel_upk 13 hbo_ rfl rfl rfl), HX.out, fun h0_ => (Q2 h0_).below hb_, fun h0_ => (Q3 h0_).below hb_, fun h0_ => ⟨(Q4 h0_).1, (Q4 h0_).2.below hb_⟩, fun h0_ => (Q8 h0_).below hb_, fun h0_ => (Q11 h0_).below hb_, fun h0_ => (Q14 h0_).below hb_, fun h0_ => (Q15 h0_).below hb_, fun h0_ => (Q16 h0_).below hb_, fun _ => RdP.of_R ho, fun h0_ => absurd ((hoff 18 (by kernel_rfl)).symm.trans h0_) (by decide)⟩
    refine steps_cons ?_ ?_
    · rintro b_ a_ w' ⟨v2, v3, m4, v8, v11, v14, v15, v16, v17, m18, ha, QX, Q2, Q3, Q4, Q8, Q11, Q14, Q15, Q16, Q17, Q18⟩ hbo_ hon hoff
      refine ⟨_, rfl, fun K hK => ?_⟩
      have e30 : a_.tmps[30]? = some (v17) := by rw [ha]; exact putSel_on (e := (17, 30, v17)) 13 rfl rfl (hon 17 (by kernel_rfl)) rfl
      replace ha := Aside0.mk ha
      have HX := Aside0.mk QX
      clear QX
      refine value_ (w1 := w') (v := v17) (by rfl) rfl ?_ ?_
      · go_simp
        try rfl
      refine hK.out _ _ ⟨v2, v3, m4, v8, v11, v14, v15, v16, v17, v17, (by rw [ha.out]; exact putSel_upk 14 hbo_ rfl rfl rfl), HX.out, Q2, Q3, Q4, Q8, Q11, Q14, Q15, Q16, Q17, fun _ => rfl⟩
    exact steps_nil
  rintro b_ a_ w105 hall ⟨v2, v3, m4, v8, v11, v14, v15, v16, v17, m18, ha, QX, Q2, Q3, Q4, Q8, Q11, Q14, Q15, Q16, Q17, Q18⟩
  have hb1_ := hall 1 (by kernel_rfl)
  have hb2_ := hall 2 (by kernel_rfl)
  have hb3_ := hall 3 (by kernel_rfl)
  have hb4_ := hall 4 (by kernel_rfl)
  have hb6_ := hall 6 (by kernel_rfl)
  have hb7_ := hall 7 (by kernel_rfl)
  have hb8_ := hall 8 (by kernel_rfl)
  have hb10_ := hall 10 (by kernel_rfl)
  have hb11_ := hall 11 (by kernel_rfl)
  have hb13_ := hall 13 (by kernel_rfl)
  have hb14_ := hall 14 (by kernel_rfl)
  have hb15_ := hall 15 (by kernel_rfl)
  have hb16_ := hall 16 (by kernel_rfl)
  have hb17_ := hall 17 (by kernel_rfl)
  have hb18_ := hall 18 (by kernel_rfl)
  subst ha
  simp only [putSel, hb1_, hb2_, hb3_, hb4_, hb6_, hb7_, hb8_, hb10_, hb11_, hb13_, hb14_, hb15_, hb16_, hb17_, hb18_, if_true, Act.put, List.setIfInBounds_toArray, List.set_cons_zero, List.set_cons_succ]
  have H106 := Aside0.mk QX
  clear QX
  have F2 := Aside0.mk (Q2 hb2_)
  clear Q2
  have F3 := Aside0.mk (Q3 hb3_)
  clear Q3
  have F4 := Aside0.mk (Q4 hb4_)
  clear Q4
  have F8 := Aside0.mk (Q8 hb8_)
  clear Q8
  have F11 := Aside0.mk (Q11 hb11_)
  clear Q11
  have F14 := Aside0.mk (Q14 hb14_)
  clear Q14
  have F15 := Aside0.mk (Q15 hb15_)
  clear Q15
  have F16 := Aside0.mk (Q16 hb16_)
  clear Q16
  have F17 := Aside0.mk (Q17 hb17_)
  clear Q17
  have F18 := Aside0.mk (Q18 hb18_)
  clear Q18
  clear hall hb1_ hb2_ hb3_ hb4_ hb6_ hb7_ hb8_ hb10_ hb11_ hb13_ hb14_ hb15_ hb16_ hb17_ hb18_
  have hm18 := F18.out
  subst hm18
  obtain ⟨A17, c17, e17, hl17, hC17⟩ := F17.out
  subst e17
  have HL17 := Aside0.mk hl17
  have FC := Aside0.mk hC17
  clear F2 F3 F4 F8 F11 F14 F15 F16 F18 F17 hl17 hC17
  try go_wp2
  have H108 := Aside0.mk H106.out.drew
  have n9_ := Aside0.mk (Kd.C_below FC.out (below_drew1 (Below.refl w105.heap.size w105)))
  clear FC
  have FC := n9_
  clear n9_
  refine start_ (n := 10) (S := fun w' => w'.cell? ⟨g1, 0, none⟩ = some (.int .u32 q)) (ds := []) #[false, false, false, false, false, false, false, false, false, false] (by kernel_rfl) rfl rfl ((blk_cell H108.out.gt0 0).trans rfl) (fun hHeld => ?_)
  clear H106
  generalize w105.drew = w107 at H108 FC hHeld ⊢
  refine pure_ (i := 0) (N := some 31) (v := ?_) (a' := ?_) #[true, false, false, false, false, false, false, false, false, false] rfl rfl (by kernel_rfl) (fun _ _ _ h => h) (Or.inl ⟨by rfl, ?_⟩) ?_ ?_
  rotate_left
  · intro w'
    go_simp
    with_reducible rfl
  rotate_left
  · simp only [Act.put, List.setIfInBounds_toArray, List.set_cons_zero, List.set_cons_succ, i64_w, i32_w]
    rfl
  refine pure_ (i := 1) (N := some 32) (v := ?_) (a' := ?_) #[true, true, false, false, false, false, false, false, false, false] rfl rfl (by kernel_rfl) (fun _ _ _ h => h) (Or.inl ⟨by rfl, ?_⟩) ?_ ?_
  rotate_left
  · intro w'
    go_simp
    with_reducible rfl
  rotate_left
  · simp only [Act.put, List.setIfInBounds_toArray, List.set_cons_zero, List.set_cons_succ, i64_w, i32_w]
    rfl
  refine pure_ (i := 4) (N := some 35) (v := ?_) (a' := ?_) #[true, true, false, false, true, false, false, false, false, false] rfl rfl (by kernel_rfl) (fun _ _ _ h => h) (Or.inl ⟨by rfl, ?_⟩) ?_ ?_
  rotate_left
  · intro w'
    go_simp
    with_reducible rfl
  rotate_left
  · simp only [Act.put, List.setIfInBounds_toArray, List.set_cons_zero, List.set_cons_succ, i64_w, i32_w]
    rfl
  refine take_ (i := 5) (N := some 36) (v := ?_) (a' := ?_) #[true, true, false, false, true, true, false, false, false, false] rfl rfl (by kernel_rfl) (fun _ _ _ h => h) (Or.inl ⟨by rfl, ?_⟩) hHeld ?_ ?_
  rotate_left
  · rintro w' s0
    go_simp
    with_reducible rfl
  rotate_left
  · simp only [Act.put, List.setIfInBounds_toArray, List.set_cons_zero, List.set_cons_succ, i64_w, i32_w]
    rfl
  refine one_ (i := 2) (N := some 33) #[true, true, true, false, true, true, false, false, false, false] rfl rfl (by kernel_rfl) (by decide) (fun K hK => ?_)
  refine goes_ Try.func50 (by kernel_rfl) rfl #[.slice A17 fh.length c17] (by rfl) rfl rfl (by (try simp only [List.map_toArray, List.map_cons, List.map_nil]); first | done | rfl) ?_
  refine (spec_Crc32.calls kc _ c17 fh c _ FC.out HL17.out HCR.out).mono ?_
  rintro e w110 ⟨rfl, hd_⟩
  refine ⟨_, rfl, ?_⟩
  have hb_ := hd_.below
  clear hd_
  have HBW2 := Aside0.mk H108.out.below.size
  have H111 := Aside0.mk (H108.out.step hb_)
  have n12_ := Aside0.mk (Kd.C_below FC.out hb_)
  clear FC
  have FC := n12_
  clear n12_
  clear hb_ H108
  refine hK.out _ _ ((blk_cell H111.out.gt0 0).trans rfl) (fun hHeld => ?_)
  clear hK K
  refine norm_ (a' := ?_) ?_ ?_
  rotate_left
  · show Act.put _ (some 33) _ = _
    simp only [Act.put, List.setIfInBounds_toArray, List.set_cons_zero, List.set_cons_succ, i64_w, i32_w]
    rfl
  refine one_ (i := 3) (N := some 34) #[true, true, true, true, true, true, false, false, false, false] rfl rfl (by kernel_rfl) (by decide) (fun K hK => ?_)
  refine goes_ Try.func48 (by kernel_rfl) rfl #[.int .u32 c] (by rfl) rfl rfl (by (try simp only [List.map_toArray, List.map_cons, List.map_nil]); first | done | rfl) ?_
  refine (spec_l2Four.calls c (P.leB 4 c) _ (P.four_is c HC.out)).mono ?_
  rintro e w113 ⟨v3_, rfl, ho, hb_⟩
  refine ⟨_, rfl, ?_⟩
  have HBW3 := Aside0.mk H111.out.below.size
  have H114 := Aside0.mk (H111.out.step hb_)
  have n15_ := Aside0.mk (Kd.C_below FC.out hb_)
  clear FC
  have FC := n15_
  clear n15_
  clear hb_ H111
  obtain ⟨A3, c3, e3, hl3, hC3⟩ := RdP.of_R ho
  subst e3
  have HL3 := Aside0.mk hl3
  have FC3 := Aside0.mk hC3
  clear hl3 hC3 ho
  refine hK.out _ _ ((blk_cell H114.out.gt0 0).trans rfl) (fun hHeld => ?_)
  clear hK K
  refine norm_ (a' := ?_) ?_ ?_
  rotate_left
  · show Act.put _ (some 34) _ = _
    simp only [Act.put, List.setIfInBounds_toArray, List.set_cons_zero, List.set_cons_succ, i64_w, i32_w]
    rfl
  refine one_ (i := 6) (N := some 37) #[true, true, true, true, true, true, true, false, false, false] rfl rfl (by kernel_rfl) (by decide) (fun K hK => ?_)
  refine goes_ Try.func48 (by kernel_rfl) rfl #[.int .u32 q] (by rfl) rfl rfl (by (try simp only [List.map_toArray, List.map_cons, List.map_nil]); first | done | rfl) ?_
  refine (spec_l2Four.calls q (P.leB 4 q) _ (P.four_is q HQ.out)).mono ?_
  rintro e w116 ⟨v6_, rfl, ho, hb_⟩
  refine ⟨_, rfl, ?_⟩
  have HBW6 := Aside0.mk H114.out.below.size
  have H117 := Aside0.mk (H114.out.step hb_)
  have n18_ := Aside0.mk (Kd.C_below FC.out hb_)
  clear FC
  have FC := n18_
  clear n18_
  have n19_ := Aside0.mk (Kd.C_below FC3.out hb_)
  clear FC3
  have FC3 := n19_
  clear n19_
  clear hb_ H114
  obtain ⟨A6, c6, e6, hl6, hC6⟩ := RdP.of_R ho
  subst e6
  have HL6 := Aside0.mk hl6
  have FC6 := Aside0.mk hC6
  clear hl6 hC6 ho
  refine hK.out _ _ ((blk_cell H117.out.gt0 0).trans rfl) (fun hHeld => ?_)
  clear hK K
  refine norm_ (a' := ?_) ?_ ?_
  rotate_left
  · show Act.put _ (some 37) _ = _
    simp only [Act.put, List.setIfInBounds_toArray, List.set_cons_zero, List.set_cons_succ, i64_w, i32_w]
    rfl
  refine one_ (i := 7) (N := some 38) #[true, true, true, true, true, true, true, true, false, false] rfl rfl (by kernel_rfl) (by decide) (fun K hK => ?_)
  refine Kd.N_lit_step (Kd.slice 5 (Kd.int .u8)) _ 25 ?hg (N' := 38) ?hd (xs := ([fh, P.leB 4 c, P.leB 4 q] : List (List Int))) (inner := [.slice A17 fh.length c17, .slice A3 (P.leB 4 c).length c3, .slice A6 (P.leB 4 q).length c6]) (ok := fun _ => True) (okp := fun _ => True) ?hr ?hp (fun _ hk => hk) trivial (Below.refl _ _) (Nat.le_refl _) (by simp) ?_; (case hd => rfl); (case hg => rfl); (case hr => first | (go_simp; done) | (go_simp; rfl)); (case hp => exact (Reps.one (RdP.FK HL17.out FC.out) (Reps.one (RdP.FK HL3.out FC3.out) (Reps.one (RdP.FK HL6.out FC6.out) (Reps.none _ _)))))
  intro v7_ w120 ho hb_ hg_ hnew_
  clear hg_ hnew_
  obtain ⟨A7, c7, e7, hl7, hC7⟩ := RowsP.of_N ho
  subst e7
  have HL7 := Aside0.mk hl7
  have FC7 := Aside0.mk hC7
  clear hl7 hC7 ho
  have H121 := Aside0.mk (H117.out.step hb_)
  have n22_ := Aside0.mk (Kd.C_below FC.out hb_)
  clear FC
  have FC := n22_
  clear n22_
  have n23_ := Aside0.mk (Kd.C_below FC3.out hb_)
  clear FC3
  have FC3 := n23_
  clear n23_
  have n24_ := Aside0.mk (Kd.C_below FC6.out hb_)
  clear FC6
  have FC6 := n24_
  clear n24_
  clear hb_ H117
  refine hK.out _ _ ((blk_cell H121.out.gt0 0).trans rfl) (fun hHeld => ?_)
  clear hK K
  refine norm_ (a' := ?_) ?_ ?_
  rotate_left
  · show Act.put _ (some 38) _ = _
    simp only [Act.put, List.setIfInBounds_toArray, List.set_cons_zero, List.set_cons_succ, i64_w, i32_w]
    rfl
  refine one_ (i := 8) (N := some 39) #[true, true, true, true, true, true, true, true, true, false] rfl rfl (by kernel_rfl) (by decide) (fun K hK => ?_)
  refine goes_ Try.func47 (by kernel_rfl) rfl #[.slice A7 ([fh, P.leB 4 c, P.leB 4 q]).length c7] (by rfl) rfl rfl (by (try simp only [List.map_toArray, List.map_cons, List.map_nil]); first | done | rfl) ?_
  refine (spec_l2Cat.calls k2 _ c7 [fh, P.leB 4 c, P.leB 4 q] r _ FC7.out HL7.out HC2.out).mono ?_
  rintro e w125 ⟨v8_, rfl, ho, hb_⟩
  refine ⟨_, rfl, ?_⟩
  have HBW8 := Aside0.mk H121.out.below.size
  have H126 := Aside0.mk (H121.out.step hb_)
  clear hb_ H121
  refine hK.out _ _ ((blk_cell H126.out.gt0 0).trans rfl) (fun hHeld => ?_)
  clear hK K
  refine norm_ (a' := ?_) ?_ ?_
  rotate_left
  · show Act.put _ (some 39) _ = _
    simp only [Act.put, List.setIfInBounds_toArray, List.set_cons_zero, List.set_cons_succ, i64_w, i32_w]
    rfl
  have HRr := Aside0.mk (Kd.R_lower ho HBW8.out)
  clear ho
  refine pure_ (i := 9) (N := some 2) (v := ?_) (a' := ?_) #[true, true, true, true, true, true, true, true, true, true] rfl rfl (by kernel_rfl) (fun _ _ _ h => h) (Or.inl ⟨by rfl, ?_⟩) ?_ ?_
  rotate_left
  · intro w'
    go_simp
    with_reducible rfl
  rotate_left
  · simp only [Act.put, List.setIfInBounds_toArray, List.set_cons_zero, List.set_cons_succ, i64_w, i32_w]
    rfl
  refine done_ (by kernel_rfl) ?_
  clear hHeld
  go_wp2
  go_ret
  exact ⟨_, rfl, HRr.out, H126.out.below⟩
set_option maxHeartbeats 8000000 in
set_option maxRecDepth 100000 in
theorem specFrame_none {q kd a b : Int} {w : World} (hk : ¬ (1 ≤ kd ∧ kd ≤ 3)) :
    Calls Try.prog 11 #[.agg #[.int .u32 q, .int .i64 kd, .int .u32 a, .int .u32 b]] w fun e w' => ∃ v0_ : Value, e = .returned (v0_) ∧ Kd.R (Kd.int .u8) 5 w' w.heap.size (fun _ => True) v0_ [] ∧ Below w.heap.size w w' := by
  have H0 := Aside0.mk (Bx.refl w)
  have HK := Aside0.mk hk
  clear hk
  go_enter Try.func11, Try.ntmps11
  go_wp2_with (first | ((with_reducible refine gate_dst (N := 1) rfl ?_); refine Aside0.out ?_))
  refine Aside0.mk ?_
  refine mk ?hw1 (N := 1) ?hd1 (cs := #[.int .u32 q, .int .i64 kd, .int .u32 a, .int .u32 b]) (t := 27) ?hr1 ?_
  case hd1 => rfl
  case hw1 => rfl
  case hr1 => first | (go_simp; done) | (go_simp; rfl)
  intro g1 hg1_ w101 hb1 hB1
  have H102 := Aside0.mk (H0.out.new hg1_ hb1 hB1)
  clear hg1_ hb1 hB1 H0
  have hk1 : w101.cell? ⟨g1, 1, none⟩ = some (.int .i64 kd) := (blk_cell H102.out.gt0 1).trans rfl
  by_cases c1 : kd < 1
  all_goals
    first | have k1b : decide (kd < 1) = true := decide_eq_true (by assumption) | have k1b : decide (kd < 1) = false := decide_eq_false (by assumption)
    try have k3b : decide (3 < kd) = true := decide_eq_true (by have := HK.out; omega)
    clear c1
    go_wp2_with (first | ((with_reducible refine gate_dst (N := 12) rfl ?_); refine Aside0.out ?_))
    refine Aside0.mk ?_
    refine Kd.R_lit (Kd.int .u8) _ 5 ?hg (N := 12) ?hd (xs := ([] : List Int)) (inner := []) (ok := fun _ => True) (okp := fun _ => True) ?hr ?hp (fun _ hk => hk) trivial (Below.refl _ _) (Nat.le_refl _) (by simp) ?_
    case hd => rfl
    case hg => rfl
    case hr => first | (go_simp; done) | (go_simp; rfl)
    case hp => exact (Reps.none _ _)
    intro v12_ w2_ ho hb_ hg_ hnew_
    clear hg_ hnew_
    have HRr := Aside0.mk (Kd.R_lower ho H102.out.below.size)
    have HX := Aside0.mk (H102.out.step hb_)
    clear ho hb_ hk1
    go_wp2
    go_ret
    exact ⟨_, rfl, HRr.out, HX.out.below⟩
theorem spec_EncodeFrame.calls (a0_0 : Int) (a0_1 : Int) (a0_2 : Int) (a0_3 : Int) (r : List Int) (w : World) (h : spec_EncodeFrame.f a0_0 a0_1 a0_2 a0_3 = some r) :
    Calls Try.prog 11 #[.agg #[.int .u32 a0_0, .int .i64 a0_1, .int .u32 a0_2, .int .u32 a0_3]] w fun e w' => ∃ v0_ : Value, e = .returned (v0_) ∧ Kd.R (Kd.int .u8) 5 w' w.heap.size (fun _ => True) v0_ r ∧ Below w.heap.size w w' := by
  unfold spec_EncodeFrame.f at h
  by_cases hsz : (0 ≤ a0_0 ∧ a0_0 ≤ 4294967295) ∧ (0 ≤ a0_2 ∧ a0_2 ≤ 4294967295) ∧ (0 ≤ a0_3 ∧ a0_3 ≤ 4294967295)
  case neg => rw [if_neg hsz] at h; cases h
  rw [if_pos hsz] at h
  have h := Option.some.inj h
  by_cases hk : 1 ≤ a0_1 ∧ a0_1 ≤ 3
  · rw [if_pos hk] at h
    subst h
    have hc := P.crc32_range (frameHead a0_0 a0_1 a0_2 a0_3)
    unfold P.U32 at hc
    obtain ⟨kz, hz⟩ := (P.zeros_ev 40 (by decide)).ex
    obtain ⟨k1, hc1⟩ := (P.cat_ev [P.leB 4 a0_0, [74, 49], [a0_1 % 256, 0], P.leB 4 a0_2, P.leB 4 a0_3, List.replicate 40 0] (by show 6 ≤ 1048576; decide) (by show 56 ≤ 1048576; decide)).ex
    obtain ⟨kc, hcr⟩ := (P.spec_Crc32_ev (frameHead a0_0 a0_1 a0_2 a0_3) (by show 56 ≤ 4611686018427387904; decide)).ex
    obtain ⟨k2, hc2⟩ := (P.cat_ev [frameHead a0_0 a0_1 a0_2 a0_3, P.leB 4 (P.crc32 (frameHead a0_0 a0_1 a0_2 a0_3)), P.leB 4 a0_0] (by show 3 ≤ 1048576; decide) (by show 64 ≤ 1048576; decide)).ex
    exact specFrame_raw hsz.1 hsz.2.1 hsz.2.2 hk hz hc1 hcr (by omega) hc2
  · rw [if_neg hk] at h
    subst h
    exact specFrame_none hk
end Go.Proofs.Ytgfadfahbhcllaa.Q
namespace Go.Proofs.Ytgfadfahbhcllaa.P
open Go.RowKit Go.Proofs.YtgfadfahbhcllaaW.PrintWords Go.Proofs.YtgfadfahbhcllaaW.PrintMore Go.Proofs.Ytgfadfahbhcllaa.Q
set_option linter.unusedVariables false
set_option linter.unusedSimpArgs false
/-- The bytes that EncodeFrame answers. -/
def encF (q kd a b : Int) : List Int := if 1 ≤ kd ∧ kd ≤ 3 then frameCode q kd a b else []
theorem encF_length (q kd a b : Int) : (encF q kd a b).length ≤ 64 := by
  unfold encF
  split
  · exact Nat.le_of_eq rfl
  · simp
/-- Bytes as text: the same text, the same bytes. -/
theorem str_inj {l m : List Int} (hl : U8s l) (hm : U8s m) (h : (strOfNums l).toList = (strOfNums m).toList) : l = m := by
  have e : ∀ x : List Int, (strOfNums x).toList = x.map fun n => UInt8.ofNat n.toNat := fun x => by rw [ByteArray.toList_eq]; rfl
  rw [e, e] at h
  have hlen : l.length = m.length := by have := congrArg List.length h; simpa using this
  refine List.ext_getElem hlen (fun i h1 h2 => ?_)
  have h3 := congrArg (·[i]?) h
  simp only [List.getElem?_map, List.getElem?_eq_getElem h1, List.getElem?_eq_getElem h2, Option.map_some, Option.some.injEq] at h3
  have r1 := hl _ (List.getElem_mem h1)
  have r2 := hm _ (List.getElem_mem h2)
  have h4 := congrArg UInt8.toNat h3
  simp [UInt8.toNat_ofNat'] at h4
  omega
theorem leB_u8 (n : Nat) (x : Int) : U8s (leB n x) := by
  intro z hz
  unfold leB at hz
  obtain ⟨i, _, rfl⟩ := List.mem_map.1 hz
  omega
theorem frameHead_u8 (q kd a b : Int) : U8s (frameHead q kd a b) := by
  intro z hz
  unfold frameHead at hz
  simp only [List.mem_append, List.mem_cons, List.not_mem_nil, or_false] at hz
  rcases hz with hz | (hz | hz | hz | hz) | hz | hz | hz
  · exact leB_u8 _ _ z hz
  · omega
  · omega
  · omega
  · omega
  · exact leB_u8 _ _ z hz
  · exact leB_u8 _ _ z hz
  · have := List.eq_of_mem_replicate hz; omega
theorem frameCode_u8 (q kd a b : Int) : U8s (frameCode q kd a b) := by
  intro z hz
  unfold frameCode at hz
  simp only [List.mem_append] at hz
  rcases hz with hz | hz | hz
  · exact frameHead_u8 _ _ _ _ z hz
  · exact leB_u8 _ _ z hz
  · exact leB_u8 _ _ z hz
theorem encF_u8 (q kd a b : Int) : U8s (encF q kd a b) := by
  unfold encF
  split
  · exact frameCode_u8 _ _ _ _
  · exact fun z hz => by cases hz
end Go.Proofs.Ytgfadfahbhcllaa.P
namespace Go.Proofs.Ytgfadfahbhcllaa.Q
open Go.RowKit Go.Proofs.YtgfadfahbhcllaaW.PrintWords Go.Proofs.YtgfadfahbhcllaaW.PrintLast Go.Proofs.YtgfadfahbhcllaaW.PrintMore Go.Proofs.Ytgfadfahbhcllaa.LK
theorem str_frame {l : List Int} {q kd a b : Int} (hu : P.U8s l) (h64 : l.length = 64) (hI : isFrame l = ((1 ≤ kd ∧ kd ≤ 3) ∧ frameCode q kd a b = l)) : ((strOfNums (P.encF q kd a b)).toList == (strOfNums l).toList) = decide (isFrame l) := by
  by_cases hf : isFrame l
  · have h := hf
    rw [hI] at h
    rw [decide_eq_true hf, beq_iff_eq]
    unfold P.encF
    rw [if_pos h.1, h.2]
  · rw [decide_eq_false hf, beq_eq_false_iff_ne]
    intro he
    have e := P.str_inj (P.encF_u8 q kd a b) hu he
    apply hf
    rw [hI]
    unfold P.encF at e
    by_cases hk : 1 ≤ kd ∧ kd ≤ 3
    · rw [if_pos hk] at e
      exact ⟨hk, e⟩
    · rw [if_neg hk] at e
      rw [← e] at h64
      cases h64
/-- A slice of bytes as a text. -/
theorem conv_str {P : Program} {t e u : TypeId} {w : World} {A : Option Addr} {c : Nat} {xs : List Int} (ht : P.underlying t = some (.slice e)) (he : P.underlying e = some (.int .u8)) (hu : P.underlying u = some .string) (h : Kd.C (Kd.int .u8) w A xs.length xs) :
    (convert t u (.slice A xs.length c)).run P w = .ok (.string (strOfNums xs)) w := by
  obtain ⟨h1, h2, h3⟩ := Kd.reads_of_C (enc := Value.int .u8) (d := (0 : Int)) (h1 := fun _ => rfl) h
  cases A with
  | none =>
    have h0 : xs.length = 0 := by
      rcases Nat.eq_zero_or_pos xs.length with h0 | h0
      · exact h0
      · obtain ⟨ad, e, _⟩ := h3 h0
        cases e
    obtain rfl := List.eq_nil_of_length_eq_zero h0
    exact run_convert_bytes_nil w t e ht he 0 c u hu
  | some ad =>
    have hl : (loadCells ad xs.length).run P w = .ok (xs.map (Value.int .u8)).toArray w := by
      have := run_loadCells_list (P := P) w ad (xs.map (Value.int .u8)) (fun j v hj => by
        have hjl : j < xs.length := by
          rcases Nat.lt_or_ge j xs.length with h | h
          · exact h
          · simp [List.getElem?_eq_none (show (xs.map (Value.int .u8)).length ≤ j by simpa using h)] at hj
        obtain ⟨ad', e', hc⟩ := h3 (by omega)
        injection e' with e'
        subst e'
        rw [hc j hjl]
        simp [List.getElem?_eq_getElem hjl] at hj
        subst hj
        simp [List.getD, List.getElem?_eq_getElem hjl])
      simpa using this
    rw [run_convert_bytes_string w t u e _ xs.length c ht he hu, run_bytesToString w _ xs.length c xs hl, foldl_push_bytes]
    simp [strOfNums, ByteArray.empty, ByteArray.emptyWithCapacity]
    rfl
end Go.Proofs.Ytgfadfahbhcllaa.Q
