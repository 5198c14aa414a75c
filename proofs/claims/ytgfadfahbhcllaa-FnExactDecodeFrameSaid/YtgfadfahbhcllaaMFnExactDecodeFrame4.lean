/- Part 4 of 4 of the proof that the law FnExactDecodeFrame returns true at every input. No further condition. -/
import Derived.Test.YtgfadfahbhcllaaWWords
import Derived.ChangeArms
import Derived.DataReads
import Derived.Test.YtgfadfahbhcllaaRows
import Derived.WalkKit
import Derived.ProofKit
import Derived.OpenShut
import Derived.ShutString
import Derived.ChangeOld
import Derived.Below
import Derived.SizedLaws
import Derived.Test.YtgfadfahbhcllaaMFnExactDecodeFrame3
namespace Go.Proofs.Ytgfadfahbhcllaa.Q
open Go.RowKit Go.Proofs.YtgfadfahbhcllaaW.PrintWords Go.Proofs.YtgfadfahbhcllaaW.PrintLast Go.Proofs.YtgfadfahbhcllaaW.PrintMore Go.Proofs.Ytgfadfahbhcllaa.LK
set_option linter.unusedVariables false
set_option linter.unusedSimpArgs false
def spec_DecodeFrame.f (l0 : List Int) : Option (Bool × Int × Int × Int × Int) :=
  if P.U8s l0 then some (if l0.length = 64 ∧ isFrame l0 then (true, fSeq l0, fKind l0, fA l0, fB l0) else (false, 0, 0, 0, 0)) else none
set_option maxHeartbeats 8000000 in
set_option maxRecDepth 100000 in
theorem spec_DecodeFrame.calls (A0 : Option Addr) (c0 : Nat) (l0 : List Int) (r1 : Bool) (r2 : Int) (r3 : Int) (r4 : Int) (r5 : Int) (w : World) (hr0 : Kd.C (Kd.int .u8) w A0 l0.length l0) (hc0 : l0.length ≤ c0) (h : spec_DecodeFrame.f l0 = some (r1, r2, r3, r4, r5)) :
    Calls Try.prog 17 #[.slice A0 l0.length c0] w fun e w' => e = .returned (.agg #[.bool r1, .int .u32 r2, .int .i64 r3, .int .u32 r4, .int .u32 r5]) ∧ Below w.heap.size w w' := by
  unfold spec_DecodeFrame.f at h
  by_cases hu : P.U8s l0
  case neg => rw [if_neg hu] at h; cases h
  rw [if_pos hu] at h
  have h := Option.some.inj h
  have HU := Aside0.mk hu
  have HR0 := Aside0.mk hr0
  have HC0 := Aside0.mk hc0
  have H := Aside0.mk h
  have H0 := Aside0.mk (Bx.refl w)
  clear hu hr0 hc0 h
  go_enter Try.func17, Try.ntmps17
  go_wp2_with (first | ((with_reducible refine gate_dst (N := 2) rfl ?_); refine Aside0.out ?_))
  refine Aside0.mk ?_
  refine mk ?hw1 (N := 2) ?hd1 (cs := #[.bool false, .int .u32 0, .int .i64 0, .int .u32 0, .int .u32 0]) (t := 33) ?hr1 ?_
  case hd1 => rfl
  case hw1 => rfl
  case hr1 => first | (go_simp; done) | (go_simp; rfl)
  intro g2 hg2_ w101 hb1 hB1
  have H102 := Aside0.mk (H0.out.new hg2_ hb1 hB1)
  clear hg2_ hb1 hB1 H0
  by_cases h64 : l0.length = 64
  · have h64b : ((l0.length : Int) != 64) = false := bne_eq_false_iff_eq.mpr (by omega)
    have H64 := Aside0.mk h64
    have g0 := P.spec_get l0 0 HU.out (by decide) (by omega) (by omega)
    have g8 := P.spec_get l0 8 HU.out (by decide) (by omega) (by omega)
    have g12 := P.spec_get l0 12 HU.out (by decide) (by omega) (by omega)
    have h6 : l0[6]? = some (fKind l0) := by unfold fKind; rw [List.getD_eq_getElem?_getD, List.getElem?_eq_getElem (by omega)]; rfl
    have r6 := HU.out.at_ h6
    have r0 := num4 HU.out 0 (by omega)
    have r8 := num4 HU.out 8 (by omega)
    have r12 := num4 HU.out 12 (by omega)
    obtain ⟨q, eq⟩ : ∃ q, q = fSeq l0 := ⟨_, rfl⟩
    obtain ⟨a, ea⟩ : ∃ a, a = fA l0 := ⟨_, rfl⟩
    obtain ⟨b, eb⟩ : ∃ b, b = fB l0 := ⟨_, rfl⟩
    obtain ⟨kd, ek⟩ : ∃ kd, kd = fKind l0 := ⟨_, rfl⟩
    have G0 := Aside0.mk (show spec_l2Get.f l0 0 = some q from by rw [eq]; exact g0)
    have G8 := Aside0.mk (show spec_l2Get.f l0 8 = some a from by rw [ea]; exact g8)
    have G12 := Aside0.mk (show spec_l2Get.f l0 12 = some b from by rw [eb]; exact g12)
    have R0 := Aside0.mk (show 0 ≤ q ∧ q ≤ 4294967295 from by rw [eq]; exact r0)
    have R8 := Aside0.mk (show 0 ≤ a ∧ a ≤ 4294967295 from by rw [ea]; exact r8)
    have R12 := Aside0.mk (show 0 ≤ b ∧ b ≤ 4294967295 from by rw [eb]; exact r12)
    rw [← ek] at h6 r6
    have jk : IntKind.i64.wrap kd = kd := by rw [IntKind.wrap_i64]; omega
    have HI := Aside0.mk (show isFrame l0 = ((1 ≤ kd ∧ kd ≤ 3) ∧ frameCode q kd a b = l0) from by rw [eq, ea, eb, ek]; rfl)
    have h := H.out
    rw [← eq, ← ea, ← eb, ← ek] at h
    replace H := Aside0.mk h
    have hrd := Kd.reads_of_C (enc := Value.int .u8) (d := (0 : Int)) (h1 := fun _ => rfl) HR0.out
    have HRd := Aside0.mk hrd
    obtain ⟨ad, eA, hcell⟩ := hrd.2.2 (by omega)
    subst eA
    have hc6 := hcell 6 (by omega)
    rw [show l0.getD 6 0 = kd from by rw [List.getD_eq_getElem?_getD, h6]; rfl] at hc6
    have HC6 := Aside0.mk (show w.cell? ⟨ad.block, ad.off + 6, none⟩ = some (.int .u8 kd) from hc6)
    have q6 : ((6 : Int) < (l0.length : Int)) = True := eq_true (by omega)
    clear g0 g8 g12 h6 r6 r0 r8 r12 eq ea eb ek h hrd hcell hc6 h64
    try go_wp2
    have H104 := Aside0.mk H102.out.drew
    refine start_ (n := 13) (S := fun w' => w'.cell? ⟨ad.block, ad.off + 6, none⟩ = some (.int .u8 kd)) (ds := [12]) #[false, false, false, false, false, false, false, false, false, false, false, false, false] (by kernel_rfl) rfl rfl (pw_cell_below H104.out.below HC6.out) (fun hHeld => ?_)
    clear H102
    generalize w101.drew = w103 at H104 hHeld ⊢
    refine pure_ (i := 0) (N := some 8) (v := ?_) (a' := ?_) #[true, false, false, false, false, false, false, false, false, false, false, false, false] rfl rfl (by kernel_rfl) (fun _ _ _ h => h) (Or.inl ⟨by rfl, ?_⟩) ?_ ?_
    rotate_left
    · intro w'
      go_simp
      with_reducible rfl
    rotate_left
    · simp only [Act.put, List.setIfInBounds_toArray, List.set_cons_zero, List.set_cons_succ, i64_w, i32_w]
      rfl
    refine pure_ (i := 2) (N := some 10) (v := ?_) (a' := ?_) #[true, false, true, false, false, false, false, false, false, false, false, false, false] rfl rfl (by kernel_rfl) (fun _ _ _ h => h) (Or.inl ⟨by rfl, ?_⟩) ?_ ?_
    rotate_left
    · intro w'
      go_simp
      with_reducible rfl
    rotate_left
    · simp only [Act.put, List.setIfInBounds_toArray, List.set_cons_zero, List.set_cons_succ, i64_w, i32_w]
      rfl
    refine pure_ (i := 3) (N := some 11) (v := ?_) (a' := ?_) #[true, false, true, true, false, false, false, false, false, false, false, false, false] rfl rfl (by kernel_rfl) (fun _ _ _ h => h) (Or.inl ⟨by rfl, ?_⟩) ?_ ?_
    rotate_left
    · intro w'
      go_simp
      with_reducible rfl
    rotate_left
    · simp only [Act.put, List.setIfInBounds_toArray, List.set_cons_zero, List.set_cons_succ, i64_w, i32_w]
      rfl
    refine pure_ (i := 6) (N := some 14) (v := ?_) (a' := ?_) #[true, false, true, true, false, false, true, false, false, false, false, false, false] rfl rfl (by kernel_rfl) (fun _ _ _ h => h) (Or.inl ⟨by rfl, ?_⟩) ?_ ?_
    rotate_left
    · intro w'
      go_simp
      with_reducible rfl
    rotate_left
    · simp only [Act.put, List.setIfInBounds_toArray, List.set_cons_zero, List.set_cons_succ, i64_w, i32_w]
      rfl
    refine pure_ (i := 8) (N := some 16) (v := ?_) (a' := ?_) #[true, false, true, true, false, false, true, false, true, false, false, false, false] rfl rfl (by kernel_rfl) (fun _ _ _ h => h) (Or.inl ⟨by rfl, ?_⟩) ?_ ?_
    rotate_left
    · intro w'
      go_simp
      with_reducible rfl
    rotate_left
    · simp only [Act.put, List.setIfInBounds_toArray, List.set_cons_zero, List.set_cons_succ, i64_w, i32_w]
      rfl
    refine take_ (i := 4) (N := some 12) (v := ?_) (a' := ?_) #[true, false, true, true, true, false, true, false, true, false, false, false, false] rfl rfl (by kernel_rfl) (fun _ _ _ h => h) (Or.inl ⟨by rfl, ?_⟩) hHeld ?_ ?_
    rotate_left
    · rintro w' s0
      go_simp
      with_reducible rfl
    rotate_left
    · simp only [Act.put, List.setIfInBounds_toArray, List.set_cons_zero, List.set_cons_succ, i64_w, i32_w]
      rfl
    refine pure_ (i := 5) (N := some 13) (v := ?_) (a' := ?_) #[true, false, true, true, true, true, true, false, true, false, false, false, false] rfl rfl (by kernel_rfl) (fun _ _ _ h => h) (Or.inl ⟨by rfl, ?_⟩) ?_ ?_
    rotate_left
    · intro w'
      go_simp
      with_reducible rfl
    rotate_left
    · simp only [Act.put, List.setIfInBounds_toArray, List.set_cons_zero, List.set_cons_succ, i64_w, i32_w]
      rfl
    refine join_ (σ := Nat) 1 #[true, true, true, true, true, true, true, true, true, true, true, true, false] (fun s_ => [(9, .int .u32 q), (15, .int .u32 a), (17, .int .u32 b), (18, .agg #[.int .u32 q, .int .i64 kd, .int .u32 a, .int .u32 b]), (3, .pointer (some ⟨s_, 0, none⟩))]) (fun s_ w' => (w'.cell? ⟨ad.block, ad.off + 6, none⟩ = some (.int .u8 kd)) ∧ Bx w [(s_, #[.int .u32 0, .int .i64 0, .int .u32 0, .int .u32 0], 27), (g2, #[.bool false, .int .u32 0, .int .i64 0, .int .u32 0, .int .u32 0], 33)] w') ?_ ?_
    rotate_left
    · intro hCont
      refine two_ (i := 1) (j := 11) (Ni := some 9) (Nj := some 3) #[true, true, true, true, true, true, true, false, true, false, false, false, false] #[true, false, true, true, true, true, true, false, true, false, false, true, false] rfl rfl rfl rfl (by kernel_rfl) (by decide) (by decide) (fun K hK => ?_) (fun K hK => ?_)
      · skip
        refine goes_ Try.func53 (by kernel_rfl) rfl #[.slice (some ad) l0.length c0, .int .i64 0] (by rfl) rfl rfl (by (try simp only [List.map_toArray, List.map_cons, List.map_nil]); first | done | rfl) ?_
        refine (spec_l2Get.calls _ c0 l0 0 q _ (Kd.C_below HR0.out H104.out.below) HC0.out G0.out).mono ?_
        rintro e w105 ⟨rfl, hd_⟩
        refine ⟨_, rfl, ?_⟩
        have hb_ := hd_.below
        clear hd_
        have H106 := Aside0.mk (H104.out.step hb_)
        clear hb_ H104
        refine hK.out _ _ (pw_cell_below H106.out.below HC6.out) (fun hHeld => ?_)
        clear hK K
        refine norm_ (a' := ?_) ?_ ?_
        rotate_left
        · show Act.put _ (some 9) _ = _
          simp only [Act.put, List.setIfInBounds_toArray, List.set_cons_zero, List.set_cons_succ, i64_w, i32_w]
          rfl
        refine two_ (i := 7) (j := 11) (Ni := some 15) (Nj := some 3) #[true, true, true, true, true, true, true, true, true, false, false, false, false] #[true, true, true, true, true, true, true, false, true, false, false, true, false] rfl rfl rfl rfl (by kernel_rfl) (by decide) (by decide) (fun K hK => ?_) (fun K hK => ?_)
        · skip
          refine goes_ Try.func53 (by kernel_rfl) rfl #[.slice (some ad) l0.length c0, .int .i64 8] (by rfl) rfl rfl (by (try simp only [List.map_toArray, List.map_cons, List.map_nil]); first | done | rfl) ?_
          refine (spec_l2Get.calls _ c0 l0 8 a _ (Kd.C_below HR0.out H106.out.below) HC0.out G8.out).mono ?_
          rintro e w107 ⟨rfl, hd_⟩
          refine ⟨_, rfl, ?_⟩
          have hb_ := hd_.below
          clear hd_
          have H108 := Aside0.mk (H106.out.step hb_)
          clear hb_ H106
          refine hK.out _ _ (pw_cell_below H108.out.below HC6.out) (fun hHeld => ?_)
          clear hK K
          refine norm_ (a' := ?_) ?_ ?_
          rotate_left
          · show Act.put _ (some 15) _ = _
            simp only [Act.put, List.setIfInBounds_toArray, List.set_cons_zero, List.set_cons_succ, i64_w, i32_w]
            rfl
          refine two_ (i := 9) (j := 11) (Ni := some 17) (Nj := some 3) #[true, true, true, true, true, true, true, true, true, true, false, false, false] #[true, true, true, true, true, true, true, true, true, false, false, true, false] rfl rfl rfl rfl (by kernel_rfl) (by decide) (by decide) (fun K hK => ?_) (fun K hK => ?_)
          · skip
            refine goes_ Try.func53 (by kernel_rfl) rfl #[.slice (some ad) l0.length c0, .int .i64 12] (by rfl) rfl rfl (by (try simp only [List.map_toArray, List.map_cons, List.map_nil]); first | done | rfl) ?_
            refine (spec_l2Get.calls _ c0 l0 12 b _ (Kd.C_below HR0.out H108.out.below) HC0.out G12.out).mono ?_
            rintro e w109 ⟨rfl, hd_⟩
            refine ⟨_, rfl, ?_⟩
            have hb_ := hd_.below
            clear hd_
            have H110 := Aside0.mk (H108.out.step hb_)
            clear hb_ H108
            refine hK.out _ _ (pw_cell_below H110.out.below HC6.out) (fun hHeld => ?_)
            clear hK K
            refine norm_ (a' := ?_) ?_ ?_
            rotate_left
            · show Act.put _ (some 17) _ = _
              simp only [Act.put, List.setIfInBounds_toArray, List.set_cons_zero, List.set_cons_succ, i64_w, i32_w]
              rfl
            refine pure_ (i := 10) (N := some 18) (v := ?_) (a' := ?_) #[true, true, true, true, true, true, true, true, true, true, true, false, false] rfl rfl (by kernel_rfl) (fun _ _ _ h => h) (Or.inl ⟨by rfl, ?_⟩) ?_ ?_
            rotate_left
            · intro w'
              go_simp
              with_reducible rfl
            rotate_left
            · simp only [Act.put, List.setIfInBounds_toArray, List.set_cons_zero, List.set_cons_succ, i64_w, i32_w]
              rfl
            refine one_ (i := 11) (N := some 3) #[true, true, true, true, true, true, true, true, true, true, true, true, false] rfl rfl (by kernel_rfl) (by decide) (fun K hK => ?_)
            refine box_step ?hg11 (N := 3) ?hd11 (cs := #[.int .u32 0, .int .i64 0, .int .u32 0, .int .u32 0]) (t := 27) ?hr11 ?_
            case hd11 => rfl
            case hg11 => rfl
            case hr11 => first | (go_simp; done) | (go_simp; rfl)
            intro g3 hg3_ w111 hb11 hB11
            have H112 := Aside0.mk (H110.out.new hg3_ hb11 hB11)
            clear hg3_ hb11 hB11 H110
            refine hK.out _ _ (pw_cell_below H112.out.below HC6.out) (fun hHeld => ?_)
            clear hK K
            refine norm_ (a' := ?_) ?_ ?_
            rotate_left
            · show Act.put _ (some 3) _ = _
              simp only [Act.put, List.setIfInBounds_toArray, List.set_cons_zero, List.set_cons_succ, i64_w, i32_w]
              rfl
            exact norm_ (by simp only [putAll, Act.put, List.setIfInBounds_toArray, List.set_cons_zero, List.set_cons_succ]) (hCont g3 _ ⟨hHeld, H112.out⟩)
          · skip
            refine box_step ?hg13 (N := 3) ?hd13 (cs := #[.int .u32 0, .int .i64 0, .int .u32 0, .int .u32 0]) (t := 27) ?hr13 ?_
            case hd13 => rfl
            case hg13 => rfl
            case hr13 => first | (go_simp; done) | (go_simp; rfl)
            intro g3 hg3_ w113 hb13 hB13
            have H114 := Aside0.mk (H108.out.new hg3_ hb13 hB13)
            clear hg3_ hb13 hB13 H108
            refine hK.out _ _ (pw_cell_below H114.out.below HC6.out) (fun hHeld => ?_)
            clear hK K
            refine norm_ (a' := ?_) ?_ ?_
            rotate_left
            · show Act.put _ (some 3) _ = _
              simp only [Act.put, List.setIfInBounds_toArray, List.set_cons_zero, List.set_cons_succ, i64_w, i32_w]
              rfl
            refine one_ (i := 9) (N := some 17) #[true, true, true, true, true, true, true, true, true, true, false, true, false] rfl rfl (by kernel_rfl) (by decide) (fun K hK => ?_)
            refine goes_ Try.func53 (by kernel_rfl) rfl #[.slice (some ad) l0.length c0, .int .i64 12] (by rfl) rfl rfl (by (try simp only [List.map_toArray, List.map_cons, List.map_nil]); first | done | rfl) ?_
            refine (spec_l2Get.calls _ c0 l0 12 b _ (Kd.C_below HR0.out H114.out.below) HC0.out G12.out).mono ?_
            rintro e w115 ⟨rfl, hd_⟩
            refine ⟨_, rfl, ?_⟩
            have hb_ := hd_.below
            clear hd_
            have H116 := Aside0.mk (H114.out.step hb_)
            clear hb_ H114
            refine hK.out _ _ (pw_cell_below H116.out.below HC6.out) (fun hHeld => ?_)
            clear hK K
            refine norm_ (a' := ?_) ?_ ?_
            rotate_left
            · show Act.put _ (some 17) _ = _
              simp only [Act.put, List.setIfInBounds_toArray, List.set_cons_zero, List.set_cons_succ, i64_w, i32_w]
              rfl
            refine pure_ (i := 10) (N := some 18) (v := ?_) (a' := ?_) #[true, true, true, true, true, true, true, true, true, true, true, true, false] rfl rfl (by kernel_rfl) (fun _ _ _ h => h) (Or.inl ⟨by rfl, ?_⟩) ?_ ?_
            rotate_left
            · intro w'
              go_simp
              with_reducible rfl
            rotate_left
            · simp only [Act.put, List.setIfInBounds_toArray, List.set_cons_zero, List.set_cons_succ, i64_w, i32_w]
              rfl
            exact norm_ (by simp only [putAll, Act.put, List.setIfInBounds_toArray, List.set_cons_zero, List.set_cons_succ]) (hCont g3 _ ⟨hHeld, H116.out⟩)
        · skip
          refine box_step ?hg17 (N := 3) ?hd17 (cs := #[.int .u32 0, .int .i64 0, .int .u32 0, .int .u32 0]) (t := 27) ?hr17 ?_
          case hd17 => rfl
          case hg17 => rfl
          case hr17 => first | (go_simp; done) | (go_simp; rfl)
          intro g3 hg3_ w117 hb17 hB17
          have H118 := Aside0.mk (H106.out.new hg3_ hb17 hB17)
          clear hg3_ hb17 hB17 H106
          refine hK.out _ _ (pw_cell_below H118.out.below HC6.out) (fun hHeld => ?_)
          clear hK K
          refine norm_ (a' := ?_) ?_ ?_
          rotate_left
          · show Act.put _ (some 3) _ = _
            simp only [Act.put, List.setIfInBounds_toArray, List.set_cons_zero, List.set_cons_succ, i64_w, i32_w]
            rfl
          refine one_ (i := 7) (N := some 15) #[true, true, true, true, true, true, true, true, true, false, false, true, false] rfl rfl (by kernel_rfl) (by decide) (fun K hK => ?_)
          refine goes_ Try.func53 (by kernel_rfl) rfl #[.slice (some ad) l0.length c0, .int .i64 8] (by rfl) rfl rfl (by (try simp only [List.map_toArray, List.map_cons, List.map_nil]); first | done | rfl) ?_
          refine (spec_l2Get.calls _ c0 l0 8 a _ (Kd.C_below HR0.out H118.out.below) HC0.out G8.out).mono ?_
          rintro e w119 ⟨rfl, hd_⟩
          refine ⟨_, rfl, ?_⟩
          have hb_ := hd_.below
          clear hd_
          have H120 := Aside0.mk (H118.out.step hb_)
          clear hb_ H118
          refine hK.out _ _ (pw_cell_below H120.out.below HC6.out) (fun hHeld => ?_)
          clear hK K
          refine norm_ (a' := ?_) ?_ ?_
          rotate_left
          · show Act.put _ (some 15) _ = _
            simp only [Act.put, List.setIfInBounds_toArray, List.set_cons_zero, List.set_cons_succ, i64_w, i32_w]
            rfl
          refine one_ (i := 9) (N := some 17) #[true, true, true, true, true, true, true, true, true, true, false, true, false] rfl rfl (by kernel_rfl) (by decide) (fun K hK => ?_)
          refine goes_ Try.func53 (by kernel_rfl) rfl #[.slice (some ad) l0.length c0, .int .i64 12] (by rfl) rfl rfl (by (try simp only [List.map_toArray, List.map_cons, List.map_nil]); first | done | rfl) ?_
          refine (spec_l2Get.calls _ c0 l0 12 b _ (Kd.C_below HR0.out H120.out.below) HC0.out G12.out).mono ?_
          rintro e w121 ⟨rfl, hd_⟩
          refine ⟨_, rfl, ?_⟩
          have hb_ := hd_.below
          clear hd_
          have H122 := Aside0.mk (H120.out.step hb_)
          clear hb_ H120
          refine hK.out _ _ (pw_cell_below H122.out.below HC6.out) (fun hHeld => ?_)
          clear hK K
          refine norm_ (a' := ?_) ?_ ?_
          rotate_left
          · show Act.put _ (some 17) _ = _
            simp only [Act.put, List.setIfInBounds_toArray, List.set_cons_zero, List.set_cons_succ, i64_w, i32_w]
            rfl
          refine pure_ (i := 10) (N := some 18) (v := ?_) (a' := ?_) #[true, true, true, true, true, true, true, true, true, true, true, true, false] rfl rfl (by kernel_rfl) (fun _ _ _ h => h) (Or.inl ⟨by rfl, ?_⟩) ?_ ?_
          rotate_left
          · intro w'
            go_simp
            with_reducible rfl
          rotate_left
          · simp only [Act.put, List.setIfInBounds_toArray, List.set_cons_zero, List.set_cons_succ, i64_w, i32_w]
            rfl
          exact norm_ (by simp only [putAll, Act.put, List.setIfInBounds_toArray, List.set_cons_zero, List.set_cons_succ]) (hCont g3 _ ⟨hHeld, H122.out⟩)
      · skip
        refine box_step ?hg23 (N := 3) ?hd23 (cs := #[.int .u32 0, .int .i64 0, .int .u32 0, .int .u32 0]) (t := 27) ?hr23 ?_
        case hd23 => rfl
        case hg23 => rfl
        case hr23 => first | (go_simp; done) | (go_simp; rfl)
        intro g3 hg3_ w123 hb23 hB23
        have H124 := Aside0.mk (H104.out.new hg3_ hb23 hB23)
        clear hg3_ hb23 hB23 H104
        refine hK.out _ _ (pw_cell_below H124.out.below HC6.out) (fun hHeld => ?_)
        clear hK K
        refine norm_ (a' := ?_) ?_ ?_
        rotate_left
        · show Act.put _ (some 3) _ = _
          simp only [Act.put, List.setIfInBounds_toArray, List.set_cons_zero, List.set_cons_succ, i64_w, i32_w]
          rfl
        refine one_ (i := 1) (N := some 9) #[true, true, true, true, true, true, true, false, true, false, false, true, false] rfl rfl (by kernel_rfl) (by decide) (fun K hK => ?_)
        refine goes_ Try.func53 (by kernel_rfl) rfl #[.slice (some ad) l0.length c0, .int .i64 0] (by rfl) rfl rfl (by (try simp only [List.map_toArray, List.map_cons, List.map_nil]); first | done | rfl) ?_
        refine (spec_l2Get.calls _ c0 l0 0 q _ (Kd.C_below HR0.out H124.out.below) HC0.out G0.out).mono ?_
        rintro e w125 ⟨rfl, hd_⟩
        refine ⟨_, rfl, ?_⟩
        have hb_ := hd_.below
        clear hd_
        have H126 := Aside0.mk (H124.out.step hb_)
        clear hb_ H124
        refine hK.out _ _ (pw_cell_below H126.out.below HC6.out) (fun hHeld => ?_)
        clear hK K
        refine norm_ (a' := ?_) ?_ ?_
        rotate_left
        · show Act.put _ (some 9) _ = _
          simp only [Act.put, List.setIfInBounds_toArray, List.set_cons_zero, List.set_cons_succ, i64_w, i32_w]
          rfl
        refine one_ (i := 7) (N := some 15) #[true, true, true, true, true, true, true, true, true, false, false, true, false] rfl rfl (by kernel_rfl) (by decide) (fun K hK => ?_)
        refine goes_ Try.func53 (by kernel_rfl) rfl #[.slice (some ad) l0.length c0, .int .i64 8] (by rfl) rfl rfl (by (try simp only [List.map_toArray, List.map_cons, List.map_nil]); first | done | rfl) ?_
        refine (spec_l2Get.calls _ c0 l0 8 a _ (Kd.C_below HR0.out H126.out.below) HC0.out G8.out).mono ?_
        rintro e w127 ⟨rfl, hd_⟩
        refine ⟨_, rfl, ?_⟩
        have hb_ := hd_.below
        clear hd_
        have H128 := Aside0.mk (H126.out.step hb_)
        clear hb_ H126
        refine hK.out _ _ (pw_cell_below H128.out.below HC6.out) (fun hHeld => ?_)
        clear hK K
        refine norm_ (a' := ?_) ?_ ?_
        rotate_left
        · show Act.put _ (some 15) _ = _
          simp only [Act.put, List.setIfInBounds_toArray, List.set_cons_zero, List.set_cons_succ, i64_w, i32_w]
          rfl
        refine one_ (i := 9) (N := some 17) #[true, true, true, true, true, true, true, true, true, true, false, true, false] rfl rfl (by kernel_rfl) (by decide) (fun K hK => ?_)
        refine goes_ Try.func53 (by kernel_rfl) rfl #[.slice (some ad) l0.length c0, .int .i64 12] (by rfl) rfl rfl (by (try simp only [List.map_toArray, List.map_cons, List.map_nil]); first | done | rfl) ?_
        refine (spec_l2Get.calls _ c0 l0 12 b _ (Kd.C_below HR0.out H128.out.below) HC0.out G12.out).mono ?_
        rintro e w129 ⟨rfl, hd_⟩
        refine ⟨_, rfl, ?_⟩
        have hb_ := hd_.below
        clear hd_
        have H130 := Aside0.mk (H128.out.step hb_)
        clear hb_ H128
        refine hK.out _ _ (pw_cell_below H130.out.below HC6.out) (fun hHeld => ?_)
        clear hK K
        refine norm_ (a' := ?_) ?_ ?_
        rotate_left
        · show Act.put _ (some 17) _ = _
          simp only [Act.put, List.setIfInBounds_toArray, List.set_cons_zero, List.set_cons_succ, i64_w, i32_w]
          rfl
        refine pure_ (i := 10) (N := some 18) (v := ?_) (a' := ?_) #[true, true, true, true, true, true, true, true, true, true, true, true, false] rfl rfl (by kernel_rfl) (fun _ _ _ h => h) (Or.inl ⟨by rfl, ?_⟩) ?_ ?_
        rotate_left
        · intro w'
          go_simp
          with_reducible rfl
        rotate_left
        · simp only [Act.put, List.setIfInBounds_toArray, List.set_cons_zero, List.set_cons_succ, i64_w, i32_w]
          rfl
        exact norm_ (by simp only [putAll, Act.put, List.setIfInBounds_toArray, List.set_cons_zero, List.set_cons_succ]) (hCont g3 _ ⟨hHeld, H130.out⟩)
    rintro g3 w131 ⟨hHeld, hX_⟩
    have H132 := Aside0.mk hX_
    clear hX_ H104
    refine norm_ (a' := ?_) ?_ ?_
    rotate_left
    · simp only [putAll, Act.put, List.setIfInBounds_toArray, List.set_cons_zero, List.set_cons_succ]
      rfl
    refine last_ (i := 12) (N := none) #[true, true, true, true, true, true, true, true, true, true, true, true, true] rfl rfl (by kernel_rfl) (by decide) (fun K hK => ?_)
    refine st_step (by rfl) rfl rfl ?hp33 (cs := #[.int .u32 q, .int .i64 kd, .int .u32 a, .int .u32 b]) ?hx33 H132.out.gt0 (by kernel_rfl) (rfl) (by simp [Value.oneCell']) ?_
    case hp33 => rfl
    case hx33 => rfl
    intro w133 hb33 hS33
    have H134 := Aside0.mk (H132.out.wr0 (cs' := #[.int .u32 q, .int .i64 kd, .int .u32 a, .int .u32 b]) hb33 hS33)
    clear hb33 hS33 H132
    refine hK.out _ _ ?_
    clear hK K
    refine done_ (by kernel_rfl) ?_
    try go_wp2
    have H136 := Aside0.mk H134.out.drew
    refine start_ (n := 6) (S := fun w' => w'.heap[g3]? = some (.cells #[.int .u32 q, .int .i64 kd, .int .u32 a, .int .u32 b] 27 (0, 0)) ∧ Kd.C (Kd.int .u8) w' (some ad) l0.length l0) (ds := []) #[false, false, false, false, false, false] (by kernel_rfl) rfl rfl ⟨H136.out.gt0, Kd.C_below HR0.out H136.out.below⟩ (fun hHeld => ?_)
    clear H134
    generalize w133.drew = w135 at H136 hHeld ⊢
    refine pure_ (i := 3) (N := some 22) (v := ?_) (a' := ?_) #[false, false, false, true, false, false] rfl rfl (by kernel_rfl) (fun _ _ _ h => h) (Or.inl ⟨by rfl, ?_⟩) ?_ ?_
    rotate_left
    · intro w'
      go_simp
      with_reducible rfl
    rotate_left
    · simp only [Act.put, List.setIfInBounds_toArray, List.set_cons_zero, List.set_cons_succ, i64_w, i32_w]
      rfl
    refine take_ (i := 0) (N := some 19) (v := .agg #[.int .u32 q, .int .i64 kd, .int .u32 a, .int .u32 b]) (a' := ?_) #[true, false, false, true, false, false] rfl rfl (by kernel_rfl) (fun _ _ _ h => h) (Or.inl ⟨by rfl, ?yl37⟩) hHeld ?ha37 ?hh37
    case yl37 =>
      rintro w' ⟨s0, s1⟩
      exact ld_run (x := .tmp 3) (by rfl) (by rfl) s0 Try.underlying27 rfl (by kernel_rfl)
    case ha37 =>
      simp only [Act.put, List.setIfInBounds_toArray, List.set_cons_zero, List.set_cons_succ, i64_w, i32_w]
      rfl
    refine take_ (i := 4) (N := some 23) (v := .string (strOfNums l0)) (a' := ?_) #[true, false, false, true, true, false] rfl rfl (by kernel_rfl) (fun _ _ _ h => h) (Or.inl ⟨by rfl, ?yl38⟩) hHeld ?ha38 ?hh38
    case yl38 =>
      rintro w' ⟨s0, s1⟩
      go_simp
      rw [conv_str (P := Try.prog) (t := 25) (e := 5) (u := 9) Try.underlying25 Try.underlying5 Try.underlying9 s1]
      first | rfl | (simp [Result.andThen]; done)
    case ha38 =>
      simp only [Act.put, List.setIfInBounds_toArray, List.set_cons_zero, List.set_cons_succ, i64_w, i32_w]
      rfl
    refine one_ (i := 1) (N := some 20) #[true, true, false, true, true, false] rfl rfl (by kernel_rfl) (by decide) (fun K hK => ?_)
    have he_ : spec_EncodeFrame.f q kd a b = some (P.encF q kd a b) := by unfold spec_EncodeFrame.f P.encF; rw [if_pos ⟨R0.out, R8.out, R12.out⟩]
    refine goes_ Try.func11 (by kernel_rfl) rfl #[.agg #[.int .u32 q, .int .i64 kd, .int .u32 a, .int .u32 b]] (by rfl) rfl rfl (by (try simp only [List.map_toArray, List.map_cons, List.map_nil]); first | done | rfl) ?_
    refine (spec_EncodeFrame.calls q kd a b _ _ he_).mono ?_
    rintro e w139 ⟨v_, rfl, ho, hb_⟩
    refine ⟨_, rfl, ?_⟩
    obtain ⟨Ao, co, eo⟩ := Kd.R_slice ho
    subst eo
    have HCo := Aside0.mk (Kd.R_reads' ho).2.2
    clear ho he_
    have H140 := Aside0.mk (H136.out.step hb_)
    clear hb_ H136
    refine hK.out _ _ ⟨H140.out.gt0, Kd.C_below HR0.out H140.out.below⟩ (fun hHeld => ?_)
    clear hK K
    refine norm_ (a' := ?_) ?_ ?_
    rotate_left
    · show Act.put _ (some 20) _ = _
      simp only [Act.put, List.setIfInBounds_toArray, List.set_cons_zero, List.set_cons_succ, i64_w, i32_w]
      rfl
    refine one_ (i := 2) (N := some 21) #[true, true, true, true, true, false] rfl rfl (by kernel_rfl) (by decide) (fun K hK => ?_)
    refine value_ (w1 := w139) (v := .string (strOfNums (P.encF q kd a b))) (by rfl) rfl ?_ ?_
    · go_simp
      rw [conv_str (P := Try.prog) (t := 25) (e := 5) (u := 9) Try.underlying25 Try.underlying5 Try.underlying9 HCo.out]
      first | rfl | (simp [Result.andThen]; done)
    refine hK.out _ _ ⟨H140.out.gt0, Kd.C_below HR0.out H140.out.below⟩ (fun hHeld => ?_)
    clear hK K
    refine norm_ (a' := ?_) ?_ ?_
    rotate_left
    · show Act.put _ (some 21) _ = _
      simp only [Act.put, List.setIfInBounds_toArray, List.set_cons_zero, List.set_cons_succ, i64_w, i32_w]
      rfl
    refine pure_ (i := 5) (N := some 24) (v := ?_) (a' := ?_) #[true, true, true, true, true, true] rfl rfl (by kernel_rfl) (fun _ _ _ h => h) (Or.inl ⟨by rfl, ?_⟩) ?_ ?_
    rotate_left
    · intro w'
      go_simp
      first | with_reducible rfl | rfl
    rotate_left
    · simp only [Act.put, List.setIfInBounds_toArray, List.set_cons_zero, List.set_cons_succ, i64_w, i32_w]
      rfl
    refine done_ (by kernel_rfl) ?_
    clear hHeld
    have hstr : ((strOfNums (P.encF q kd a b)).toList == (strOfNums l0).toList) = decide (isFrame l0) := str_frame HU.out H64.out HI.out
    by_cases hf : isFrame l0
    · rw [decide_eq_true hf] at hstr
      rw [hstr]
      have HF := Aside0.mk hf
      clear hf hstr
      go_wp2_with (first | ((with_reducible refine gate_dst (N := 26) rfl ?_); refine Aside0.out ?_))
      refine Aside0.mk ?_
      refine ld ?hw41 rfl ?hx41 H140.out.gt0 Try.underlying27 rfl (by kernel_rfl) ?_
      case hw41 => rfl
      case hx41 => rfl
      go_wp2_with (first | ((with_reducible refine gate_store (t := 33) (p := 2) rfl ?_); refine Aside0.out ?_))
      refine Aside0.mk ?_
      refine st_all ?hw42 ?hN42 rfl ?hp42 (cs := #[.bool true, .int .u32 q, .int .i64 kd, .int .u32 a, .int .u32 b]) ?hx42 H140.out.gt1 (by kernel_rfl) rfl (by simp [Value.oneCell']) ?_
      case hw42 => rfl
      case hN42 => rfl
      case hp42 => rfl
      case hx42 => first | rfl | (go_simp; rfl)
      intro w142 hb42 hS42
      have H143 := Aside0.mk (H140.out.wr1 (cs' := #[.bool true, .int .u32 q, .int .i64 kd, .int .u32 a, .int .u32 b]) hb42 hS42)
      clear hb42 hS42 H140
      go_wp2
      refine bodyPost_ret (results_cell_row rfl _ _ g2 33 #[.bool true, .int .u32 q, .int .i64 kd, .int .u32 a, .int .u32 b] (0, 0) _ rfl H143.out.gt1 Try.underlying33 rfl (by kernel_rfl)) rfl ?_
      have h := H.out
      rw [if_pos ⟨H64.out, HF.out⟩] at h
      cases h
      exact ⟨rfl, H143.out.below⟩
    · rw [decide_eq_false hf] at hstr
      rw [hstr]
      have HF := Aside0.mk hf
      clear hf hstr
      go_wp2_with (first | ((with_reducible refine gate_store (t := 33) (p := 2) rfl ?_); refine Aside0.out ?_))
      refine Aside0.mk ?_
      refine st_all ?hw41 ?hN41 rfl ?hp41 (cs := #[.bool false, .int .u32 0, .int .i64 0, .int .u32 0, .int .u32 0]) ?hx41 H140.out.gt1 (by kernel_rfl) rfl (by simp [Value.oneCell']) ?_
      case hw41 => rfl
      case hN41 => rfl
      case hp41 => rfl
      case hx41 => first | rfl | (go_simp; rfl)
      intro w141 hb41 hS41
      have H142 := Aside0.mk (H140.out.wr1 (cs' := #[.bool false, .int .u32 0, .int .i64 0, .int .u32 0, .int .u32 0]) hb41 hS41)
      clear hb41 hS41 H140
      go_wp2
      refine bodyPost_ret (results_cell_row rfl _ _ g2 33 #[.bool false, .int .u32 0, .int .i64 0, .int .u32 0, .int .u32 0] (0, 0) _ rfl H142.out.gt1 Try.underlying33 rfl (by kernel_rfl)) rfl ?_
      have h := H.out
      rw [if_neg (fun h => HF.out h.2)] at h
      cases h
      exact ⟨rfl, H142.out.below⟩
  · have h64b : ((l0.length : Int) != 64) = true := bne_iff_ne.mpr (by omega)
    have H64 := Aside0.mk h64
    clear h64
    go_wp2_with (first | ((with_reducible refine gate_store (t := 33) (p := 2) rfl ?_); refine Aside0.out ?_))
    refine Aside0.mk ?_
    refine st_all ?hw3 ?hN3 rfl ?hp3 (cs := #[.bool false, .int .u32 0, .int .i64 0, .int .u32 0, .int .u32 0]) ?hx3 H102.out.gt0 (by kernel_rfl) rfl (by simp [Value.oneCell']) ?_
    case hw3 => rfl
    case hN3 => rfl
    case hp3 => rfl
    case hx3 => first | rfl | (go_simp; rfl)
    intro w103 hb3 hS3
    have H104 := Aside0.mk (H102.out.wr0 (cs' := #[.bool false, .int .u32 0, .int .i64 0, .int .u32 0, .int .u32 0]) hb3 hS3)
    clear hb3 hS3 H102
    go_wp2
    refine bodyPost_ret (results_cell_row rfl _ _ g2 33 #[.bool false, .int .u32 0, .int .i64 0, .int .u32 0, .int .u32 0] (0, 0) _ rfl H104.out.gt0 Try.underlying33 rfl (by kernel_rfl)) rfl ?_
    have h := H.out
    rw [if_neg (fun h => H64.out h.1)] at h
    cases h
    exact ⟨rfl, H104.out.below⟩
end Go.Proofs.Ytgfadfahbhcllaa.Q
namespace Go.Proofs.Ytgfadfahbhcllaa.Q
open Go.RowKit Go.Proofs.YtgfadfahbhcllaaW.PrintWords Go.Proofs.YtgfadfahbhcllaaW.PrintLast Go.Proofs.Ytgfadfahbhcllaa.LK Go.Proofs.YtgfadfahbhcllaaW.PrintMore
attribute [local go_sem] max2_int min2_int max_two min_two max_three min_three max_four min_four   -- for this text's walks alone
set_option linter.unusedVariables false
set_option linter.unusedSimpArgs false

/-! ### laws_FnExactDecodeFrame: function 4 -/
def laws_FnExactDecodeFrame.f (k : Nat) (l0 : List Int) : Option (Bool) := if (l0.length : Int) > 1048576 then (some true) else ((laws_toByteS.f k l0).bind fun t101 => ((spec_DecodeFrame.f t101).bind fun bt104 => ((laws_toByteS.f k l0).bind fun t110 => ((impl_DecodeFrame.f t110).bind fun bt113 => ((laws_eqFrameRes.f bt113.1 bt113.2.1 bt113.2.2.1 bt113.2.2.2.1 bt113.2.2.2.2 bt104.1 bt104.2.1 bt104.2.2.1 bt104.2.2.2.1 bt104.2.2.2.2).bind fun t119 => (if t119 = true then ((laws_toByteS.f k l0).bind fun t120 => ((laws_eqByteS.f k t110 t120).bind fun t123 => (if t123 = true then (some true) else (some false)))) else (some false)))))))
theorem laws_FnExactDecodeFrame.mono : ∀ a0 k, LeO (laws_FnExactDecodeFrame.f k a0) (laws_FnExactDecodeFrame.f (k + 1) a0) := by
  intro a0 k
  unfold laws_FnExactDecodeFrame.f
  repeat' first
      | (with_reducible exact laws_eqByteS.mono _ _ _)
      | (with_reducible exact laws_toByteS.mono _ _)
      | (with_reducible exact LeO.refl _)
      | (with_reducible exact LeO.none _)
      | (with_reducible refine LeO.ite ?_ ?_)
      | (with_reducible refine LeO.bind ?_ (fun _ => ?_))
      | exact laws_eqByteS.mono _ _ _
      | exact laws_toByteS.mono _ _
      | exact LeO.none _
      | refine LeO.ite ?_ ?_
      | refine LeO.bind ?_ (fun _ => ?_)
set_option maxHeartbeats 8000000 in
set_option maxRecDepth 100000 in
theorem laws_FnExactDecodeFrame.calls (k : Nat) (A0 : Option Addr) (c0 : Nat) (l0 : List Int) (w : World) (hr0 : Kd.C (Kd.int .u8) w A0 l0.length l0) (hc0 : l0.length ≤ c0) (h : laws_FnExactDecodeFrame.f k l0 = some true) :
    Calls Try.prog 4 #[.slice A0 l0.length c0] w fun e w' => e = .returned (.bool true) ∧ Below w.heap.size w w' := by
  have hu33 := Try.underlying33
  have HR0 := Aside0.mk hr0
  have HC0 := Aside0.mk hc0
  clear hr0 hc0
  have HB := Aside0.mk (Below.refl w.heap.size w)
  have H : (if (l0.length : Int) > 1048576 then (some true) else ((laws_toByteS.f k l0).bind fun t101 => ((spec_DecodeFrame.f t101).bind fun bt104 => ((laws_toByteS.f k l0).bind fun t110 => ((impl_DecodeFrame.f t110).bind fun bt113 => ((laws_eqFrameRes.f bt113.1 bt113.2.1 bt113.2.2.1 bt113.2.2.2.1 bt113.2.2.2.2 bt104.1 bt104.2.1 bt104.2.2.1 bt104.2.2.2.1 bt104.2.2.2.2).bind fun t119 => (if t119 = true then ((laws_toByteS.f k l0).bind fun t120 => ((laws_eqByteS.f k t110 t120).bind fun t123 => (if t123 = true then (some true) else (some false)))) else (some false)))))))) = some true := h
  clear h
  by_cases c1 : (l0.length : Int) > 1048576
  · rw [if_pos c1] at H
    have c1b0 : decide (1048576 < (l0.length : Int)) = true := decide_eq_true c1
    have c1b1 : decide (1048576 < l0.length) = true := decide_eq_true (by omega)
    clear c1
    clear H
    (try clear HB)
    have H0 := Aside0.mk (Hist.refl w)
    go_enter Try.func4, Try.ntmps4
    (try go_wp2)
    go_ret
    exact ⟨rfl, by first | exact H0.out.below | exact Drawn0.refl _⟩
  · rw [if_neg c1] at H
    have c1b0 : decide (1048576 < (l0.length : Int)) = false := decide_eq_false c1
    have c1b1 : decide (1048576 < l0.length) = false := decide_eq_false (by omega)
    clear c1
    replace H := Option.bind_eq_some_iff.mp H
    obtain ⟨t101, A2_, H⟩ := H
    have A2 := Aside0.mk A2_
    clear A2_
    (try dsimp only at H)
    replace H := Option.bind_eq_some_iff.mp H
    obtain ⟨⟨t104, t105, t106, t107, t108⟩, A3_, H⟩ := H
    have A3 := Aside0.mk A3_
    clear A3_
    (try dsimp only at H)
    replace H := Option.bind_eq_some_iff.mp H
    obtain ⟨t110, A4_, H⟩ := H
    have A4 := Aside0.mk A4_
    clear A4_
    (try dsimp only at H)
    replace H := Option.bind_eq_some_iff.mp H
    obtain ⟨⟨t113, t114, t115, t116, t117⟩, A5_, H⟩ := H
    have A5 := Aside0.mk A5_
    clear A5_
    (try dsimp only at H)
    replace H := Option.bind_eq_some_iff.mp H
    obtain ⟨t119, A6_, H⟩ := H
    have A6 := Aside0.mk A6_
    clear A6_
    (try dsimp only at H)
    by_cases c7 : t119 = true
    · rw [if_pos c7] at H
      subst c7
      replace H := Option.bind_eq_some_iff.mp H
      obtain ⟨t120, A8_, H⟩ := H
      have A8 := Aside0.mk A8_
      clear A8_
      (try dsimp only at H)
      replace H := Option.bind_eq_some_iff.mp H
      obtain ⟨t123, A9_, H⟩ := H
      have A9 := Aside0.mk A9_
      clear A9_
      (try dsimp only at H)
      by_cases c10 : t123 = true
      · rw [if_pos c10] at H
        subst c10
        clear H
        (try clear HB)
        have H0 := Aside0.mk (Hist.refl w)
        go_enter Try.func4, Try.ntmps4
        go_wp2_with (first | (((with_reducible refine gate_callee (f := 18) rfl ?_)); refine goesW (some 10) rfl ?hw Try.func18 (by kernel_rfl) rfl #[.slice A0 l0.length c0] rfl (by (try simp only [List.map_toArray, List.map_cons, List.map_nil]); first | done | rfl | (simp only [List.length_drop, List.length_take]; rfl)) ?_; (case hw => rfl); with_reducible refine (laws_toByteS.calls k _ _ l0 t101 _ ?side1 ?side2 A2.out).mono ?_; (case side1 => exact Kd.C_below HR0.out H0.out.below); (case side2 => exact HC0.out); rintro e w11 ⟨v12, rfl, ho13, hb14⟩; refine ⟨_, rfl, ?_⟩; have H15 := Aside0.mk (Hist.step H0.out hb14); clear H0; clear hb14; have F18 := Aside0.mk ho13; clear ho13; obtain ⟨Ao16, co17, eo20⟩ := Kd.R_slice F18.out; (first | subst eo20 | (injection eo20 with f1_ f2_ f3_; have f4_ := f1_.symm; have f5_ := f3_.symm; clear f1_ f2_ f3_; subst f4_; subst f5_)); refine normL (a' := ?_) ?hn ?_; (case hn => first | (simp only [Act.put, List.setIfInBounds_toArray, List.set_cons_zero, List.set_cons_succ]; rfl) | rfl)) | (((with_reducible refine gate_callee (f := 17) rfl ?_)); refine goesW (some 11) rfl ?hw Try.func17 (by kernel_rfl) rfl #[.slice Ao16 t101.length co17] rfl (by (try simp only [List.map_toArray, List.map_cons, List.map_nil]); first | done | rfl | (simp only [List.length_drop, List.length_take]; rfl)) ?_; (case hw => rfl); with_reducible refine (spec_DecodeFrame.calls _ _ t101 t104 t105 t106 t107 t108 _ ?side1 ?side2 A3.out).mono ?_; (case side1 => exact (Kd.R_reads' (R_fix F18.out H15.out.fixes.hd)).2.2); (case side2 => exact R_capn (R_fix F18.out H15.out.fixes.hd)); rintro e w21 ⟨rfl, hb22⟩; refine ⟨_, rfl, ?_⟩; have H23 := Aside0.mk (Hist.pass H15.out hb22); clear H15; clear hb22; refine normL (a' := ?_) ?hn ?_; (case hn => first | (simp only [Act.put, List.setIfInBounds_toArray, List.set_cons_zero, List.set_cons_succ]; rfl) | rfl)) | ((with_reducible refine gate_dst (N := 3) rfl ?_); refine mk ?hw (N := 3) ?hd (cs := #[.bool false, .int .u32 0, .int .i64 0, .int .u32 0, .int .u32 0]) (t := 33) ?hr ?_; (case hd => rfl); (case hw => rfl); (case hr => first | (go_simp; done) | (go_simp; rfl)); intro g24 hg28 w25 hbox27 hb26; have H29 := Aside0.mk (Hist.step H23.out hb26); clear H23; have B30 := Aside0.mk hbox27; have G31 := Aside0.mk (Nat.le_of_eq hg28.symm); have L32 := Aside0.mk (blk_lt hbox27); clear hb26 hbox27 hg28; refine normL (a' := ?_) ?hn ?_; (case hn => first | (simp only [Act.put, List.setIfInBounds_toArray, List.set_cons_zero, List.set_cons_succ]; rfl) | rfl)) | ((with_reducible refine gate_store (t := 33) (p := 3) rfl ?_); refine st_all ?hw ?hN rfl ?hp (cs := #[.bool t104, .int .u32 t105, .int .i64 t106, .int .u32 t107, .int .u32 t108]) ?hx (blk_fix2 B30.out ⟨G31.out, L32.out⟩ H29.out.fixes.hd) (by kernel_rfl) rfl (by simp [Value.oneCell']) ?_; (case hw => rfl); (case hN => rfl); (case hp => rfl); (case hx => rfl); intro w33 hbox34 hs35; have H36 : Aside0 (Hist w [(w33, w21.heap.size, w25.heap.size), (w11, w.heap.size, w11.heap.size)] w33) := ⟨Hist.mark' (w := w25) (b := w21.heap.size) (t := w25.heap.size) (l1 := []) (l2 := [(w11, w.heap.size, w11.heap.size)]) (by simp only [List.cons_append, List.nil_append]) (by simp only [List.cons_append, List.nil_append]) H29.out hs35 (fun k_ hk_ => by rw [hk_]; exact ⟨G31.out, L32.out⟩)⟩; have B30n := Aside0.mk hbox34; clear hs35 hbox34 H29 B30; have B30 := B30n; clear B30n) | (((with_reducible refine gate_callee (f := 18) rfl ?_)); refine goesW (some 13) rfl ?hw Try.func18 (by kernel_rfl) rfl #[.slice A0 l0.length c0] rfl (by (try simp only [List.map_toArray, List.map_cons, List.map_nil]); first | done | rfl | (simp only [List.length_drop, List.length_take]; rfl)) ?_; (case hw => rfl); with_reducible refine (laws_toByteS.calls k _ _ l0 t110 _ ?side1 ?side2 A4.out).mono ?_; (case side1 => exact Kd.C_below HR0.out H36.out.below); (case side2 => exact HC0.out); rintro e w37 ⟨v38, rfl, ho39, hb40⟩; refine ⟨_, rfl, ?_⟩; have H41 := Aside0.mk (Hist.step H36.out hb40); clear H36; clear hb40; have F44 := Aside0.mk ho39; clear ho39; obtain ⟨Ao42, co43, eo46⟩ := Kd.R_slice F44.out; (first | subst eo46 | (injection eo46 with f1_ f2_ f3_; have f4_ := f1_.symm; have f5_ := f3_.symm; clear f1_ f2_ f3_; subst f4_; subst f5_)); refine normL (a' := ?_) ?hn ?_; (case hn => first | (simp only [Act.put, List.setIfInBounds_toArray, List.set_cons_zero, List.set_cons_succ]; rfl) | rfl)) | (((with_reducible refine gate_callee (f := 19) rfl ?_)); refine goesW (some 15) rfl ?hw Try.func19 (by kernel_rfl) rfl #[.slice Ao42 t110.length co43] rfl (by (try simp only [List.map_toArray, List.map_cons, List.map_nil]); first | done | rfl | (simp only [List.length_drop, List.length_take]; rfl)) ?_; (case hw => rfl); with_reducible refine (impl_DecodeFrame.calls _ _ t110 t113 t114 t115 t116 t117 _ ?side1 ?side2 A5.out).mono ?_; (case side1 => exact (Kd.R_reads' (R_fix F44.out H41.out.fixes.hd)).2.2); (case side2 => exact R_capn (R_fix F44.out H41.out.fixes.hd)); rintro e w47 ⟨rfl, hb48⟩; refine ⟨_, rfl, ?_⟩; have H49 := Aside0.mk (Hist.pass H41.out hb48); clear H41; clear hb48; refine normL (a' := ?_) ?hn ?_; (case hn => first | (simp only [Act.put, List.setIfInBounds_toArray, List.set_cons_zero, List.set_cons_succ]; rfl) | rfl)) | ((with_reducible refine gate_dst (N := 5) rfl ?_); refine mk ?hw (N := 5) ?hd (cs := #[.bool false, .int .u32 0, .int .i64 0, .int .u32 0, .int .u32 0]) (t := 33) ?hr ?_; (case hd => rfl); (case hw => rfl); (case hr => first | (go_simp; done) | (go_simp; rfl)); intro g50 hg54 w51 hbox53 hb52; have H55 := Aside0.mk (Hist.step H49.out hb52); clear H49; have B56 := Aside0.mk hbox53; have G57 := Aside0.mk (Nat.le_of_eq hg54.symm); have L58 := Aside0.mk (blk_lt hbox53); clear hb52 hbox53 hg54; refine normL (a' := ?_) ?hn ?_; (case hn => first | (simp only [Act.put, List.setIfInBounds_toArray, List.set_cons_zero, List.set_cons_succ]; rfl) | rfl)) | ((with_reducible refine gate_store (t := 33) (p := 5) rfl ?_); refine st_all ?hw ?hN rfl ?hp (cs := #[.bool t113, .int .u32 t114, .int .i64 t115, .int .u32 t116, .int .u32 t117]) ?hx (blk_fix2 B56.out ⟨G57.out, L58.out⟩ H55.out.fixes.hd) (by kernel_rfl) rfl (by simp [Value.oneCell']) ?_; (case hw => rfl); (case hN => rfl); (case hp => rfl); (case hx => rfl); intro w59 hbox60 hs61; have H62 : Aside0 (Hist w [(w59, w47.heap.size, w51.heap.size), (w37, w33.heap.size, w37.heap.size), (w33, w21.heap.size, w25.heap.size), (w11, w.heap.size, w11.heap.size)] w59) := ⟨Hist.mark' (w := w51) (b := w47.heap.size) (t := w51.heap.size) (l1 := []) (l2 := [(w37, w33.heap.size, w37.heap.size), (w33, w21.heap.size, w25.heap.size), (w11, w.heap.size, w11.heap.size)]) (by simp only [List.cons_append, List.nil_append]) (by simp only [List.cons_append, List.nil_append]) H55.out hs61 (fun k_ hk_ => by rw [hk_]; exact ⟨G57.out, L58.out⟩)⟩; have B56n := Aside0.mk hbox60; clear hs61 hbox60 H55 B56; have B56 := B56n; clear B56n) | ((with_reducible refine gate_dst (N := 16) rfl ?_); refine ld ?hw rfl ?hx (blk_fix2 B56.out ⟨G57.out, L58.out⟩ H62.out.fixes.hd) Try.underlying33 rfl (by kernel_rfl) ?_; (case hw => rfl); (case hx => rfl); refine normL (a' := ?_) ?hn ?_; (case hn => first | (simp only [Act.put, List.setIfInBounds_toArray, List.set_cons_zero, List.set_cons_succ]; rfl) | rfl)) | ((with_reducible refine gate_dst (N := 17) rfl ?_); refine ld ?hw rfl ?hx (blk_fix2 B30.out ⟨G31.out, L32.out⟩ H62.out.fixes.tl.tl.hd) Try.underlying33 rfl (by kernel_rfl) ?_; (case hw => rfl); (case hx => rfl); refine normL (a' := ?_) ?hn ?_; (case hn => first | (simp only [Act.put, List.setIfInBounds_toArray, List.set_cons_zero, List.set_cons_succ]; rfl) | rfl)) | (((with_reducible refine gate_callee (f := 20) rfl ?_)); refine goesW (some 18) rfl ?hw Try.func20 (by kernel_rfl) rfl #[.agg #[.bool t113, .int .u32 t114, .int .i64 t115, .int .u32 t116, .int .u32 t117], .agg #[.bool t104, .int .u32 t105, .int .i64 t106, .int .u32 t107, .int .u32 t108]] rfl (by (try simp only [List.map_toArray, List.map_cons, List.map_nil]); first | done | rfl | (simp only [List.length_drop, List.length_take]; rfl)) ?_; (case hw => rfl); with_reducible refine (laws_eqFrameRes.calls t113 t114 t115 t116 t117 t104 t105 t106 t107 t108 true _  A6.out).mono ?_; rintro e w63 ⟨rfl, hb64⟩; refine ⟨_, rfl, ?_⟩; have H65 := Aside0.mk (Hist.pass H62.out hb64); clear H62; clear hb64; refine normL (a' := ?_) ?hn ?_; (case hn => first | (simp only [Act.put, List.setIfInBounds_toArray, List.set_cons_zero, List.set_cons_succ]; rfl) | rfl)) | (((with_reducible refine gate_callee (f := 18) rfl ?_)); refine goesW (some 22) rfl ?hw Try.func18 (by kernel_rfl) rfl #[.slice A0 l0.length c0] rfl (by (try simp only [List.map_toArray, List.map_cons, List.map_nil]); first | done | rfl | (simp only [List.length_drop, List.length_take]; rfl)) ?_; (case hw => rfl); with_reducible refine (laws_toByteS.calls k _ _ l0 t120 _ ?side1 ?side2 A8.out).mono ?_; (case side1 => exact Kd.C_below HR0.out H65.out.below); (case side2 => exact HC0.out); rintro e w66 ⟨v67, rfl, ho68, hb69⟩; refine ⟨_, rfl, ?_⟩; have H70 := Aside0.mk (Hist.step H65.out hb69); clear H65; clear hb69; have F73 := Aside0.mk ho68; clear ho68; obtain ⟨Ao71, co72, eo75⟩ := Kd.R_slice F73.out; (first | subst eo75 | (injection eo75 with f1_ f2_ f3_; have f4_ := f1_.symm; have f5_ := f3_.symm; clear f1_ f2_ f3_; subst f4_; subst f5_)); refine normL (a' := ?_) ?hn ?_; (case hn => first | (simp only [Act.put, List.setIfInBounds_toArray, List.set_cons_zero, List.set_cons_succ]; rfl) | rfl)) | (((with_reducible refine gate_callee (f := 14) rfl ?_)); refine goesW (some 23) rfl ?hw Try.func14 (by kernel_rfl) rfl #[.slice Ao42 t110.length co43, .slice Ao71 t120.length co72] rfl (by (try simp only [List.map_toArray, List.map_cons, List.map_nil]); first | done | rfl | (simp only [List.length_drop, List.length_take]; rfl)) ?_; (case hw => rfl); with_reducible refine (laws_eqByteS.calls k _ _ t110 _ _ t120 true _ ?side1 ?side2 ?side3 ?side4 A9.out).mono ?_; (case side1 => exact (Kd.R_reads' (R_fix F44.out H70.out.fixes.tl.tl.hd)).2.2); (case side2 => exact R_capn (R_fix F44.out H70.out.fixes.tl.tl.hd)); (case side3 => exact (Kd.R_reads' (R_fix F73.out H70.out.fixes.hd)).2.2); (case side4 => exact R_capn (R_fix F73.out H70.out.fixes.hd)); rintro e w76 ⟨rfl, hd_⟩; have hb77 := hd_.below; clear hd_; refine ⟨_, rfl, ?_⟩; have H78 := Aside0.mk (Hist.pass H70.out hb77); clear H70; clear hb77; refine normL (a' := ?_) ?hn ?_; (case hn => first | (simp only [Act.put, List.setIfInBounds_toArray, List.set_cons_zero, List.set_cons_succ]; rfl) | rfl)))
        go_ret
        exact ⟨rfl, by first | exact H78.out.below | exact Drawn0.refl _⟩
      · rw [if_neg c10] at H
        exact absurd H (by simp)
    · rw [if_neg c7] at H
      exact absurd H (by simp)

end Go.Proofs.Ytgfadfahbhcllaa.Q
namespace Go.Proofs.Ytgfadfahbhcllaa.O
open Go.RowKit Go.Proofs.YtgfadfahbhcllaaW.PrintWords

/-- Cells that read as data of type t are cells of the kind d, of a value that meets ok. -/
def Opens {α : Type} (P : Program) (t : TypeId) (d : Kd α) (ok : α → Prop) : Prop :=
  ∀ (H : Type) (enc : TypeId × Value → H) (w : World) (fuel : Nat) (cs : List Value) (y : DataW H × List MemPlace),
    DataW.trod enc P w 0 (fun _ => true) true fuel t cs = some y → ∃ x, d.K w x cs ∧ ok x

section
variable {α β : Type} {P : Program} {t e : TypeId} {d : Kd α} {ok : α → Prop}

theorem opens_int {k : IntKind} (ht : P.underlying t = some (.int k)) : Opens P t (Kd.int k) (fun n => (Lit.int k n).wf = true) := by
  intro H enc w fuel cs y h
  obtain ⟨n, rfl, _, hw⟩ := DataW.trod_int ht h
  exact ⟨n, rfl, hw⟩
theorem opens_bool (ht : P.underlying t = some .bool) : Opens P t Kd.bool (fun _ => True) := by
  intro H enc w fuel cs y h
  obtain ⟨n, rfl, _⟩ := DataW.trod_bool ht h
  exact ⟨n, rfl, trivial⟩
theorem list_of {p : Nat → α → Prop} : ∀ n, (∀ i, i < n → ∃ x, p i x) → ∃ xs : List α, xs.length = n ∧ ∀ i x, xs[i]? = some x → p i x
  | 0, _ => ⟨[], rfl, by simp⟩
  | n + 1, h => by
    obtain ⟨xs, hl, hp⟩ := list_of n (fun i hi => h i (by omega))
    obtain ⟨x, hx⟩ := h n (by omega)
    refine ⟨xs ++ [x], by simp [hl], fun i z hz => ?_⟩
    by_cases hi : i < n
    · rw [List.getElem?_append_left (by omega)] at hz
      exact hp i z hz
    · have : i < n + 1 := by
        have := (List.getElem?_eq_some_iff.1 hz).1
        simp [hl] at this
        exact this
      obtain rfl : i = n := by omega
      rw [List.getElem?_append_right (by omega)] at hz
      simp [hl] at hz
      exact hz ▸ hx
theorem opens_slice (ht : P.underlying t = some (.slice e)) (hc : P.cellsOf e = d.sz) (he : Opens P e d ok) :
    Opens P t (Kd.slice e d) (fun xs => xs.length ≤ 9223372036854775807 ∧ ∀ x ∈ xs, ok x) := by
  intro H enc w fuel cs y h
  rcases DataW.trod_slice ht h with ⟨rfl, _⟩ | ⟨a, len, cap, elems, rest, n, _, rfl, _, _, hl, hm, hlen, hel, _, _⟩
  · exact ⟨[], ⟨none, 0, rfl, Nat.le_refl _, Kd.C_nil d w⟩, by simp, by simp⟩
  · have each : ∀ i, i < len → ∃ x, ∃ c, w.cells? 0 (a.add (i * d.sz)) d.sz = some c ∧ d.K w x c ∧ ok x := by
      intro i hi
      have h1 := hel i hi
      rw [hc, List.getElem?_eq_getElem (by omega)] at h1
      obtain ⟨c, h2, h3⟩ := Option.bind_eq_some_iff.1 h1
      obtain ⟨x, hx, hok⟩ := he H enc w n c _ h3
      exact ⟨x, c, h2, hx, hok⟩
    obtain ⟨xs, hxl, hxs⟩ := list_of len each
    refine ⟨xs, ⟨some a, cap, by rw [hxl], by omega, ?_⟩, by unfold maxLen at hm; omega, fun x hx => ?_⟩
    · refine ⟨rfl, by unfold maxLen at hm; omega, fun _ => ⟨a, rfl, fun j p hp => ?_⟩⟩
      obtain ⟨c, h2, h3, _⟩ := hxs j p hp
      refine ⟨c, d.K_len h3, h3, fun i u hu => ?_⟩
      have hi : i < c.length := (List.getElem?_eq_some_iff.1 hu).1
      have h4 := World.cells?_some h2
      rw [d.K_len h3] at hi
      rw [← Addr.add_add, (h4.2.2 i hi), hu]
    · obtain ⟨i, hi⟩ := List.getElem?_of_mem hx
      obtain ⟨_, _, _, hok⟩ := hxs i x hi
      exact hok
/-- A struct's fields from some field on. -/
def OpensFs {α : Type} (P : Program) (fs : List Field) (off : Nat) (d : Kd α) (ok : α → Prop) : Prop :=
  ∀ (H : Type) (enc : TypeId × Value → H) (w : World) (n : Nat) (cs : List Value) (xs : List (DataW H × List MemPlace)),
    cs.length = off + d.sz → (∀ (i : Nat) (f : Field), fs[i]? = some f → DataW.trod enc P w 0 (fun _ => true) true n f.type ((cs.drop f.offset).take (P.cellsOf f.type)) = xs[i]?) →
    fs.length ≤ xs.length → ∃ x, d.K w x (cs.drop off) ∧ ok x
theorem opensFs_one {f : Field} {off : Nat} (ho : f.offset = off) (hc : P.cellsOf f.type = d.sz) (h : Opens P f.type d ok) : OpensFs P [f] off d ok := by
  intro H enc w n cs xs hl hf hx
  have h1 := hf 0 f rfl
  simp only [List.length_cons, List.length_nil] at hx
  rw [List.getElem?_eq_getElem (by omega)] at h1
  rw [ho, hc, List.take_of_length_le (by simp; omega)] at h1
  exact h H enc w n _ _ h1
theorem opensFs_cons {f : Field} {fs : List Field} {off : Nat} {d2 : Kd β} {ok2 : β → Prop} (ho : f.offset = off) (hc : P.cellsOf f.type = d.sz) (h : Opens P f.type d ok)
    (h2 : OpensFs P fs (off + d.sz) d2 ok2) : OpensFs P (f :: fs) off (Kd.pair d d2) (fun x => ok x.1 ∧ ok2 x.2) := by
  intro H enc w n cs xs hl hf hx
  have hl' : cs.length = off + (d.sz + d2.sz) := hl
  simp only [List.length_cons] at hx
  have h1 := hf 0 f rfl
  rw [List.getElem?_eq_getElem (by omega)] at h1
  rw [ho, hc] at h1
  obtain ⟨x, hxk, hxo⟩ := h H enc w n _ _ h1
  obtain ⟨y, hyk, hyo⟩ := h2 H enc w n cs (xs.drop 1) (by omega) (fun i g hg => by
    have := hf (i + 1) g (by simpa using hg)
    rw [this, List.getElem?_drop]
    congr 1
    omega) (by simp; omega)
  refine ⟨(x, y), ⟨_, _, ?_, hxk, hyk⟩, hxo, hyo⟩
  rw [← List.drop_drop]
  exact (List.take_append_drop _ _).symm
theorem opens_struct {fs : List Field} (ht : P.underlying t = some (.struct fs.toArray)) (hc : P.cellsOf t = d.sz) (h : OpensFs P fs 0 d ok) (f : β → α) (g : α → β) (hfg : ∀ a, f (g a) = a) :
    Opens P t (Kd.iso d f) (fun x => ok (f x)) := by
  intro H enc w fuel cs y h0
  obtain ⟨xs, n, _, _, hlen, hxl, hf⟩ := DataW.trod_struct ht h0
  obtain ⟨a, hk, ho⟩ := h H enc w n cs xs (by omega) (fun i f hi => hf i f (by simpa using hi)) (by simp at hxl; omega)
  refine ⟨g a, ?_, ?_⟩
  · show d.K w (f (g a)) cs
    rw [hfg]
    simpa using hk
  · show ok (f (g a))
    rw [hfg]
    exact ho
end
end Go.Proofs.Ytgfadfahbhcllaa.O
namespace Go.Proofs.Ytgfadfahbhcllaa.Q
open Go.RowKit Go.Proofs.YtgfadfahbhcllaaW.PrintWords Go.Proofs.Ytgfadfahbhcllaa.O
def W24 (x : S24) : Prop := (Lit.int .u32 x.f0).wf = true ∧ (Lit.int .i64 x.f1).wf = true ∧ (Lit.int .u32 x.f2).wf = true ∧ (Lit.int .u32 x.f3).wf = true
theorem opens_T24 : Opens Try.prog 24 k24 W24 := opens_struct Try.underlying24 (by kernel_rfl) (opensFs_cons rfl (by kernel_rfl) (opens_int Try.underlying22) (opensFs_cons rfl (by kernel_rfl) (opens_int Try.underlying2) (opensFs_cons rfl (by kernel_rfl) (opens_int Try.underlying22) (opensFs_one rfl (by kernel_rfl) (opens_int Try.underlying22))))) (fun x : S24 => (x.f0, x.f1, x.f2, x.f3)) (fun a => (⟨a.1, a.2.1, a.2.2.1, a.2.2.2⟩ : S24)) (fun _ => rfl)
def W41 (x : S41) : Prop := (Lit.int .u32 x.f0).wf = true ∧ (Lit.int .u32 x.f1).wf = true ∧ (x.f2.length ≤ 9223372036854775807 ∧ ∀ z_ ∈ x.f2, (Lit.int .i64 z_).wf = true) ∧ (x.f3.length ≤ 9223372036854775807 ∧ ∀ z_ ∈ x.f3, (Lit.int .i64 z_).wf = true)
theorem opens_T41 : Opens Try.prog 41 k41 W41 := opens_struct Try.underlying41 (by kernel_rfl) (opensFs_cons rfl (by kernel_rfl) (opens_int Try.underlying22) (opensFs_cons rfl (by kernel_rfl) (opens_int Try.underlying22) (opensFs_cons rfl (by kernel_rfl) (opens_slice Try.underlying39 (by kernel_rfl) (opens_int Try.underlying2)) (opensFs_one rfl (by kernel_rfl) (opens_slice Try.underlying39 (by kernel_rfl) (opens_int Try.underlying2)))))) (fun x : S41 => (x.f0, x.f1, x.f2, x.f3)) (fun a => (⟨a.1, a.2.1, a.2.2.1, a.2.2.2⟩ : S41)) (fun _ => rfl)
end Go.Proofs.Ytgfadfahbhcllaa.Q
namespace Go.Proofs.Ytgfadfahbhcllaa.Q
open Go.RowKit Go.Proofs.YtgfadfahbhcllaaW.PrintWords Go.Proofs.YtgfadfahbhcllaaW.PrintLast Go.Proofs.Ytgfadfahbhcllaa.O
def laws_FnExactDecodeFrame.Pure : Prop := ∀ (l0 : List Int) , (l0.length ≤ 9223372036854775807 ∧ ∀ z_ ∈ l0, (Lit.int .u8 z_).wf = true) → ∃ k, laws_FnExactDecodeFrame.f k l0 = some true
end Go.Proofs.Ytgfadfahbhcllaa.Q
namespace Go.Proofs.Ytgfadfahbhcllaa.P
open Go.RowKit Go.Proofs.YtgfadfahbhcllaaW.PrintWords Go.Proofs.YtgfadfahbhcllaaW.PrintMore Go.Proofs.Ytgfadfahbhcllaa.Q
set_option linter.unusedVariables false
set_option linter.unusedSimpArgs false
theorem spec_enc (q kd a b : Int) (hq : 0 ≤ q ∧ q ≤ 4294967295) (ha : 0 ≤ a ∧ a ≤ 4294967295) (hb : 0 ≤ b ∧ b ≤ 4294967295) : spec_EncodeFrame.f q kd a b = some (encF q kd a b) := by
  unfold spec_EncodeFrame.f encF
  rw [if_pos ⟨hq, ha, hb⟩]
theorem impl_enc (q kd a b : Int) (hq : 0 ≤ q ∧ q ≤ 4294967295) (ha : 0 ≤ a ∧ a ≤ 4294967295) (hb : 0 ≤ b ∧ b ≤ 4294967295) : impl_EncodeFrame.f q kd a b = some (encF q kd a b) := by
  unfold impl_EncodeFrame.f encF
  rw [if_pos ⟨hq, ha, hb⟩]
/-- What DecodeFrame answers. -/
def decF (l : List Int) : Bool × Int × Int × Int × Int := if l.length = 64 ∧ isFrame l then (true, fSeq l, fKind l, fA l, fB l) else (false, 0, 0, 0, 0)
theorem impl_dec {l : List Int} (hu : U8s l) : impl_DecodeFrame.f l = some (decF l) := by
  unfold impl_DecodeFrame.f decF
  rw [if_pos hu]
theorem spec_dec {l : List Int} (hu : U8s l) : spec_DecodeFrame.f l = some (decF l) := by
  unfold spec_DecodeFrame.f decF
  rw [if_pos hu]
end Go.Proofs.Ytgfadfahbhcllaa.P
namespace Go.Proofs.Ytgfadfahbhcllaa.Q
open Go.RowKit Go.Proofs.YtgfadfahbhcllaaW.PrintWords Go.Proofs.YtgfadfahbhcllaaW.PrintLast Go.Proofs.Ytgfadfahbhcllaa.LK Go.Proofs.YtgfadfahbhcllaaW.PrintMore
attribute [local go_sem] max2_int min2_int max_two min_two max_three min_three max_four min_four   -- for this text's walks alone
set_option linter.unusedVariables false
set_option linter.unusedSimpArgs false

/-! ### laws_markByteS: function 15 -/
def laws_markByteS.l0 : Nat → List Int → Int → Int → Option (Int × List Int)
  | 0, _, _, _ => none
  | k + 1, x0, x1, x5 => if x5 < (x0.length : Int) then (if 0 ≤ x5 then (laws_markByteS.l0 k (x0.set (x5 : Int).toNat ((x1) % 256)) (wrap64 (x1 + 1)) (wrap64 (x5 + 1))) else (none)) else (some (x1, x0))
def laws_markByteS.f (k : Nat) (l0 : List Int) (a1 : Int) : Option (Int × List Int) := laws_markByteS.l0 k l0 a1 0
theorem laws_markByteS.mono_l : ∀ k, (∀ y0 y1 y2, LeO (laws_markByteS.l0 k y0 y1 y2) (laws_markByteS.l0 (k + 1) y0 y1 y2))
  | 0 => fun _ _ _ r h => by simp [laws_markByteS.l0] at h
  | k + 1 => by
    have ih0 := laws_markByteS.mono_l k
    · intro y0 y1 y2
      unfold laws_markByteS.l0
      repeat' first
      | (with_reducible exact ih0 _ _ _)
      | (with_reducible exact LeO.refl _)
      | (with_reducible exact LeO.none _)
      | (with_reducible refine LeO.ite ?_ ?_)
      | (with_reducible refine LeO.bind ?_ (fun _ => ?_))
      | exact ih0 _ _ _
      | exact LeO.none _
      | refine LeO.ite ?_ ?_
      | refine LeO.bind ?_ (fun _ => ?_)
theorem laws_markByteS.mono : ∀ a0 a1 k, LeO (laws_markByteS.f k a0 a1) (laws_markByteS.f (k + 1) a0 a1) := by
  intro a0 a1 k
  have ih0 := laws_markByteS.mono_l k
  unfold laws_markByteS.f
  repeat' first
      | (with_reducible exact ih0 _ _ _)
      | (with_reducible exact LeO.refl _)
      | (with_reducible exact LeO.none _)
      | (with_reducible refine LeO.ite ?_ ?_)
      | (with_reducible refine LeO.bind ?_ (fun _ => ?_))
      | exact ih0 _ _ _
      | exact LeO.none _
      | refine LeO.ite ?_ ?_
      | refine LeO.bind ?_ (fun _ => ?_)
set_option maxHeartbeats 8000000 in
set_option maxRecDepth 100000 in
theorem laws_markByteS.calls (k : Nat) (P0_ : Nat → Prop) (u9000_ : Value) (l0 : List Int) (a1 : Int) (r1 : Int) (r2 : List Int) (w0 w : World) (hB : Below w0.heap.size w0 w) (ho0 : Kd.R (Kd.int .u8) 5 w w0.heap.size P0_ u9000_ l0) (h : laws_markByteS.f k l0 a1 = some (r1, r2)) :
    Calls Try.prog 15 #[u9000_, .int .i64 a1] w fun e w' => e = .returned (.int .i64 r1) ∧ Kd.R (Kd.int .u8) 5 w' w0.heap.size (fun k_ => (P0_ k_ ∨ w.heap.size ≤ k_)) u9000_ r2 ∧ Below w0.heap.size w0 w' ∧ Kept w w' (fun k_ => P0_ k_) := by
  have HO0 := Aside0.mk (show Kd.R (Kd.int .u8) 5 w w0.heap.size (fun k_ => (P0_ k_ ∨ w.heap.size ≤ k_)) u9000_ l0 from Kd.R_mono ho0 (fun k_ hk => (.inl hk)))
  have HK := Aside0.mk (Kept.refl w (fun k_ => P0_ k_))
  have HW0 := Aside0.mk hB.size
  have HB := Aside0.mk hB
  clear hB
  have H : (laws_markByteS.l0 k l0 a1 0) = some (r1, r2) := h
  clear h
  have H' := Aside0.mk H
  clear H
  go_enter Try.func15, Try.ntmps15
  go_wp2
  go_loopg [1, 5] k (fun kq v1 v5 w' => ∃ (x0_1 : List Int) (x1_1 : Int) (x5_1 : Int), v1 = .int .i64 x1_1 ∧ v5 = .int .i64 x5_1 ∧ Aside0 (laws_markByteS.l0 kq x0_1 x1_1 x5_1 = some (r1, r2)) ∧ Aside0 (kq ≤ k) ∧ Aside0 (Kd.R (Kd.int .u8) 5 w' w0.heap.size (fun k_ => (P0_ k_ ∨ w.heap.size ≤ k_)) u9000_ x0_1) ∧ Aside0 (Kept w w' (fun k_ => P0_ k_)) ∧ Aside0 (Below w0.heap.size w0 w'))
  case atStart => exact ⟨(l0), (a1), (0), (by first | rfl | (simp; done) | (simp [*]; done)), (by first | rfl | (simp; done) | (simp [*]; done)), H', ⟨Nat.le_refl _⟩, ⟨by (with_reducible repeat (first | apply Kd.R_alloc | apply Kd.R_drewN | apply Kd.R_drew)); exact HO0.out⟩, ⟨by repeat (first | (with_reducible first | exact HK.out | apply Kept.alloc | apply Kept.drewN | apply Kept.drew) | exact HK.out)⟩, ⟨by repeat (first | (with_reducible first | exact HB.out | apply below_alloc | apply pw_below_drewN | apply below_drew1) | exact HB.out)⟩⟩
  case round =>
    clear H'
    try clear c1
    try clear p2
    obtain ⟨x0_1, x1_1, x5_1, rfl, rfl, HA, HK1, HO_0, HK, HB⟩ := hrel
    cases gk with
    | zero => exact absurd HA.out (by simp [laws_markByteS.l0])
    | succ k1 =>
      have H := HA.out
      clear HA
      simp only [laws_markByteS.l0] at H
      by_cases c3 : x5_1 < (x0_1.length : Int)
      · rw [if_pos c3] at H
        have c3b0 : decide (x5_1 < (x0_1.length : Int)) = true := decide_eq_true c3
        clear c3
        by_cases c4 : 0 ≤ x5_1
        · rw [if_pos c4] at H
          have c4b0 : decide (0 ≤ x5_1) = true := decide_eq_true c4
          clear c4
          obtain ⟨y101, hy101⟩ : ∃ y_ : List Int, y_ = (x0_1.set (x5_1 : Int).toNat ((x1_1) % 256)) := ⟨_, rfl⟩
          replace H : (laws_markByteS.l0 k1 y101 (wrap64 (x1_1 + 1)) (wrap64 (x5_1 + 1))) = some (r1, r2) := by first | (rw [hy101]; with_reducible exact H) | (have H2_ := (Option.bind_some _ _).symm.trans H; rw [hy101]; with_reducible exact H2_) | (have H2_ := (Option.bind_some _ _).symm.trans H; with_reducible exact H2_) | with_reducible exact H | (rw [hy101]; exact H) | exact H
          have Ny101 := Aside0.mk hy101
          clear hy101
          have H' := Aside0.mk H
          clear H
          obtain ⟨Ao6, co6, eo6⟩ := Kd.R_slice HO_0.out
          subst eo6
          have p5 : 0 ≤ (x5_1 : Int) := of_decide_eq_true (by first | (with_reducible assumption) | assumption)
          have q5 : (x5_1 : Int) < ((x0_1.length : Int) : Int) := of_decide_eq_true (by first | (with_reducible assumption) | assumption)
          obtain ⟨go5, co5, eo5, gb5, gl5, cl5, HG5⟩ := Kd.R_form HO_0.out (by omega)
          (first | cases eo5 | (injection eo5 with ea_ en_ ec_; (first | subst ea_ | (injection ea_ with ea_; subst ea_)); subst ec_; clear en_))
          have GB5 := Aside0.mk gb5
          have GG5 := Aside0.mk HG5
          clear gb5 gl5 HG5
          have HMgo5 := Aside0.mk (show (P0_ go5 ∨ w.heap.size ≤ go5) from (HO_0.out.1 _ rfl))
          obtain ⟨hx5_0, hf5_0⟩ := Kd.R_celln 0 HO_0.out (x5_1 : Int) p5 q5
          replace p5 := eq_true p5
          replace q5 := eq_true q5
          have HP7 := Kd.R_putg HO_0.out (x5_1 : Int) ((x1_1) % 256)
          go_wp2_with (first | ((with_reducible refine gate_store (t := 5) (p := 16) rfl ?_); refine store_event (t := 5) (p := 16) (v := ?vo_w8) (w1 := (wr.setCell ⟨go5, (x5_1 : Int).toNat, none⟩ (.int .u8 ((x1_1) % 256)))) ?hg ?ho ?hn ?hr ?_; (case ho => rfl); (case hg => rfl); (case hn => rfl); (case hr => first | (go_simp; done) | (go_simp; rfl)); intro w8 hw; have hg : wr.grownBy w8 (some go5) := (by rw [hw]; exact HP7.2); have hp_ : Kd.R (Kd.int .u8) 5 w8 w0.heap.size (fun k_ => (P0_ k_ ∨ w.heap.size ≤ k_)) (.slice (some ⟨go5, 0, none⟩) x0_1.length co6) y101 := (by rw [hw, Ny101.out]; exact HP7.1); clear HP7; have n0_ := Aside0.mk (hp_); have n1_ := Aside0.mk ((by rw [hw]; exact below_set (HB.out) GB5.out : Below w0.heap.size w0 w8)); have n2_ := Aside0.mk (Kept.of_grown (S := (fun k_ => P0_ k_)) hg (by repeat (first | (with_reducible first | exact HK.out | apply Kept.alloc | apply Kept.drewN | apply Kept.drew) | exact HK.out)) (fun k_ e_ => (HO_0.out.1 k_ e_))); clear HO_0; clear HB; clear HK; have HO_0 := n0_; have HB := n1_; have HK := n2_; clear n0_ n1_ n2_; clear hg hw hp_))
          go_roundg k1
          case measure => have := HK1.out; omega
          case rel => exact ⟨(y101), (wrap64 (x1_1 + 1)), (wrap64 (x5_1 + 1)), (by first | rfl | (simp; done) | (simp [*]; done)), (by first | rfl | (simp; done) | (simp [*]; done)), H', ⟨by have := HK1.out; omega⟩, ⟨by (with_reducible repeat (first | apply Kd.R_alloc | apply Kd.R_drewN | apply Kd.R_drew)); exact HO_0.out⟩, ⟨by repeat (first | (with_reducible first | exact HK.out | apply Kept.alloc | apply Kept.drewN | apply Kept.drew) | exact HK.out)⟩, ⟨by repeat (first | (with_reducible first | exact HB.out | apply below_alloc | apply pw_below_drewN | apply below_drew1) | exact HB.out)⟩⟩
        · rw [if_neg c4] at H
          exact absurd H (by simp)
      · rw [if_neg c3] at H
        have c3b0 : decide (x5_1 < (x0_1.length : Int)) = false := decide_eq_false c3
        clear c3
        simp only [Option.some.injEq, Prod.mk.injEq] at H
        obtain ⟨rfl, rfl⟩ := H
        obtain ⟨Ao9, co9, eo9⟩ := Kd.R_slice HO_0.out
        subst eo9
        go_wp2
        go_ret
        exact ⟨by first | rfl | (simp [errW_none, errW_some] <;> rfl) | (simp [*, errW_none, errW_some] <;> rfl), by (with_reducible repeat (first | apply Kd.R_alloc | apply Kd.R_drewN | apply Kd.R_drew)); exact HO_0.out, by repeat (first | (with_reducible first | exact HB.out | apply below_alloc | apply pw_below_drewN | apply below_drew1) | exact HB.out), by repeat (first | (with_reducible first | exact HK.out | apply Kept.alloc | apply Kept.drewN | apply Kept.drew) | exact HK.out)⟩

end Go.Proofs.Ytgfadfahbhcllaa.Q
namespace Go.Proofs.Ytgfadfahbhcllaa.Q
open Go.RowKit Go.Proofs.YtgfadfahbhcllaaW.PrintWords Go.Proofs.YtgfadfahbhcllaaW.PrintLast Go.Proofs.Ytgfadfahbhcllaa.LK Go.Proofs.YtgfadfahbhcllaaW.PrintMore
attribute [local go_sem] max2_int min2_int max_two min_two max_three min_three max_four min_four   -- for this text's walks alone
set_option linter.unusedVariables false
set_option linter.unusedSimpArgs false

/-! ### laws_heldByteS: function 16 -/
def laws_heldByteS.l0 : Nat → List Int → Int → Int → Option (Int)
  | 0, _, _, _ => none
  | k + 1, x0, x1, x5 => if x5 < (x0.length : Int) then (if 0 ≤ x5 then (if (rd x0 x5) = ((x1) % 256) then (laws_heldByteS.l0 k x0 (wrap64 (x1 + 1)) (wrap64 (x5 + 1))) else (some (-1))) else (none)) else (some x1)
def laws_heldByteS.f (k : Nat) (l0 : List Int) (a1 : Int) : Option (Int) := laws_heldByteS.l0 k l0 a1 0
theorem laws_heldByteS.mono_l : ∀ k, (∀ y0 y1 y2, LeO (laws_heldByteS.l0 k y0 y1 y2) (laws_heldByteS.l0 (k + 1) y0 y1 y2))
  | 0 => fun _ _ _ r h => by simp [laws_heldByteS.l0] at h
  | k + 1 => by
    have ih0 := laws_heldByteS.mono_l k
    · intro y0 y1 y2
      unfold laws_heldByteS.l0
      repeat' first
      | (with_reducible exact ih0 _ _ _)
      | (with_reducible exact LeO.refl _)
      | (with_reducible exact LeO.none _)
      | (with_reducible refine LeO.ite ?_ ?_)
      | (with_reducible refine LeO.bind ?_ (fun _ => ?_))
      | exact ih0 _ _ _
      | exact LeO.none _
      | refine LeO.ite ?_ ?_
      | refine LeO.bind ?_ (fun _ => ?_)
theorem laws_heldByteS.mono : ∀ a0 a1 k, LeO (laws_heldByteS.f k a0 a1) (laws_heldByteS.f (k + 1) a0 a1) := by
  intro a0 a1 k
  have ih0 := laws_heldByteS.mono_l k
  unfold laws_heldByteS.f
  repeat' first
      | (with_reducible exact ih0 _ _ _)
      | (with_reducible exact LeO.refl _)
      | (with_reducible exact LeO.none _)
      | (with_reducible refine LeO.ite ?_ ?_)
      | (with_reducible refine LeO.bind ?_ (fun _ => ?_))
      | exact ih0 _ _ _
      | exact LeO.none _
      | refine LeO.ite ?_ ?_
      | refine LeO.bind ?_ (fun _ => ?_)
set_option maxHeartbeats 8000000 in
set_option maxRecDepth 100000 in
theorem laws_heldByteS.calls (k : Nat) (A0 : Option Addr) (c0 : Nat) (l0 : List Int) (a1 : Int) (r : Int) (w : World) (hr0 : Kd.C (Kd.int .u8) w A0 l0.length l0) (hc0 : l0.length ≤ c0) (h : laws_heldByteS.f k l0 a1 = some r) :
    Calls Try.prog 16 #[.slice A0 l0.length c0, .int .i64 a1] w fun e w' => e = .returned (.int .i64 r) ∧ Drawn0 w w' := by
  have HR0 := Aside0.mk hr0
  have HC0 := Aside0.mk hc0
  clear hr0 hc0
  have H : (laws_heldByteS.l0 k l0 a1 0) = some r := h
  clear h
  have H' := Aside0.mk H
  clear H
  go_enter Try.func16, Try.ntmps16
  go_wp2
  go_loopg [1, 5] k (fun kq v1 v5 w' => ∃ (x1_1 : Int) (x5_1 : Int), v1 = .int .i64 x1_1 ∧ v5 = .int .i64 x5_1 ∧ Aside0 (laws_heldByteS.l0 kq l0 x1_1 x5_1 = some r) ∧ Aside0 (kq ≤ k) ∧ Drawn0 w w')
  case atStart => exact ⟨(a1), (0), (by first | rfl | (simp; done) | (simp [*]; done)), (by first | rfl | (simp; done) | (simp [*]; done)), H', ⟨Nat.le_refl _⟩, by repeat (first | exact Drawn0.refl _ | apply Drawn0.step)⟩
  case round =>
    clear H'
    try clear c1
    try clear p2
    obtain ⟨x1_1, x5_1, rfl, rfl, HA, HK1, ⟨m1, rfl⟩⟩ := hrel
    cases gk with
    | zero => exact absurd HA.out (by simp [laws_heldByteS.l0])
    | succ k1 =>
      have H := HA.out
      clear HA
      simp only [laws_heldByteS.l0] at H
      by_cases c3 : x5_1 < (l0.length : Int)
      · rw [if_pos c3] at H
        have c3b0 : decide (x5_1 < (l0.length : Int)) = true := decide_eq_true c3
        clear c3
        by_cases c4 : 0 ≤ x5_1
        · rw [if_pos c4] at H
          have c4b0 : decide (0 ≤ x5_1) = true := decide_eq_true c4
          clear c4
          by_cases c5 : (rd l0 x5_1) = ((x1_1) % 256)
          · rw [if_pos c5] at H
            have c5b0 : ((rd l0 x5_1) == ((x1_1) % 256)) = true := beq_iff_eq.mpr c5
            have c5b1 : ((rd l0 x5_1) != ((x1_1) % 256)) = false := bne_eq_false_iff_eq.mpr c5
            clear c5
            have H' := Aside0.mk H
            clear H
            have p101 : 0 ≤ (x5_1 : Int) := of_decide_eq_true (by first | (with_reducible assumption) | assumption)
            have q101 : x5_1 < (l0.length : Int) := of_decide_eq_true (by first | (with_reducible assumption) | assumption)
            obtain ⟨ad101, e101, hx101_0⟩ := Kd.at_int HR0.out x5_1 p101 q101
            cases e101
            replace p101 := eq_true p101
            replace q101 := eq_true q101
            go_wp2
            go_roundg k1
            case measure => have := HK1.out; omega
            case rel => exact ⟨(wrap64 (x1_1 + 1)), (wrap64 (x5_1 + 1)), (by first | rfl | (simp; done) | (simp [*]; done)), (by first | rfl | (simp; done) | (simp [*]; done)), H', ⟨by have := HK1.out; omega⟩, by repeat (first | exact Drawn0.refl _ | apply Drawn0.step)⟩
          · rw [if_neg c5] at H
            have c5b0 : ((rd l0 x5_1) == ((x1_1) % 256)) = false := beq_eq_false_iff_ne.mpr c5
            have c5b1 : ((rd l0 x5_1) != ((x1_1) % 256)) = true := bne_iff_ne.mpr c5
            obtain rfl := Option.some.inj H
            have p101 : 0 ≤ (x5_1 : Int) := of_decide_eq_true (by first | (with_reducible assumption) | assumption)
            have q101 : x5_1 < (l0.length : Int) := of_decide_eq_true (by first | (with_reducible assumption) | assumption)
            obtain ⟨ad101, e101, hx101_0⟩ := Kd.at_int HR0.out x5_1 p101 q101
            cases e101
            replace p101 := eq_true p101
            replace q101 := eq_true q101
            go_wp2
            go_ret
            exact ⟨by first | rfl | (simp; done) | (simp [*]; done), by repeat (first | exact Drawn0.refl _ | apply Drawn0.step)⟩
        · rw [if_neg c4] at H
          exact absurd H (by simp)
      · rw [if_neg c3] at H
        have c3b0 : decide (x5_1 < (l0.length : Int)) = false := decide_eq_false c3
        clear c3
        obtain rfl := Option.some.inj H
        go_wp2
        go_ret
        exact ⟨by first | rfl | (simp; done) | (simp [*]; done), by repeat (first | exact Drawn0.refl _ | apply Drawn0.step)⟩

end Go.Proofs.Ytgfadfahbhcllaa.Q
namespace Go.Proofs.Ytgfadfahbhcllaa.P
open Go.RowKit Go.Proofs.YtgfadfahbhcllaaW.PrintWords Go.Proofs.Ytgfadfahbhcllaa.Q
set_option linter.unusedVariables false
set_option linter.unusedSimpArgs false
theorem toByteS_ev (l : List Int) (h : l.length ≤ 281474976710656) : Ev (fun k => laws_toByteS.f k l) l := by
  have h1 := copy_ends (fun k y i => laws_toByteS.l0 k l y i) id l (List.replicate ((l.length : Int)).toNat 0) (by simp) ?_ ?_
  · rw [List.map_id] at h1
    refine Ev.congr (fun k => ?_) h1
    simp only [laws_toByteS.f]
    rw [if_pos (by omega), if_pos (by omega)]
  · intro i a y ha hi hy
    refine ⟨0, fun k _ => ?_⟩
    simp only [laws_toByteS.l0]
    rw [if_pos (by omega), if_pos (by omega), if_pos (by omega), w64s hi (by omega), rd_at ha]
    rfl
  · intro k y hy
    simp only [laws_toByteS.l0]
    rw [if_neg (by omega)]
theorem eqByteS_ev (l : List Int) (h : l.length ≤ 4611686018427387904) : Ev (fun k => laws_eqByteS.f k l l) true := by
  refine Ev.congr (fun k => ?_) (each_ends (fun k i => laws_eqByteS.l0 k l l i) l.length true ?_ ?_)
  · simp only [laws_eqByteS.f]
    rw [if_pos trivial]
  · intro i hi
    refine ⟨0, fun k _ => ?_⟩
    simp only [laws_eqByteS.l0]
    rw [if_pos (by omega), if_pos (by omega), if_pos (by omega), if_pos trivial, w64s hi (by omega)]
  · intro k
    simp only [laws_eqByteS.l0]
    rw [if_neg (by omega)]
def mkByteS (m : Int) (n : Nat) : List Int := ups (fun c => c % 256) m n
theorem mkByteS_length (m : Int) (n : Nat) : (mkByteS m n).length = n := ups_length _ _ _
theorem mkByteS_at (m : Int) {n i : Nat} (h : i < n) : (mkByteS m n)[i]? = some ((fun c => c % 256) (m + i)) := ups_at _ m h
theorem markByteS_ev (l : List Int) (m : Int) (h0 : 0 ≤ m) (hm : m + l.length ≤ 4611686018427387904) : Ev (fun k => laws_markByteS.f k l m) (m + l.length, mkByteS m l.length) := by
  refine mark_ends (fun k y c i => laws_markByteS.l0 k y c i) (fun c => c % 256) l m h0 hm ?_ ?_
  · intro k i y c hi hy
    simp only [laws_markByteS.l0]
    rw [if_pos (by omega), if_pos (by omega)]
    rfl
  · intro k y c hy
    simp only [laws_markByteS.l0]
    rw [if_neg (by omega)]
theorem heldByteS_ev (n : Nat) (m : Int) (h0 : 0 ≤ m) (hm : m + n ≤ 4611686018427387904) : Ev (fun k => laws_heldByteS.f k (mkByteS m n) m) (m + n) := by
  refine held_ends (fun k c i => laws_heldByteS.l0 k (mkByteS m n) c i) n m h0 hm ?_ ?_
  · intro k i hi
    simp only [laws_heldByteS.l0, mkByteS_length]
    rw [if_pos (by omega), if_pos (by omega), rd_at (mkByteS_at m hi), if_pos rfl]
  · intro k
    simp only [laws_heldByteS.l0, mkByteS_length]
    rw [if_neg (by omega)]
end Go.Proofs.Ytgfadfahbhcllaa.P
namespace Go.Proofs.Ytgfadfahbhcllaa.Pure
open Go.Proofs.Ytgfadfahbhcllaa.Q Go.Proofs.Ytgfadfahbhcllaa.P
theorem FnExactDecodeFrame : laws_FnExactDecodeFrame.Pure := by
  intro l ⟨hl, hb⟩
  refine Ev.ex (f := fun k => laws_FnExactDecodeFrame.f k l) ?_
  simp only [laws_FnExactDecodeFrame.f]
  have hu := u8_of hb
  by_cases h : (l.length : Int) > 1048576
  · exact Ev.pos h (Ev.const rfl)
  have et := toByteS_ev l (by omega)
  have eq := eqByteS_ev l (by omega)
  have ef : laws_eqFrameRes.f (decF l).1 (decF l).2.1 (decF l).2.2.1 (decF l).2.2.2.1 (decF l).2.2.2.2 (decF l).1 (decF l).2.1 (decF l).2.2.1 (decF l).2.2.2.1 (decF l).2.2.2.2 = some true := by
    simp [laws_eqFrameRes.f, laws_eqFrame.f]
  exact Ev.neg h (Ev.bind et (Ev.bind (Ev.const (spec_dec hu)) (Ev.bind et (Ev.bind (Ev.const (impl_dec hu)) (Ev.bind (Ev.const ef) (Ev.pos rfl (Ev.bind et (Ev.bind eq (Ev.pos rfl (Ev.const rfl))))))))))
end Go.Proofs.Ytgfadfahbhcllaa.Pure
namespace Go.Proofs.Ytgfadfahbhcllaa.fnExactDecodeFrame
open Go.ChangeShapes Go.WideShapes Go.ChangeAt Go.RowKit Go.Proofs.Ytgfadfahbhcllaa.Q Go.Proofs.YtgfadfahbhcllaaW.PrintWords Go.Proofs.Ytgfadfahbhcllaa.O
open Go.ChangeMaps (open_string shut_string)
set_option linter.unusedVariables false
theorem own : ownKnob Try.prog.godebug = none := by kernel_rfl
theorem laidOut : laidOutB Try.prog = true := by kernel_rfl
set_option maxRecDepth 100000 in
theorem lifted (os : Os) (started : os.Started) (H : Type) (enc : TypeId × Value → H) :
    ReturnsInHanded {} Try.checked os 4 .any (Rows.fnExactDecodeFrameSpec.pre6 enc Try.prog Try.f4 Rows.fnExactDecodeFrameRow.domain false) (Rows.fnExactDecodeFrameSpec.post enc Try.prog Try.f4 false true false false) := by
  refine returnsInHanded_of_change_sized (C := Try.checked) own started (by kernel_rfl) Try.func4
    (ChangeSpec.witness6 (enc := enc) (C := Try.checked) false ⟨#[], #[.slice none 0 0], []⟩ 8 (by kernel_rfl) (by kernel_rfl) (by kernel_rfl) (by kernel_rfl)) ?_
  intro W base args ds gs before hval0 hW hcnd hsz0 _
  have hval : ∀ (j : Nat) t v, Try.f4.params[j]? = some t → args[j]? = some v → Value.okWide Try.prog W .any base t v := hval0
  have hW' := hW
  obtain ⟨p, q, hA0, hV, rfl, hfz, hnd⟩ := hW
  have hA : DataW.TrodAll enc Try.prog W 0 (fun _ => true) true Try.f4.params.toList args.toList ds p := hA0
  rw [Try.params4] at hA hval
  obtain ⟨v0, vs0, d0, ds0, p0, q0, hargs, rfl, rfl, h0, r0⟩ := trodAll_cons hA
  obtain ⟨rfl, rfl, rfl⟩ := trodAll_nil r0
  obtain rfl : args = #[v0] := by cases args; simp_all
  obtain ⟨rfl, rfl⟩ := trodVars_none hV
  have k0 := h0
  have lt0 : ∀ x ∈ p0, x.block < W.heap.size := by obtain ⟨m, hm⟩ := k0; exact DataW.trod_lt m _ _ _ hm
  obtain ⟨a0, len0, cap0, rfl⟩ := okWide_slice Try.underlying25 (hval 0 25 v0 rfl rfl)
  obtain ⟨l0, ⟨A0, c0, he0, m0, g0⟩, w0⟩ : ∃ x, ((Kd.slice 5 (Kd.int .u8))).K W x [.slice a0 len0 cap0] ∧ (x.length ≤ 9223372036854775807 ∧ ∀ z_ ∈ x, (Lit.int .u8 z_).wf = true) := by
    obtain ⟨fuel, hf⟩ := h0
    exact (opens_slice Try.underlying25 (by kernel_rfl) (opens_int Try.underlying5)) H enc W fuel _ _ hf
  obtain ⟨rfl, rfl, rfl⟩ : a0 = A0 ∧ len0 = l0.length ∧ cap0 = c0 := by simpa using he0
  clear hA0 hval0 hsz0
  obtain ⟨k, hp⟩ := Pure.FnExactDecodeFrame l0 w0
  refine (laws_FnExactDecodeFrame.calls k _ _ l0 W g0 m0 hp).mono fun e W' ⟨he, bel⟩ => ?_
  subst he
  exact ⟨_, rfl, _, _, _, [], _, [], hW', trodAll_mk1 (shut_bool Try.underlying4 _), (trodAll_cons_mk (Below.trod laidOut (by kernel_rfl) (of_decide_eq_true (by kernel_rfl)) k0 bel lt0) trodAll_mk0), rfl, bel.frame _, fun h => by cases h⟩
theorem over : Rows.fnExactDecodeFrameRow.holds Try.pinned (OpenSpec.ofChange Rows.fnExactDecodeFrameSpec) :=
  OpenClaim.holds_of_wide 4 Try.f4 rfl rfl rfl rfl rfl rfl rfl ⟨rfl, rfl, rfl, rfl, rfl⟩ rfl rfl rfl rfl rfl (by kernel_rfl) Try.func4 (by kernel_rfl)
    (of_decide_eq_true (by kernel_rfl)) (by unfold Func.isWrapper; first | (rw [if_pos (by decide +kernel)]; kernel_rfl) | (rw [if_neg (by decide +kernel)]; exact ⟨rfl, rfl⟩))
    (fun os started H enc _ => lifted os started H enc)
theorem proved : Rows.FnExactDecodeFrameSaid := over
#print axioms proved
end Go.Proofs.Ytgfadfahbhcllaa.fnExactDecodeFrame
namespace Go.Proofs.Ytgfadfahbhcllaa
/-- The row, under a short name, for the claim. -/
theorem fnExactDecodeFrame_holds : Rows.FnExactDecodeFrameSaid := fnExactDecodeFrame.proved
end Go.Proofs.Ytgfadfahbhcllaa
