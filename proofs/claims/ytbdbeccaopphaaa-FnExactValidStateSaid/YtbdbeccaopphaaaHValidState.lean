/- ValidState, by hand. No further condition. -/
import Derived.Test.YtbdbeccaopphaaaQT
import Derived.Test.YtbdbeccaopphaaaBx
import Derived.Test.YtbdbeccaopphaaaPlainSerials
namespace Go.Proofs.Ytbdbeccaopphaaa.P
open Go.RowKit Go.Proofs.YtbdbeccaopphaaaW.PrintWords Go.Proofs.YtbdbeccaopphaaaW.PrintMore Go.Proofs.Ytbdbeccaopphaaa.Q
/-- Tap i of a state's list. -/
def tapOk (used : List Int) (taps : List S128) (i : Nat) : Bool := decide ((rd_T128 taps i).f0 ∈ used) && ((List.range i).all fun j => decide ((rd_T128 taps j).f0 ≠ (rd_T128 taps i).f0)) && decide (0 ≤ (rd_T128 taps i).f1) && decide ((rd_T128 taps i).f1 ≤ 4294967295)
def validS (d u : List Int) (a : Int) (taps : List S128) : Bool := goodS d && decide (d.length ≤ 16) && goodS u && decide (0 ≤ a) && decide (a = (u.length : Int) - taps.length) && (List.range taps.length).all (tapOk u taps)
section
variable {d u : List Int} {a : Int} {taps : List S128}
theorem vs1 (h : goodS d = false) : validS d u a taps = false := by unfold validS; rw [h]; rfl
theorem vs2 (h : ¬ d.length ≤ 16) : validS d u a taps = false := by unfold validS; rw [decide_eq_false h]; simp
theorem vs3 (h : goodS u = false) : validS d u a taps = false := by unfold validS; rw [h]; simp
theorem vs4 (h : ¬ 0 ≤ a) : validS d u a taps = false := by unfold validS; rw [decide_eq_false h]; simp
theorem vs5 (h : ¬ a = (u.length : Int) - taps.length) : validS d u a taps = false := by unfold validS; rw [decide_eq_false h]; simp
theorem vs6 {i : Nat} (hi : i < taps.length) (h : tapOk u taps i = false) : validS d u a taps = false := by
  unfold validS
  have : (List.range taps.length).all (tapOk u taps) = false := by rw [List.all_eq_false]; exact ⟨i, List.mem_range.2 hi, by simp [h]⟩
  rw [this, Bool.and_false]
theorem vst (h1 : goodS d = true) (h2 : d.length ≤ 16) (h3 : goodS u = true) (h4 : 0 ≤ a) (h5 : a = (u.length : Int) - taps.length) (h6 : ∀ i, i < taps.length → tapOk u taps i = true) : validS d u a taps = true := by
  unfold validS
  have : (List.range taps.length).all (tapOk u taps) = true := List.all_eq_true.2 (fun i hi => h6 i (List.mem_range.1 hi))
  rw [h1, h3, this, decide_eq_true h2, decide_eq_true h4, decide_eq_true h5]
  rfl
end
end Go.Proofs.Ytbdbeccaopphaaa.P
namespace Go.Proofs.Ytbdbeccaopphaaa.Q
open Go.RowKit Go.Proofs.YtbdbeccaopphaaaW.PrintWords Go.Proofs.YtbdbeccaopphaaaW.PrintLast Go.Proofs.YtbdbeccaopphaaaW.PrintMore Go.Proofs.Ytbdbeccaopphaaa.LK
set_option linter.unusedVariables false
set_option linter.unusedSimpArgs false
/-- Which serials the first i taps have. -/
def seenB (taps : List S128) (i : Nat) (v : Int) : Bool := (List.range i).any fun j => decide ((rd_T128 taps j).f0 = v)
def seenV (taps : List S128) (i : Nat) : List Value := (List.range 256).map fun (v : Nat) => Value.bool (seenB taps i (v : Int))
theorem seenV_length (taps : List S128) (i : Nat) : (seenV taps i).length = 256 := by unfold seenV; rw [List.length_map, List.length_range]
theorem seenV_one (taps : List S128) (i : Nat) : ∀ v ∈ seenV taps i, v.oneCell' = true := by
  intro v hv
  unfold seenV at hv
  obtain ⟨x, _, rfl⟩ := List.mem_map.1 hv
  rfl
theorem seenV_zero (taps : List S128) : seenV taps 0 = List.replicate 256 (Value.bool false) := by
  unfold seenV seenB
  refine List.eq_replicate_iff.2 ⟨by simp, fun b hb => ?_⟩
  obtain ⟨x, _, rfl⟩ := List.mem_map.1 hb
  rfl
theorem seenV_at (taps : List S128) (i : Nat) {x : Int} (h0 : 0 ≤ x) (h1 : x < 256) : (seenV taps i)[x.toNat]? = some (Value.bool (seenB taps i x)) := by
  unfold seenV
  rw [List.getElem?_map, List.getElem?_range (by omega)]
  show some (Value.bool (seenB taps i ((x.toNat : Nat) : Int))) = _
  rw [show ((x.toNat : Nat) : Int) = x from by omega]
theorem seenV_set {taps : List S128} {i : Nat} {x : Int} (hx : (rd_T128 taps i).f0 = x) (h0 : 0 ≤ x) (h1 : x < 256) : (seenV taps i).take x.toNat ++ [Value.bool true] ++ (seenV taps i).drop (x.toNat + 1) = seenV taps (i + 1) := by
  have e : (seenV taps i).take x.toNat ++ [Value.bool true] ++ (seenV taps i).drop (x.toNat + 1) = (seenV taps i).set x.toNat (Value.bool true) := by
    rw [List.set_eq_take_append_cons_drop, if_pos (by rw [seenV_length]; omega), List.append_assoc]
    rfl
  rw [e]
  refine List.ext_getElem? (fun j => ?_)
  by_cases hj : j < 256
  · have ej : (seenV taps (i + 1))[j]? = some (Value.bool (seenB taps (i + 1) (j : Int))) := by
      unfold seenV
      rw [List.getElem?_map, List.getElem?_range hj]
      rfl
    have es : seenB taps (i + 1) (j : Int) = (seenB taps i (j : Int) || decide (x = (j : Int))) := by
      unfold seenB
      rw [List.range_succ, List.any_append, List.any_cons, List.any_nil, Bool.or_false, hx]
    rw [ej, es]
    by_cases hjx : x.toNat = j
    · subst hjx
      rw [List.getElem?_set_self (by rw [seenV_length]; omega), decide_eq_true (by omega), Bool.or_true]
    · rw [List.getElem?_set_ne hjx, decide_eq_false (by omega), Bool.or_false]
      unfold seenV
      rw [List.getElem?_map, List.getElem?_range hj]
      rfl
  · rw [List.getElem?_eq_none (by rw [List.length_set, seenV_length]; omega), List.getElem?_eq_none (by rw [seenV_length]; omega)]
theorem seen_no {taps : List S128} {i : Nat} (h : seenB taps i (rd_T128 taps i).f0 = false) : ((List.range i).all fun j => decide ((rd_T128 taps j).f0 ≠ (rd_T128 taps i).f0)) = true := by
  unfold seenB at h
  rw [List.any_eq_false] at h
  exact List.all_eq_true.2 (fun j hj => decide_eq_true (fun e => h j hj (decide_eq_true e)))
theorem seen_yes {taps : List S128} {i : Nat} (h : seenB taps i (rd_T128 taps i).f0 = true) : ((List.range i).all fun j => decide ((rd_T128 taps j).f0 ≠ (rd_T128 taps i).f0)) = false := by
  unfold seenB at h
  obtain ⟨j, hj, e⟩ := List.any_eq_true.1 h
  rw [List.all_eq_false]
  exact ⟨j, hj, by simpa using of_decide_eq_true e⟩
def sizesS (d u : List Int) (taps : List S128) : Prop := d.length ≤ 2097152 ∧ u.length ≤ 2097152 ∧ taps.length ≤ 2097152
instance (d u : List Int) (taps : List S128) : Decidable (sizesS d u taps) := by unfold sizesS; infer_instance
def impl_ValidState.f (l0_0 : List Int) (l0_1 : List Int) (a0_2 : Int) (l0_3 : List S128) : Option Bool := if sizesS l0_0 l0_1 l0_3 then some (P.validS l0_0 l0_1 a0_2 l0_3) else none
set_option maxHeartbeats 8000000 in
set_option maxRecDepth 100000 in
theorem impl_ValidState.calls (A0_0 : Option Addr) (c0_0 : Nat) (l0_0 : List Int) (A0_1 : Option Addr) (c0_1 : Nat) (l0_1 : List Int) (a0_2 : Int) (A0_3 : Option Addr) (c0_3 : Nat) (l0_3 : List S128) (r : Bool) (w : World) (hr0_0 : Kd.C (Kd.int .i64) w A0_0 l0_0.length l0_0) (hc0_0 : l0_0.length ≤ c0_0) (hr0_1 : Kd.C (Kd.int .i64) w A0_1 l0_1.length l0_1) (hc0_1 : l0_1.length ≤ c0_1) (hr0_3 : Kd.C k128 w A0_3 l0_3.length l0_3) (hc0_3 : l0_3.length ≤ c0_3) (h : impl_ValidState.f l0_0 l0_1 a0_2 l0_3 = some r) :
    Calls Try.prog 55 #[.agg #[.slice A0_0 l0_0.length c0_0, .slice A0_1 l0_1.length c0_1, .int .i64 a0_2, .slice A0_3 l0_3.length c0_3]] w fun e w' => e = .returned (.bool r) ∧ Below w.heap.size w w' := by
  unfold impl_ValidState.f at h
  by_cases hsz : sizesS l0_0 l0_1 l0_3
  case neg => rw [if_neg hsz] at h; cases h
  rw [if_pos hsz] at h
  have h := Option.some.inj h
  obtain ⟨kd_, hkd⟩ := (P.impl_good_ev l0_0 (Nat.le_trans hsz.1 (by decide))).ex
  obtain ⟨ku_, hku⟩ := (P.impl_good_ev l0_1 (Nat.le_trans hsz.2.1 (by decide))).ex
  have HKD := Aside0.mk hkd
  have HKU := Aside0.mk hku
  have HR0 := Aside0.mk hr0_0
  have HR1 := Aside0.mk hr0_1
  have HR3 := Aside0.mk hr0_3
  have HC0 := Aside0.mk hc0_0
  have HC1 := Aside0.mk hc0_1
  have H := Aside0.mk h
  have HSz := Aside0.mk hsz
  have jsub : IntKind.i64.wrap ((l0_1.length : Int) - (l0_3.length : Int)) = (l0_1.length : Int) - l0_3.length := by have := hsz.2; rw [IntKind.wrap_i64]; omega
  have H0 := Aside0.mk (Bx.refl w)
  clear hr0_0 hr0_1 hr0_3 hc0_0 hc0_1 hc0_3 hkd hku h hsz
  go_enter Try.func55, Try.ntmps55
  go_wp2_with (first | ((with_reducible refine gate_dst (N := 1) rfl ?_); refine Aside0.out ?_))
  refine Aside0.mk ?_
  refine mk ?hw1 (N := 1) ?hd1 (cs := #[.slice A0_0 l0_0.length c0_0, .slice A0_1 l0_1.length c0_1, .int .i64 a0_2, .slice A0_3 l0_3.length c0_3]) (t := 80) ?hr1 ?_
  case hd1 => rfl
  case hw1 => rfl
  case hr1 => first | (go_simp; done) | (go_simp; rfl)
  intro g1 hg1_ w101 hb1 hB1
  have H102 := Aside0.mk (H0.out.new hg1_ hb1 hB1)
  clear hg1_ hb1 hB1 H0
  have hd0 : w101.cell? ⟨g1, 0, none⟩ = some (.slice A0_0 l0_0.length c0_0) := (blk_cell H102.out.gt0 0).trans rfl
  have hd1 : w101.cell? ⟨g1, 1, none⟩ = some (.slice A0_1 l0_1.length c0_1) := (blk_cell H102.out.gt0 1).trans rfl
  have hd2 : w101.cell? ⟨g1, 2, none⟩ = some (.int .i64 a0_2) := (blk_cell H102.out.gt0 2).trans rfl
  have hd3 : w101.cell? ⟨g1, 3, none⟩ = some (.slice A0_3 l0_3.length c0_3) := (blk_cell H102.out.gt0 3).trans rfl
  go_wp2_with (first | ((with_reducible refine gate_callee (f := 94) rfl ?_); refine Aside0.out ?_))
  refine Aside0.mk ?_
  refine goesW (some 10) rfl ?hw3 Try.func94 (by kernel_rfl) rfl #[.slice A0_0 l0_0.length c0_0] rfl (by (try simp only [List.map_toArray, List.map_cons, List.map_nil]); first | done | rfl) ?_
  case hw3 => rfl
  refine (impl_goodSerials.calls kd_ _ c0_0 l0_0 _ _ (Kd.C_below HR0.out H102.out.below) HC0.out HKD.out).mono ?_
  rintro e w103 ⟨rfl, hd_⟩
  refine ⟨_, rfl, ?_⟩
  have hb_ := hd_.below
  clear hd_ hd0 hd1 hd2 hd3
  have H104 := Aside0.mk (H102.out.step hb_)
  clear hb_ H102
  have hd0 : w103.cell? ⟨g1, 0, none⟩ = some (.slice A0_0 l0_0.length c0_0) := (blk_cell H104.out.gt0 0).trans rfl
  have hd1 : w103.cell? ⟨g1, 1, none⟩ = some (.slice A0_1 l0_1.length c0_1) := (blk_cell H104.out.gt0 1).trans rfl
  have hd2 : w103.cell? ⟨g1, 2, none⟩ = some (.int .i64 a0_2) := (blk_cell H104.out.gt0 2).trans rfl
  have hd3 : w103.cell? ⟨g1, 3, none⟩ = some (.slice A0_3 l0_3.length c0_3) := (blk_cell H104.out.gt0 3).trans rfl
  cases hgd : P.goodS l0_0 with
  | false =>
    have HGD := Aside0.mk hgd
    clear hgd
    go_wp2
    go_ret
    exact ⟨by rw [← H.out, P.vs1 HGD.out]; rfl, H104.out.below⟩
  | true =>
    have HGD := Aside0.mk hgd
    clear hgd
    by_cases c16 : l0_0.length ≤ 16
    · have c16b : decide (16 < (l0_0.length : Int)) = false := decide_eq_false (by omega)
      have C16 := Aside0.mk c16
      clear c16
      go_wp2_with (first | ((with_reducible refine gate_callee (f := 94) rfl ?_); refine Aside0.out ?_))
      refine Aside0.mk ?_
      refine goesW (some 21) rfl ?hw5 Try.func94 (by kernel_rfl) rfl #[.slice A0_1 l0_1.length c0_1] rfl (by (try simp only [List.map_toArray, List.map_cons, List.map_nil]); first | done | rfl) ?_
      case hw5 => rfl
      refine (impl_goodSerials.calls ku_ _ c0_1 l0_1 _ _ (Kd.C_below HR1.out H104.out.below) HC1.out HKU.out).mono ?_
      rintro e w105 ⟨rfl, hd_⟩
      refine ⟨_, rfl, ?_⟩
      have hb_ := hd_.below
      clear hd_ hd0 hd1 hd2 hd3
      have H106 := Aside0.mk (H104.out.step hb_)
      clear hb_ H104
      have hd0 : w105.cell? ⟨g1, 0, none⟩ = some (.slice A0_0 l0_0.length c0_0) := (blk_cell H106.out.gt0 0).trans rfl
      have hd1 : w105.cell? ⟨g1, 1, none⟩ = some (.slice A0_1 l0_1.length c0_1) := (blk_cell H106.out.gt0 1).trans rfl
      have hd2 : w105.cell? ⟨g1, 2, none⟩ = some (.int .i64 a0_2) := (blk_cell H106.out.gt0 2).trans rfl
      have hd3 : w105.cell? ⟨g1, 3, none⟩ = some (.slice A0_3 l0_3.length c0_3) := (blk_cell H106.out.gt0 3).trans rfl
      cases hgu : P.goodS l0_1 with
      | false =>
        have HGU := Aside0.mk hgu
        clear hgu
        go_wp2
        go_ret
        exact ⟨by rw [← H.out, P.vs3 HGU.out]; rfl, H106.out.below⟩
      | true =>
        have HGU := Aside0.mk hgu
        clear hgu
        by_cases ca : 0 ≤ a0_2
        · have cab : decide (a0_2 < 0) = false := decide_eq_false (by omega)
          have CA := Aside0.mk ca
          clear ca
          by_cases ce : a0_2 = (l0_1.length : Int) - l0_3.length
          · have ceb : (a0_2 != (l0_1.length : Int) - (l0_3.length : Int)) = false := bne_eq_false_iff_eq.mpr ce
            have CE := Aside0.mk ce
            clear ce
            go_wp2_with (first | ((with_reducible refine gate_dst (N := 3) rfl ?_); refine Aside0.out ?_))
            refine Aside0.mk ?_
            refine mk ?hw7 (N := 3) ?hd7 (cs := (seenV l0_3 0).toArray) (t := 132) ?hr7 ?_
            case hd7 => rfl
            case hw7 => rfl
            case hr7 => rw [seenV_zero]; first | (go_simp; done) | (go_simp; rfl)
            intro g3 hg3_ w107 hb7 hB7
            have H108 := Aside0.mk (H106.out.new hg3_ hb7 hB7)
            clear hg3_ hb7 hB7 H106
            clear hd0 hd1 hd2 hd3
            have hd0 : w107.cell? ⟨g1, 0, none⟩ = some (.slice A0_0 l0_0.length c0_0) := (blk_cell H108.out.gt1 0).trans rfl
            have hd1 : w107.cell? ⟨g1, 1, none⟩ = some (.slice A0_1 l0_1.length c0_1) := (blk_cell H108.out.gt1 1).trans rfl
            have hd2 : w107.cell? ⟨g1, 2, none⟩ = some (.int .i64 a0_2) := (blk_cell H108.out.gt1 2).trans rfl
            have hd3 : w107.cell? ⟨g1, 3, none⟩ = some (.slice A0_3 l0_3.length c0_3) := (blk_cell H108.out.gt1 3).trans rfl
            go_wp2
            go_loopg [44] (l0_3.length + 1) (fun kq v44 w' => ∃ (i : Nat) (x : Int) (wl : World), v44 = .int .i64 x ∧ Aside0 (wl = w') ∧ Aside0 (x = (i : Int)) ∧ Aside0 (kq + i = l0_3.length + 1) ∧ Aside0 (i ≤ l0_3.length) ∧ Aside0 (Bx w [(g3, (seenV l0_3 i).toArray, 132), (g1, #[.slice A0_0 l0_0.length c0_0, .slice A0_1 l0_1.length c0_1, .int .i64 a0_2, .slice A0_3 l0_3.length c0_3], 80)] w') ∧ Aside0 (∀ j, j < i → P.tapOk l0_1 l0_3 j = true))
            case atStart => exact ⟨0, 0, _, rfl, ⟨rfl⟩, ⟨rfl⟩, ⟨by omega⟩, ⟨Nat.zero_le _⟩, H108, ⟨fun j hj => absurd hj (Nat.not_lt_zero j)⟩⟩
            case round =>
              clear H108 hd0 hd1 hd2 hd3
              obtain ⟨i, x, wl, rfl, hwl, HE, HK, HI, HX, HAll⟩ := hrel
              obtain ⟨hwl⟩ := hwl
              subst hwl
              have he := HE.out
              cases gk with
              | zero => exact absurd HK.out (by have := HI.out; omega)
              | succ k1 =>
                by_cases c3 : i < l0_3.length
                · have C3 := Aside0.mk c3
                  have c3b : decide (x < (l0_3.length : Int)) = true := decide_eq_true (by omega)
                  have p5 : (0 ≤ x) = True := eq_true (by omega)
                  have q5 : (x < (l0_3.length : Int)) = True := eq_true (by omega)
                  have jn : IntKind.i64.wrap (x + 1) = x + 1 := by have := HSz.out.2; rw [IntKind.wrap_i64]; omega
                  obtain ⟨ad, eA, hcf0, hcf1⟩ := at_T128 HR3.out x (by omega) (by omega)
                  subst eA
                  replace hcf0 := pw_cell_below HX.out.below hcf0
                  replace hcf1 := pw_cell_below HX.out.below hcf1
                  obtain ⟨p, hp⟩ : ∃ p, p = rd_T128 l0_3 x := ⟨_, rfl⟩
                  rw [← hp] at hcf0 hcf1
                  have HP := Aside0.mk (show rd_T128 l0_3 (i : Int) = p from by rw [hp, he])
                  obtain ⟨at_, -, -, -, hsv⟩ := P.search_ev l0_1 p.f0 HGU.out (Nat.le_trans HSz.out.2.1 (by decide))
                  obtain ⟨ks, hks⟩ := hsv.ex
                  have HKS := Aside0.mk hks
                  clear c3 he hp hsv hks
                  go_wp2_with (first | ((with_reducible refine gate_dst (N := 5) rfl ?_); refine Aside0.out ?_))
                  refine Aside0.mk ?_
                  refine mk ?hw9 (N := 5) ?hd9 (cs := #[.int .i64 0, .int .i64 0]) (t := 128) ?hr9 ?_
                  case hd9 => rfl
                  case hw9 => rfl
                  case hr9 => first | (go_simp; done) | (go_simp; rfl)
                  intro g5 hg5_ w109 hb9 hB9
                  have H110 := Aside0.mk (HX.out.new hg5_ hb9 hB9)
                  clear hg5_ hb9 hB9 HX
                  clear hcf0 hcf1
                  go_wp2_with (first | ((with_reducible refine gate_store (t := 128) (p := 5) rfl ?_); refine Aside0.out ?_))
                  refine Aside0.mk ?_
                  refine st_all ?hw11 ?hN11 rfl ?hp11 (cs := #[.int .i64 p.f0, .int .i64 p.f1]) ?hx11 H110.out.gt0 (by kernel_rfl) (rfl) (by simp [Value.oneCell']) ?_
                  case hw11 => rfl
                  case hN11 => rfl
                  case hp11 => rfl
                  case hx11 => rfl
                  intro w111 hb11 hS11
                  have H112 := Aside0.mk (H110.out.wr0 (cs' := #[.int .i64 p.f0, .int .i64 p.f1]) hb11 hS11)
                  clear hb11 hS11 H110
                  have he0 : w111.cell? ⟨g5, 0, none⟩ = some (.int .i64 p.f0) := (blk_cell H112.out.gt0 0).trans rfl
                  have he1 : w111.cell? ⟨g5, 1, none⟩ = some (.int .i64 p.f1) := (blk_cell H112.out.gt0 1).trans rfl
                  have hd1 : w111.cell? ⟨g1, 1, none⟩ = some (.slice A0_1 l0_1.length c0_1) := (blk_cell H112.out.gt2 1).trans rfl
                  go_wp2_with (first | ((with_reducible refine gate_callee (f := 95) rfl ?_); refine Aside0.out ?_))
                  refine Aside0.mk ?_
                  refine goesW (some 53) rfl ?hw13 Try.func95 (by kernel_rfl) rfl #[.slice A0_1 l0_1.length c0_1, .int .i64 p.f0] rfl (by (try simp only [List.map_toArray, List.map_cons, List.map_nil]); first | done | rfl) ?_
                  case hw13 => rfl
                  refine (slices_BinarySearch_int64_int64.calls ks _ c0_1 l0_1 p.f0 _ _ _ (Kd.C_below HR1.out H112.out.below) HC1.out HKS.out).mono ?_
                  rintro e w113 ⟨rfl, hd_⟩
                  refine ⟨_, rfl, ?_⟩
                  have hb_ := hd_.below
                  clear hd_ he0 he1 hd1
                  have H114 := Aside0.mk (H112.out.step hb_)
                  clear hb_ H112
                  have he0 : w113.cell? ⟨g5, 0, none⟩ = some (.int .i64 p.f0) := (blk_cell H114.out.gt0 0).trans rfl
                  have he1 : w113.cell? ⟨g5, 1, none⟩ = some (.int .i64 p.f1) := (blk_cell H114.out.gt0 1).trans rfl
                  have hd1 : w113.cell? ⟨g1, 1, none⟩ = some (.slice A0_1 l0_1.length c0_1) := (blk_cell H114.out.gt2 1).trans rfl
                  by_cases cm : p.f0 ∈ l0_1
                  · rw [decide_eq_true cm]
                    have CM := Aside0.mk cm
                    have hr_ := P.goodS_mem HGU.out cm
                    have HRg := Aside0.mk hr_
                    have r0 : (0 ≤ p.f0) = True := eq_true hr_.1
                    have r1 : (p.f0 < 256) = True := eq_true hr_.2
                    have hsn : w113.cell? ⟨g3, p.f0.toNat, none⟩ = some (.bool (seenB l0_3 i p.f0)) := (blk_cell H114.out.gt1 _).trans (by rw [List.getElem?_toArray]; exact seenV_at l0_3 i hr_.1 hr_.2)
                    clear cm hr_
                    cases hsb : seenB l0_3 i p.f0 with
                    | true =>
                      rw [hsb] at hsn
                      have HSB := Aside0.mk hsb
                      clear hsb
                      go_wp2
                      go_ret
                      exact ⟨by rw [← H.out, P.vs6 C3.out (by unfold P.tapOk; rw [HP.out]; rw [show ((List.range i).all fun j => decide ((rd_T128 l0_3 j).f0 ≠ p.f0)) = false from by have h_ := seen_yes (taps := l0_3) (i := i) (by rw [HP.out]; exact HSB.out); rw [HP.out] at h_; exact h_]; simp)]; rfl, H114.out.below⟩
                    | false =>
                      rw [hsb] at hsn
                      have HSB := Aside0.mk hsb
                      clear hsb
                      by_cases cn : 0 ≤ p.f1
                      · have cnb : decide (p.f1 < 0) = false := decide_eq_false (by omega)
                        have CN := Aside0.mk cn
                        clear cn
                        by_cases cx : p.f1 ≤ 4294967295
                        · have cxb : decide (4294967295 < p.f1) = false := decide_eq_false (by omega)
                          have CX := Aside0.mk cx
                          clear cx
                          go_wp2_with (first | ((with_reducible refine gate_store (t := 4) (p := 76) rfl ?_); refine Aside0.out ?_))
                          refine Aside0.mk ?_
                          refine st (o' := p.f0.toNat) (u := .bool true) (seg := [.bool true]) ?hw15 ?hN15 rfl ?hp15 ?hx15 rfl H114.out.gt1 (by kernel_rfl) ?hf15 (by simp [Value.oneCell']) ?_
                          case hw15 => rfl
                          case hN15 => rfl
                          case hp15 => first | rfl | (go_simp; rfl)
                          case hx15 => rfl
                          case hf15 => rw [List.size_toArray, seenV_length]; have := HRg.out; show p.f0.toNat + 1 ≤ 256; omega
                          intro w115 hb15 hS15
                          replace hb15 := hb15.trans (congrArg (fun z : List Value => some (Obj.cells z.toArray 132 (0, 0))) (seenV_set (taps := l0_3) (i := i) (by rw [HP.out]) HRg.out.1 HRg.out.2))
                          have H116 := Aside0.mk (H114.out.wr1 (cs' := (seenV l0_3 (i + 1)).toArray) hb15 hS15)
                          clear hb15 hS15 H114
                          have HZ := Aside0.mk H116.out.tail
                          clear H116 he0 he1 hd1 hsn
                          go_wp2
                          go_roundg k1
                          case measure => omega
                          case rel =>
                            refine ⟨i + 1, x + 1, _, rfl, ⟨rfl⟩, ⟨by rw [HE.out]; rfl⟩, ⟨by have := HK.out; omega⟩, ⟨by have := C3.out; omega⟩, HZ, ⟨fun j hj => ?_⟩⟩
                            by_cases hji : j = i
                            · subst hji
                              unfold P.tapOk
                              rw [HP.out, decide_eq_true CM.out, decide_eq_true CN.out, decide_eq_true CX.out, show ((List.range j).all fun q => decide ((rd_T128 l0_3 q).f0 ≠ p.f0)) = true from by have h_ := seen_no (taps := l0_3) (i := j) (by rw [HP.out]; exact HSB.out); rw [HP.out] at h_; exact h_]
                              rfl
                            · exact HAll.out j (by omega)
                        · have cxb : decide (4294967295 < p.f1) = true := decide_eq_true (by omega)
                          have CX := Aside0.mk cx
                          clear cx
                          go_wp2
                          go_ret
                          exact ⟨by rw [← H.out, P.vs6 C3.out (by unfold P.tapOk; rw [HP.out]; rw [show decide (p.f1 ≤ 4294967295) = false from decide_eq_false (by have := CX.out; omega)]; simp)]; rfl, H114.out.below⟩
                      · have cnb : decide (p.f1 < 0) = true := decide_eq_true (by omega)
                        have CN := Aside0.mk cn
                        clear cn
                        go_wp2
                        go_ret
                        exact ⟨by rw [← H.out, P.vs6 C3.out (by unfold P.tapOk; rw [HP.out]; rw [show decide (0 ≤ p.f1) = false from decide_eq_false (by have := CN.out; omega)]; simp)]; rfl, H114.out.below⟩
                  · rw [decide_eq_false cm]
                    have CM := Aside0.mk cm
                    clear cm
                    go_wp2
                    go_ret
                    exact ⟨by rw [← H.out, P.vs6 C3.out (by unfold P.tapOk; rw [HP.out]; rw [decide_eq_false CM.out]; rfl)]; rfl, H114.out.below⟩
                · have c3b : decide (x < (l0_3.length : Int)) = false := decide_eq_false (by omega)
                  obtain rfl : i = l0_3.length := by have := HI.out; omega
                  go_wp2
                  go_ret
                  exact ⟨by rw [← H.out, P.vst HGD.out C16.out HGU.out CA.out CE.out HAll.out]; rfl, HX.out.below⟩
          · have ceb : (a0_2 != (l0_1.length : Int) - (l0_3.length : Int)) = true := bne_iff_ne.mpr ce
            have CE := Aside0.mk ce
            clear ce
            go_wp2
            go_ret
            exact ⟨by rw [← H.out, P.vs5 CE.out]; rfl, H106.out.below⟩
        · have cab : decide (a0_2 < 0) = true := decide_eq_true (by omega)
          have CA := Aside0.mk ca
          clear ca
          go_wp2
          go_ret
          exact ⟨by rw [← H.out, P.vs4 (by have := CA.out; omega)]; rfl, H106.out.below⟩
    · have c16b : decide (16 < (l0_0.length : Int)) = true := decide_eq_true (by omega)
      have C16 := Aside0.mk c16
      clear c16
      go_wp2
      go_ret
      exact ⟨by rw [← H.out, P.vs2 (by have := C16.out; omega)]; rfl, H104.out.below⟩
end Go.Proofs.Ytbdbeccaopphaaa.Q
