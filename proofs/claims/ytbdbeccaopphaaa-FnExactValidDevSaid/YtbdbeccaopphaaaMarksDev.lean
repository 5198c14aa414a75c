/- Rows that are written by the laws' own mark functions: what they leave, and that nothing else changes. No further condition. -/
import Derived.Test.YtbdbeccaopphaaaQlawsmarkByteS
import Derived.Test.YtbdbeccaopphaaaLk
namespace Go.Proofs.Ytbdbeccaopphaaa.Q
open Go.RowKit Go.Proofs.YtbdbeccaopphaaaW.PrintWords Go.Proofs.YtbdbeccaopphaaaW.PrintLast Go.Proofs.YtbdbeccaopphaaaW.PrintMore Go.Proofs.Ytbdbeccaopphaaa.LK
set_option linter.unusedVariables false
set_option linter.unusedSimpArgs false

def trunc (w : World) (b : Nat) : World := { w with heap := w.heap.extract 0 b }
theorem trunc_size {w : World} {b : Nat} (h : b ≤ w.heap.size) : (trunc w b).heap.size = b := by simp [trunc]; omega
theorem trunc_below {w : World} {b : Nat} (h : b ≤ w.heap.size) : Below b (trunc w b) w :=
  ⟨rfl, rfl, rfl, by rw [trunc_size h]; exact h, fun i hi => by
    simp only [trunc]
    rw [Array.getElem?_extract]
    simp only [hi, Nat.sub_zero, Nat.zero_add, Nat.lt_min, true_and]
    by_cases h2 : i < w.heap.size
    · simp [h2]
    · rw [if_neg h2, Array.getElem?_eq_none (by omega)]⟩

theorem markB {k b : Nat} {P0 : Nat → Prop} {v : Value} {l l' : List Int} {m m' : Int} {w : World} (hbw : b ≤ w.heap.size) (hr : Kd.R (Kd.int .u8) 5 w b P0 v l) (h : laws_markByteS.f k l m = some (m', l')) :
    Calls Try.prog 33 #[v, .int .i64 m] w fun e w' => e = .returned (.int .i64 m') ∧ Kd.R (Kd.int .u8) 5 w' b P0 v l' ∧ Stp P0 w w' := by
  have hs := trunc_size hbw
  have hb := trunc_below hbw
  refine (laws_markByteS.calls k P0 v l m m' l' (trunc w b) w (by rw [hs]; exact hb) (by rw [hs]; exact hr) h).mono ?_
  rintro e w' ⟨rfl, hr', hb', hk⟩
  rw [hs] at hr' hb'
  exact ⟨rfl, Kd.R_mono (Kd.R_tight rfl hr') (fun q hq => hr.1 q hq.symm), ⟨hb'.os.trans hb.os.symm, hb'.tape.trans hb.tape.symm, hb'.output.trans hb.output.symm, hk.1, hk.2⟩⟩

def laws_markPendS.l0 : Nat → List S101 → Int → Int → Option (Int × List S101)
  | 0, _, _, _ => none
  | k + 1, xs, m, i => if i < (xs.length : Int) then (if 0 ≤ i then ((laws_markByteS.f k (rd_T101 xs i).f1 (wrap64 (m + 1))).bind fun t => laws_markPendS.l0 k (xs.set i.toNat ⟨m, t.2⟩) t.1 (wrap64 (i + 1))) else none) else some (m, xs)
def laws_markPendS.f (k : Nat) (l0 : List S101) (a1 : Int) : Option (Int × List S101) := laws_markPendS.l0 k l0 a1 0
theorem laws_markPendS.mono_l : ∀ k, (∀ y0 y1 y2, LeO (laws_markPendS.l0 k y0 y1 y2) (laws_markPendS.l0 (k + 1) y0 y1 y2))
  | 0 => fun _ _ _ r h => by simp [laws_markPendS.l0] at h
  | k + 1 => by
    have ih0 := laws_markPendS.mono_l k
    intro y0 y1 y2
    unfold laws_markPendS.l0
    refine LeO.ite (LeO.ite (LeO.bind (laws_markByteS.mono _ _ _) (fun _ => ih0 _ _ _)) (LeO.none _)) (LeO.refl _)
theorem laws_markPendS.mono : ∀ a0 a1 k, LeO (laws_markPendS.f k a0 a1) (laws_markPendS.f (k + 1) a0 a1) := fun a0 a1 k => laws_markPendS.mono_l k a0 a1 0

set_option maxHeartbeats 8000000 in
set_option maxRecDepth 100000 in
theorem mk_laws_markPendS {k b : Nat} {P : Nat → Prop} {v : Value} {l l' : List S101} {m m' : Int} {w : World} (hbw : b ≤ w.heap.size) (hS : Kd.S k101 101 w b P v l) (h : laws_markPendS.f k l m = some (m', l')) :
    Calls Try.prog 61 #[v, .int .i64 m] w fun e w' => e = .returned (.int .i64 m') ∧ Kd.S k101 101 w' b P v l' ∧ Stp P w w' := by
  have H' := Aside0.mk (show laws_markPendS.l0 k l m 0 = some (m', l') from h)
  clear h
  have HO0 := Aside0.mk hS
  have HW0 := Aside0.mk hbw
  have hb0 := Aside0.mk (trunc_below hbw)
  clear hS hbw
  go_enter Try.func61, Try.ntmps61
  go_wp2
  go_loopg [1, 5] k (fun kq v1 v5 w' => ∃ (x0 : List S101) (x1 : Int) (x5 : Int), v1 = .int .i64 x1 ∧ v5 = .int .i64 x5 ∧ Aside0 (laws_markPendS.l0 kq x0 x1 x5 = some (m', l')) ∧ Aside0 (kq ≤ k) ∧ Aside0 (Kd.S k101 101 w' b P v x0) ∧ Aside0 (Stp P w w') ∧ Aside0 (Below b (trunc w b) w'))
  case atStart => exact ⟨l, m, 0, rfl, rfl, H', ⟨Nat.le_refl _⟩, HO0, ⟨Stp.refl _ _⟩, hb0⟩
  case round =>
    clear H'
    try clear p2
    obtain ⟨x0, x1, x5, rfl, rfl, HA, HK1, HO, HS, HB⟩ := hrel
    cases gk with
    | zero => exact absurd HA.out (by simp [laws_markPendS.l0])
    | succ k1 =>
      have H := HA.out
      clear HA
      simp only [laws_markPendS.l0] at H
      by_cases c3 : x5 < (x0.length : Int)
      · rw [if_pos c3] at H
        have c3b0 : decide (x5 < (x0.length : Int)) = true := decide_eq_true c3
        by_cases c4 : 0 ≤ x5
        · rw [if_pos c4] at H
          have c4b0 : decide (0 ≤ x5) = true := decide_eq_true c4
          obtain ⟨⟨t1, t2⟩, hT, H⟩ := Option.bind_eq_some_iff.mp H
          have HT := Aside0.mk hT
          clear hT
          replace H : laws_markPendS.l0 k1 (x0.set x5.toNat ⟨x1, t2⟩) t1 (wrap64 (x5 + 1)) = some (m', l') := H
          have H' := Aside0.mk H
          clear H
          obtain ⟨go5, co5, eo5, gb5, gl5, cl5, HG5⟩ := Kd.S_form HO.out (by omega)
          subst eo5
          have GB5 := Aside0.mk gb5
          have hPg := Aside0.mk ((Kd.S_R HO.out).1 go5 rfl)
          obtain ⟨oki, c, hcl, hM, hcc, hfr, hoki, hH⟩ := Kd.S_elem HO.out z101 x5 c4 c3
          obtain ⟨vd, hc, hvd⟩ := k101_openM hM
          have HC := Aside0.mk hc
          have HH := Aside0.mk hH
          have HD := Aside0.mk hvd
          have HM0 := Aside0.mk hM
          clear hcl hcc hoki hM hfr hH hvd gb5 gl5 HG5
          have p5 := eq_true c4
          have q5 := eq_true c3
          subst hc
          clear HC HM0
          clear c3 c4
          go_wp2_with (first | ((with_reducible refine gate_store (t := 2) (p := 16) rfl ?_); refine Aside0.out ?_))
          refine Aside0.mk ?_
          refine Kd.H_store k101 (w0 := trunc w b) b rfl rfl 2 (.tmp 16) (.tmp 14) rfl 101 x5 0 x0 ⟨x1, (rd_T101 x0 x5).f1⟩ (.int .i64 x1) [.int .i64 x1] _ P oki oki rfl ?hoff rfl rfl (by kernel_rfl) (by simp [Value.oneCell']) HH.out (of_eq_true p5) (of_eq_true q5) (by show 0 + 1 ≤ 2; omega) (k101_mkM _ _ _ ⟨x1, (rd_T101 x0 x5).f1⟩ HD.out) (fun _ h => h) HB.out ?_
          case hoff => rfl
          intro w1 hS1 hB1 hg1
          have HS1 := Aside0.mk hS1
          have HB1 := Aside0.mk hB1
          have HT1 := Aside0.mk (HS.out.trans (Stp.grown (S := P) hg1 (fun k hk => by injection hk with hk; subst hk; exact hPg.out)))
          have hlen : (x0.set x5.toNat ⟨x1, (rd_T101 x0 x5).f1⟩).length = x0.length := List.length_set ..
          obtain ⟨okj, c, hcl, hM, hcc, hfr, hokj, hH⟩ := Kd.S_elem hS1 z101 x5 (of_eq_true p5) (of_eq_true q5)
          have hget : (x0.set x5.toNat ⟨x1, (rd_T101 x0 x5).f1⟩).getD x5.toNat z101 = ⟨x1, (rd_T101 x0 x5).f1⟩ := by
            rw [List.getD_eq_getElem?_getD, List.getElem?_set_self (by have := of_eq_true p5; have := of_eq_true q5; omega)]
            rfl
          rw [hget] at hM
          obtain ⟨vd2, hc, hvd⟩ := k101_openM hM
          subst hc
          have hcz : w1.cell? ⟨go5, x5.toNat * 2 + 1, none⟩ = some vd2 := hcc 1 vd2 rfl
          have HH1 := Aside0.mk hH
          have HD1 := Aside0.mk hvd
          have HOj := Aside0.mk (fun k hk => (hokj k hk).1)
          obtain ⟨Ad, cd, ed⟩ := Kd.R_slice hvd
          subst ed
          clear hS1 hB1 hg1 hcl hM hcc hfr hokj hH hvd HB HS HO HH HD
          go_wp2_with (first | ((with_reducible refine gate_callee (f := 33) rfl ?_); refine Aside0.out ?_))
          refine Aside0.mk ?_
          refine goesW (some 25) rfl ?hw Try.func33 (by kernel_rfl) rfl #[.slice Ad (rd_T101 x0 x5).f1.length cd, .int .i64 (wrap64 (x1 + 1))] rfl (by (try simp only [List.map_toArray, List.map_cons, List.map_nil]); first | done | rfl) ?_
          case hw => rfl
          refine (markB (Nat.le_trans HW0.out HT1.out.size) (Kd.R_tight rfl HD1.out) HT.out).mono ?_
          rintro e w2 ⟨rfl, hr2, hs2⟩
          refine ⟨_, rfl, ?_⟩
          have hb2 : Below b (trunc w b) w2 := by
            have hb := HB1.out
            refine ⟨hs2.os.trans hb.os, hs2.tape.trans hb.tape, hs2.output.trans hb.output, Nat.le_trans hb.size hs2.size, fun q hq => ?_⟩
            refine (hs2.block q (Nat.lt_of_lt_of_le (by rw [trunc_size HW0.out] ; exact hq) (hb.size)) (fun he => ?_)).trans (hb.block q hq)
            have := Kd.R_base HD1.out q he.symm
            omega
          have hH2 := Kd.H_step HH1.out (fun q hq hnq hlt => hs2.block q hlt (fun he => hnq (HD1.out.1 q he.symm)))
          have hS2 := Kd.H_back hH2 (k101_mkM w2 b _ ⟨x1, t2⟩ hr2) (fun q hq => HD1.out.1 q hq.symm)
          rw [List.set_set] at hS2
          have HS2 := Aside0.mk hS2
          have HB2 := Aside0.mk hb2
          have HT2 := Aside0.mk (HT1.out.trans (hs2.mono (S' := P) (fun q _ hq => HOj.out q (HD1.out.1 q hq.symm))))
          clear hS2 hb2 hH2 hr2 hs2
          go_wp2
          go_roundg k1
          case measure => have := HK1.out; omega
          case rel => exact ⟨x0.set x5.toNat ⟨x1, t2⟩, t1, wrap64 (x5 + 1), rfl, rfl, H', ⟨by have := HK1.out; omega⟩, HS2, HT2, HB2⟩
        · rw [if_neg c4] at H
          exact absurd H (by simp)
      · rw [if_neg c3] at H
        have c3b0 : decide (x5 < (x0.length : Int)) = false := decide_eq_false c3
        simp only [Option.some.injEq, Prod.mk.injEq] at H
        obtain ⟨rfl, rfl⟩ := H
        obtain ⟨Ao9, co9, eo9⟩ := Kd.S_slice HO.out
        subst eo9
        go_wp2
        go_ret
        exact ⟨rfl, HO.out, HS.out⟩

def laws_markDev.f (k : Nat) (l0_0 : List Int) (l0_1 : List S101) (_a0_2 : Int) (_a0_3 : Bool) (a1 : Int) : Option (Int × List Int × List S101) :=
  (laws_markByteS.f k l0_0 a1).bind fun t => (laws_markPendS.f k l0_1 t.1).bind fun u => some (u.1, t.2, u.2)
theorem laws_markDev.mono : ∀ a0 a1 a2 a3 a4 k, LeO (laws_markDev.f k a0 a1 a2 a3 a4) (laws_markDev.f (k + 1) a0 a1 a2 a3 a4) := fun a0 a1 a2 a3 a4 k =>
  LeO.bind (laws_markByteS.mono _ _ _) (fun _ => LeO.bind (laws_markPendS.mono _ _ _) (fun _ => LeO.refl _))
set_option maxHeartbeats 8000000 in
set_option maxRecDepth 100000 in
theorem mk_laws_markDev {k b : Nat} {P0 P1 : Nat → Prop} {A0 A1 : Option Addr} {n0 n1 c0 c1 : Nat} {l0 l0' : List Int} {l1 l1' : List S101} {a2 : Int} {a3 : Bool} {m m' : Int} {w : World} (hbw : b ≤ w.heap.size)
    (hR : Kd.R (Kd.int .u8) 5 w b P0 (.slice A0 n0 c0) l0) (hS : Kd.S k101 101 w b P1 (.slice A1 n1 c1) l1) (hne : ∀ q, P1 q → some q ≠ (Value.slice A0 n0 c0).ownBlock) (h : laws_markDev.f k l0 l1 a2 a3 m = some (m', l0', l1')) :
    Calls Try.prog 25 #[.agg #[.slice A0 n0 c0, .slice A1 n1 c1, .int .i64 a2, .bool a3], .int .i64 m] w fun e w' => e = .returned (.int .i64 m') ∧ Kd.R (Kd.int .u8) 5 w' b P0 (.slice A0 n0 c0) l0' ∧ Kd.S k101 101 w' b P1 (.slice A1 n1 c1) l1' ∧ Stp (fun q => P0 q ∨ P1 q) w w' := by
  obtain ⟨⟨t1, t2⟩, hT, h⟩ := Option.bind_eq_some_iff.mp h
  obtain ⟨⟨u1, u2⟩, hU, h⟩ := Option.bind_eq_some_iff.mp h
  simp only [Option.some.injEq, Prod.mk.injEq] at h
  obtain ⟨rfl, rfl, rfl⟩ := h
  have HT := Aside0.mk hT
  have HU := Aside0.mk hU
  have HR := Aside0.mk hR
  have HS := Aside0.mk hS
  have HW := Aside0.mk hbw
  have HN := Aside0.mk hne
  clear hT hU hR hS hbw hne
  go_enter Try.func25, Try.ntmps25
  go_wp2_with (first | ((with_reducible refine gate_dst (N := 2) rfl ?_); refine Aside0.out ?_))
  refine Aside0.mk ?_
  refine mk ?hw (N := 2) ?hd (cs := #[.slice A0 n0 c0, .slice A1 n1 c1, .int .i64 a2, .bool a3]) (t := 35) ?hr ?_
  case hd => rfl
  case hw => rfl
  case hr => first | (go_simp; done) | (go_simp; rfl)
  intro g hg w1 hbox hb1
  have hr1 := Kd.R_below HR.out hb1
  have hs1 := Kd.S_below HS.out hb1
  have hr1' := Kd.R_bound hr1
  have hR0 : ∀ q, (Value.slice A0 n0 c0).ownBlock = some q → P0 q ∧ q < w.heap.size := fun q hq => ⟨HR.out.1 q hq, Kd.R_lt HR.out q hq⟩
  have HBox := Aside0.mk hbox
  have HR1 := Aside0.mk hr1
  have HS1 := Aside0.mk hs1
  have HB1 := Aside0.mk hb1
  have HG := Aside0.mk hg
  have HR0 := Aside0.mk hR0
  have hc0 : w1.cell? ⟨g, 0, none⟩ = some (.slice A0 n0 c0) := (blk_cell HBox.out 0).trans rfl
  have hc1 : w1.cell? ⟨g, 1, none⟩ = some (.slice A1 n1 c1) := (blk_cell HBox.out 1).trans rfl
  clear hbox hr1 hs1 hr1' hb1 hg hR0
  go_wp2_with (first | ((with_reducible refine gate_callee (f := 33) rfl ?_); refine Aside0.out ?_))
  refine Aside0.mk ?_
  refine goesW (some 8) rfl ?hw Try.func33 (by kernel_rfl) rfl #[.slice A0 n0 c0, .int .i64 m] rfl (by (try simp only [List.map_toArray, List.map_cons, List.map_nil]); first | done | rfl) ?_
  case hw => rfl
  refine (markB (Nat.le_trans HW.out HB1.out.size) (Kd.R_tight rfl HR1.out) HT.out).mono ?_
  rintro e w2 ⟨rfl, hr2, hs2⟩
  refine ⟨_, rfl, ?_⟩
  have HBox2 := Aside0.mk ((hs2.block g (blk_lt HBox.out) (fun he => by have := (HR0.out g he.symm).2; have := HG.out; omega)).trans HBox.out)
  have HS2 := Aside0.mk (Kd.S_step HS1.out (fun q hq hlt => hs2.block q hlt (fun he => HN.out q hq he)))
  have HR2 := Aside0.mk hr2
  have HT2 := Aside0.mk ((Stp.of_below HB1.out (fun q => P0 q ∨ P1 q)).trans (hs2.mono (S' := fun q => P0 q ∨ P1 q) (fun q _ hq => .inl (HR0.out q hq.symm).1)))
  clear hc0 hc1 hr2 hs2
  have hc1 : w2.cell? ⟨g, 1, none⟩ = some (.slice A1 n1 c1) := (blk_cell HBox2.out 1).trans rfl
  go_wp2_with (first | ((with_reducible refine gate_callee (f := 61) rfl ?_); refine Aside0.out ?_))
  refine Aside0.mk ?_
  refine goesW (some 12) rfl ?hw Try.func61 (by kernel_rfl) rfl #[.slice A1 n1 c1, .int .i64 t1] rfl (by (try simp only [List.map_toArray, List.map_cons, List.map_nil]); first | done | rfl) ?_
  case hw => rfl
  refine (mk_laws_markPendS (Nat.le_trans HW.out HT2.out.size) HS2.out HU.out).mono ?_
  rintro e w3 ⟨rfl, hs3, ht3⟩
  refine ⟨_, rfl, ?_⟩
  have HS3 := Aside0.mk hs3
  have HR3 := Aside0.mk (Kd.R_mono (Kd.R_step HR2.out (fun q hq hlt => ht3.block q hlt (fun hk => HN.out q hk hq))) (fun q hq => (HR0.out q hq.symm).1))
  have HT3 := Aside0.mk (HT2.out.trans (ht3.mono (S' := fun q => P0 q ∨ P1 q) (fun q _ hq => .inr hq)))
  clear hs3 ht3
  go_wp2
  go_ret
  exact ⟨rfl, HR3.out, HS3.out, HT3.out⟩
end Go.Proofs.Ytbdbeccaopphaaa.Q
