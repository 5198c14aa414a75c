/- Part 6 of 8 of the proof that the law FnExactDevSync returns true at every input. No further condition. -/
import Derived.Test.YtbdbeccaopphaaaMFnExactDevSync5
namespace Go.Proofs.Ytbdbeccaopphaaa.Q
open Go.RowKit Go.Proofs.YtbdbeccaopphaaaW.PrintWords Go.Proofs.YtbdbeccaopphaaaW.PrintLast Go.Proofs.YtbdbeccaopphaaaW.PrintMore Go.Proofs.Ytbdbeccaopphaaa.LK
set_option linter.unusedVariables false
set_option linter.unusedSimpArgs false

def trunc (w : World) (b : Nat) : World := { w with heap := w.heap.extract 0 b }
theorem trunc_size {w : World} {b : Nat} (h : b ≤ w.heap.size) : (trunc w b).heap.size = b := by simp [trunc]; omega
theorem trunc_below {w : World} {b : Nat} (h : b ≤ w.heap.size) : Below b (trunc w b) w :=
  ⟨rfl, rfl, rfl, by rw [trunc_size h]; exact h, fun i hi => by
    simp only [trunc]
    rw [Array.getElem?_extract]
    simp only [hi, Nat.sub_zero, Nat.zero_add, Nat.lt_min, true_and]
    by_cases h2 : i < w.heap.size
    · simp [h2]
    · rw [if_neg h2, Array.getElem?_eq_none (by omega)]⟩

theorem markB {k b e_ : Nat} {P0 : Nat → Prop} {v : Value} {l l' : List Int} {m m' : Int} {w : World} (hbw : b ≤ w.heap.size) (hr : Kd.R (Kd.int .u8) e_ w b P0 v l) (h : laws_markByteS.f k l m = some (m', l')) :
    Calls Try.prog 33 #[v, .int .i64 m] w fun e w' => e = .returned (.int .i64 m') ∧ Kd.R (Kd.int .u8) e_ w' b P0 v l' ∧ Stp P0 w w' := by
  have hs := trunc_size hbw
  have hb := trunc_below hbw
  refine (laws_markByteS.callsE k P0 v l m m' l' (trunc w b) w (by rw [hs]; exact hb) (by rw [hs]; exact hr) h).mono ?_
  rintro e w' ⟨rfl, hr', hb', hk⟩
  rw [hs] at hr' hb'
  exact ⟨rfl, Kd.R_mono (Kd.R_tight rfl hr') (fun q hq => hr.1 q hq.symm), ⟨hb'.os.trans hb.os.symm, hb'.tape.trans hb.tape.symm, hb'.output.trans hb.output.symm, hk.1, hk.2⟩⟩

def laws_markPendS.l0 : Nat → List S101 → Int → Int → Option (Int × List S101)
  | 0, _, _, _ => none
  | k + 1, xs, m, i => if i < (xs.length : Int) then (if 0 ≤ i then ((laws_markByteS.f k (rd_T101 xs i).f1 (wrap64 (m + 1))).bind fun t => laws_markPendS.l0 k (xs.set i.toNat ⟨m, t.2⟩) t.1 (wrap64 (i + 1))) else none) else some (m, xs)
def laws_markPendS.f (k : Nat) (l0 : List S101) (a1 : Int) : Option (Int × List S101) := laws_markPendS.l0 k l0 a1 0
theorem laws_markPendS.mono_l : ∀ k, (∀ y0 y1 y2, LeO (laws_markPendS.l0 k y0 y1 y2) (laws_markPendS.l0 (k + 1) y0 y1 y2))
  | 0 => fun _ _ _ r h => by simp [laws_markPendS.l0] at h
  | k + 1 => by
    have ih0 := laws_markPendS.mono_l k
    intro y0 y1 y2
    unfold laws_markPendS.l0
    refine LeO.ite (LeO.ite (LeO.bind (laws_markByteS.mono _ _ _) (fun _ => ih0 _ _ _)) (LeO.none _)) (LeO.refl _)
theorem laws_markPendS.mono : ∀ a0 a1 k, LeO (laws_markPendS.f k a0 a1) (laws_markPendS.f (k + 1) a0 a1) := fun a0 a1 k => laws_markPendS.mono_l k a0 a1 0

set_option maxHeartbeats 8000000 in
set_option maxRecDepth 100000 in
theorem mk_laws_markPendS {k b : Nat} {P : Nat → Prop} {v : Value} {l l' : List S101} {m m' : Int} {w : World} (hbw : b ≤ w.heap.size) (hS : Kd.S k101 101 w b P v l) (h : laws_markPendS.f k l m = some (m', l')) :
    Calls Try.prog 61 #[v, .int .i64 m] w fun e w' => e = .returned (.int .i64 m') ∧ Kd.S k101 101 w' b P v l' ∧ Stp P w w' := by
  have H' := Aside0.mk (show laws_markPendS.l0 k l m 0 = some (m', l') from h)
  clear h
  have HO0 := Aside0.mk hS
  have HW0 := Aside0.mk hbw
  have hb0 := Aside0.mk (trunc_below hbw)
  clear hS hbw
  go_enter Try.func61, Try.ntmps61
  go_wp2
  go_loopg [1, 5] k (fun kq v1 v5 w' => ∃ (x0 : List S101) (x1 : Int) (x5 : Int), v1 = .int .i64 x1 ∧ v5 = .int .i64 x5 ∧ Aside0 (laws_markPendS.l0 kq x0 x1 x5 = some (m', l')) ∧ Aside0 (kq ≤ k) ∧ Aside0 (Kd.S k101 101 w' b P v x0) ∧ Aside0 (Stp P w w') ∧ Aside0 (Below b (trunc w b) w'))
  case atStart => exact ⟨l, m, 0, rfl, rfl, H', ⟨Nat.le_refl _⟩, HO0, ⟨Stp.refl _ _⟩, hb0⟩
  case round =>
    clear H'
    try clear p2
    obtain ⟨x0, x1, x5, rfl, rfl, HA, HK1, HO, HS, HB⟩ := hrel
    cases gk with
    | zero => exact absurd HA.out (by simp [laws_markPendS.l0])
    | succ k1 =>
      have H := HA.out
      clear HA
      simp only [laws_markPendS.l0] at H
      by_cases c3 : x5 < (x0.length : Int)
      · rw [if_pos c3] at H
        have c3b0 : decide (x5 < (x0.length : Int)) = true := decide_eq_true c3
        by_cases c4 : 0 ≤ x5
        · rw [if_pos c4] at H
          have c4b0 : decide (0 ≤ x5) = true := decide_eq_true c4
          obtain ⟨⟨t1, t2⟩, hT, H⟩ := Option.bind_eq_some_iff.mp H
          have HT := Aside0.mk hT
          clear hT
          replace H : laws_markPendS.l0 k1 (x0.set x5.toNat ⟨x1, t2⟩) t1 (wrap64 (x5 + 1)) = some (m', l') := H
          have H' := Aside0.mk H
          clear H
          obtain ⟨go5, co5, eo5, gb5, gl5, cl5, HG5⟩ := Kd.S_form HO.out (by omega)
          subst eo5
          have GB5 := Aside0.mk gb5
          have hPg := Aside0.mk ((Kd.S_R HO.out).1 go5 rfl)
          obtain ⟨oki, c, hcl, hM, hcc, hfr, hoki, hH⟩ := Kd.S_elem HO.out z101 x5 c4 c3
          obtain ⟨vd, hc, hvd⟩ := k101_openM hM
          have HC := Aside0.mk hc
          have HH := Aside0.mk hH
          have HD := Aside0.mk hvd
          have HM0 := Aside0.mk hM
          clear hcl hcc hoki hM hfr hH hvd gb5 gl5 HG5
          have p5 := eq_true c4
          have q5 := eq_true c3
          subst hc
          clear HC HM0
          clear c3 c4
          go_wp2_with (first | ((with_reducible refine gate_store (t := 2) (p := 16) rfl ?_); refine Aside0.out ?_))
          refine Aside0.mk ?_
          refine Kd.H_store k101 (w0 := trunc w b) b rfl rfl 2 (.tmp 16) (.tmp 14) rfl 101 x5 0 x0 ⟨x1, (rd_T101 x0 x5).f1⟩ (.int .i64 x1) [.int .i64 x1] _ P oki oki rfl ?hoff rfl rfl (by kernel_rfl) (by simp [Value.oneCell']) HH.out (of_eq_true p5) (of_eq_true q5) (by show 0 + 1 ≤ 2; omega) (k101_mkM _ _ _ ⟨x1, (rd_T101 x0 x5).f1⟩ HD.out) (fun _ h => h) HB.out ?_
          case hoff => rfl
          intro w1 hS1 hB1 hg1
          have HS1 := Aside0.mk hS1
          have HB1 := Aside0.mk hB1
          have HT1 := Aside0.mk (HS.out.trans (Stp.grown (S := P) hg1 (fun k hk => by injection hk with hk; subst hk; exact hPg.out)))
          have hlen : (x0.set x5.toNat ⟨x1, (rd_T101 x0 x5).f1⟩).length = x0.length := List.length_set ..
          obtain ⟨okj, c, hcl, hM, hcc, hfr, hokj, hH⟩ := Kd.S_elem hS1 z101 x5 (of_eq_true p5) (of_eq_true q5)
          have hget : (x0.set x5.toNat ⟨x1, (rd_T101 x0 x5).f1⟩).getD x5.toNat z101 = ⟨x1, (rd_T101 x0 x5).f1⟩ := by
            rw [List.getD_eq_getElem?_getD, List.getElem?_set_self (by have := of_eq_true p5; have := of_eq_true q5; omega)]
            rfl
          rw [hget] at hM
          obtain ⟨vd2, hc, hvd⟩ := k101_openM hM
          subst hc
          have hcz : w1.cell? ⟨go5, x5.toNat * 2 + 1, none⟩ = some vd2 := hcc 1 vd2 rfl
          have HH1 := Aside0.mk hH
          have HD1 := Aside0.mk hvd
          have HOj := Aside0.mk (fun k hk => (hokj k hk).1)
          obtain ⟨Ad, cd, ed⟩ := Kd.R_slice hvd
          subst ed
          clear hS1 hB1 hg1 hcl hM hcc hfr hokj hH hvd HB HS HO HH HD
          go_wp2_with (first | ((with_reducible refine gate_callee (f := 33) rfl ?_); refine Aside0.out ?_))
          refine Aside0.mk ?_
          refine goesW (some 25) rfl ?hw Try.func33 (by kernel_rfl) rfl #[.slice Ad (rd_T101 x0 x5).f1.length cd, .int .i64 (wrap64 (x1 + 1))] rfl (by (try simp only [List.map_toArray, List.map_cons, List.map_nil]); first | done | rfl) ?_
          case hw => rfl
          refine (markB (Nat.le_trans HW0.out HT1.out.size) (Kd.R_tight rfl HD1.out) HT.out).mono ?_
          rintro e w2 ⟨rfl, hr2, hs2⟩
          refine ⟨_, rfl, ?_⟩
          have hb2 : Below b (trunc w b) w2 := by
            have hb := HB1.out
            refine ⟨hs2.os.trans hb.os, hs2.tape.trans hb.tape, hs2.output.trans hb.output, Nat.le_trans hb.size hs2.size, fun q hq => ?_⟩
            refine (hs2.block q (Nat.lt_of_lt_of_le (by rw [trunc_size HW0.out] ; exact hq) (hb.size)) (fun he => ?_)).trans (hb.block q hq)
            have := Kd.R_base HD1.out q he.symm
            omega
          have hH2 := Kd.H_step HH1.out (fun q hq hnq hlt => hs2.block q hlt (fun he => hnq (HD1.out.1 q he.symm)))
          have hS2 := Kd.H_back hH2 (k101_mkM w2 b _ ⟨x1, t2⟩ hr2) (fun q hq => HD1.out.1 q hq.symm)
          rw [List.set_set] at hS2
          have HS2 := Aside0.mk hS2
          have HB2 := Aside0.mk hb2
          have HT2 := Aside0.mk (HT1.out.trans (hs2.mono (S' := P) (fun q _ hq => HOj.out q (HD1.out.1 q hq.symm))))
          clear hS2 hb2 hH2 hr2 hs2
          go_wp2
          go_roundg k1
          case measure => have := HK1.out; omega
          case rel => exact ⟨x0.set x5.toNat ⟨x1, t2⟩, t1, wrap64 (x5 + 1), rfl, rfl, H', ⟨by have := HK1.out; omega⟩, HS2, HT2, HB2⟩
        · rw [if_neg c4] at H
          exact absurd H (by simp)
      · rw [if_neg c3] at H
        have c3b0 : decide (x5 < (x0.length : Int)) = false := decide_eq_false c3
        simp only [Option.some.injEq, Prod.mk.injEq] at H
        obtain ⟨rfl, rfl⟩ := H
        obtain ⟨Ao9, co9, eo9⟩ := Kd.S_slice HO.out
        subst eo9
        go_wp2
        go_ret
        exact ⟨rfl, HO.out, HS.out⟩

def laws_markDev.f (k : Nat) (l0_0 : List Int) (l0_1 : List S101) (_a0_2 : Int) (_a0_3 : Bool) (a1 : Int) : Option (Int × List Int × List S101) :=
  (laws_markByteS.f k l0_0 a1).bind fun t => (laws_markPendS.f k l0_1 t.1).bind fun u => some (u.1, t.2, u.2)
theorem laws_markDev.mono : ∀ a0 a1 a2 a3 a4 k, LeO (laws_markDev.f k a0 a1 a2 a3 a4) (laws_markDev.f (k + 1) a0 a1 a2 a3 a4) := fun a0 a1 a2 a3 a4 k =>
  LeO.bind (laws_markByteS.mono _ _ _) (fun _ => LeO.bind (laws_markPendS.mono _ _ _) (fun _ => LeO.refl _))
set_option maxHeartbeats 8000000 in
set_option maxRecDepth 100000 in
theorem mk_laws_markDev {k b : Nat} {P0 P1 : Nat → Prop} {A0 A1 : Option Addr} {n0 n1 c0 c1 : Nat} {l0 l0' : List Int} {l1 l1' : List S101} {a2 : Int} {a3 : Bool} {m m' : Int} {w : World} (hbw : b ≤ w.heap.size)
    (hR : Kd.R (Kd.int .u8) 5 w b P0 (.slice A0 n0 c0) l0) (hS : Kd.S k101 101 w b P1 (.slice A1 n1 c1) l1) (hne : ∀ q, P1 q → some q ≠ (Value.slice A0 n0 c0).ownBlock) (h : laws_markDev.f k l0 l1 a2 a3 m = some (m', l0', l1')) :
    Calls Try.prog 25 #[.agg #[.slice A0 n0 c0, .slice A1 n1 c1, .int .i64 a2, .bool a3], .int .i64 m] w fun e w' => e = .returned (.int .i64 m') ∧ Kd.R (Kd.int .u8) 5 w' b P0 (.slice A0 n0 c0) l0' ∧ Kd.S k101 101 w' b P1 (.slice A1 n1 c1) l1' ∧ Stp (fun q => P0 q ∨ P1 q) w w' := by
  obtain ⟨⟨t1, t2⟩, hT, h⟩ := Option.bind_eq_some_iff.mp h
  obtain ⟨⟨u1, u2⟩, hU, h⟩ := Option.bind_eq_some_iff.mp h
  simp only [Option.some.injEq, Prod.mk.injEq] at h
  obtain ⟨rfl, rfl, rfl⟩ := h
  have HT := Aside0.mk hT
  have HU := Aside0.mk hU
  have HR := Aside0.mk hR
  have HS := Aside0.mk hS
  have HW := Aside0.mk hbw
  have HN := Aside0.mk hne
  clear hT hU hR hS hbw hne
  go_enter Try.func25, Try.ntmps25
  go_wp2_with (first | ((with_reducible refine gate_dst (N := 2) rfl ?_); refine Aside0.out ?_))
  refine Aside0.mk ?_
  refine mk ?hw (N := 2) ?hd (cs := #[.slice A0 n0 c0, .slice A1 n1 c1, .int .i64 a2, .bool a3]) (t := 35) ?hr ?_
  case hd => rfl
  case hw => rfl
  case hr => first | (go_simp; done) | (go_simp; rfl)
  intro g hg w1 hbox hb1
  have hr1 := Kd.R_below HR.out hb1
  have hs1 := Kd.S_below HS.out hb1
  have hr1' := Kd.R_bound hr1
  have hR0 : ∀ q, (Value.slice A0 n0 c0).ownBlock = some q → P0 q ∧ q < w.heap.size := fun q hq => ⟨HR.out.1 q hq, Kd.R_lt HR.out q hq⟩
  have HBox := Aside0.mk hbox
  have HR1 := Aside0.mk hr1
  have HS1 := Aside0.mk hs1
  have HB1 := Aside0.mk hb1
  have HG := Aside0.mk hg
  have HR0 := Aside0.mk hR0
  have hc0 : w1.cell? ⟨g, 0, none⟩ = some (.slice A0 n0 c0) := (blk_cell HBox.out 0).trans rfl
  have hc1 : w1.cell? ⟨g, 1, none⟩ = some (.slice A1 n1 c1) := (blk_cell HBox.out 1).trans rfl
  clear hbox hr1 hs1 hr1' hb1 hg hR0
  go_wp2_with (first | ((with_reducible refine gate_callee (f := 33) rfl ?_); refine Aside0.out ?_))
  refine Aside0.mk ?_
  refine goesW (some 8) rfl ?hw Try.func33 (by kernel_rfl) rfl #[.slice A0 n0 c0, .int .i64 m] rfl (by (try simp only [List.map_toArray, List.map_cons, List.map_nil]); first | done | rfl) ?_
  case hw => rfl
  refine (markB (Nat.le_trans HW.out HB1.out.size) (Kd.R_tight rfl HR1.out) HT.out).mono ?_
  rintro e w2 ⟨rfl, hr2, hs2⟩
  refine ⟨_, rfl, ?_⟩
  have HBox2 := Aside0.mk ((hs2.block g (blk_lt HBox.out) (fun he => by have := (HR0.out g he.symm).2; have := HG.out; omega)).trans HBox.out)
  have HS2 := Aside0.mk (Kd.S_step HS1.out (fun q hq hlt => hs2.block q hlt (fun he => HN.out q hq he)))
  have HR2 := Aside0.mk hr2
  have HT2 := Aside0.mk ((Stp.of_below HB1.out (fun q => P0 q ∨ P1 q)).trans (hs2.mono (S' := fun q => P0 q ∨ P1 q) (fun q _ hq => .inl (HR0.out q hq.symm).1)))
  clear hc0 hc1 hr2 hs2
  have hc1 : w2.cell? ⟨g, 1, none⟩ = some (.slice A1 n1 c1) := (blk_cell HBox2.out 1).trans rfl
  go_wp2_with (first | ((with_reducible refine gate_callee (f := 61) rfl ?_); refine Aside0.out ?_))
  refine Aside0.mk ?_
  refine goesW (some 12) rfl ?hw Try.func61 (by kernel_rfl) rfl #[.slice A1 n1 c1, .int .i64 t1] rfl (by (try simp only [List.map_toArray, List.map_cons, List.map_nil]); first | done | rfl) ?_
  case hw => rfl
  refine (mk_laws_markPendS (Nat.le_trans HW.out HT2.out.size) HS2.out HU.out).mono ?_
  rintro e w3 ⟨rfl, hs3, ht3⟩
  refine ⟨_, rfl, ?_⟩
  have HS3 := Aside0.mk hs3
  have HR3 := Aside0.mk (Kd.R_mono (Kd.R_step HR2.out (fun q hq hlt => ht3.block q hlt (fun hk => HN.out q hk hq))) (fun q hq => (HR0.out q hq.symm).1))
  have HT3 := Aside0.mk (HT2.out.trans (ht3.mono (S' := fun q => P0 q ∨ P1 q) (fun q _ hq => .inr hq)))
  clear hs3 ht3
  go_wp2
  go_ret
  exact ⟨rfl, HR3.out, HS3.out, HT3.out⟩
end Go.Proofs.Ytbdbeccaopphaaa.Q
namespace Go.Proofs.Ytbdbeccaopphaaa.P
open Go.RowKit Go.Proofs.YtbdbeccaopphaaaW.PrintWords Go.Proofs.Ytbdbeccaopphaaa.Q
set_option linter.unusedVariables false
set_option linter.unusedSimpArgs false

def cvPend (p : S139) : S101 := ⟨p.f0, p.f1⟩
theorem rdP_at {xs : List S101} {i : Nat} {a : S101} (h : xs[i]? = some a) : rd_T101 xs (i : Int) = a := getD_at h
theorem rdL_at {xs : List S139} {i : Nat} {a : S139} (h : xs[i]? = some a) : rd_T139 xs (i : Int) = a := getD_at h
theorem toPendS_ev (l : List S139) (h : l.length ≤ 1048576) (hp : ∀ p ∈ l, p.f1.length ≤ 1048576) : Ev (fun k => laws_toPendS.f k l) (l.map cvPend) := by
  have h1 := copy_ends (fun k y i => laws_toPendS.l0 k l y i) cvPend l (List.replicate ((l.length : Int)).toNat z101) (by simp) ?_ ?_
  · refine Ev.congr (fun k => ?_) h1
    simp only [laws_toPendS.f]
    rw [if_pos (by omega), if_pos (by omega)]
  · intro i a y ha hi hy
    obtain ⟨K, hK⟩ := toByteS_ev a.f1 (by have := hp a (List.mem_of_getElem? ha); omega)
    refine ⟨K, fun k hk => ?_⟩
    simp only [laws_toPendS.l0, laws_toPend.f]
    rw [if_pos (by omega), if_pos (by omega), rdL_at ha]
    simp only [hK k hk, Option.bind_some]
    rw [if_pos (by omega), w64s hi (by omega)]
    rfl
  · intro k y hy
    simp only [laws_toPendS.l0]
    rw [if_neg (by omega)]
theorem eqPendS_ev (l : List S101) (h : l.length ≤ 4611686018427387904) (hp : ∀ p ∈ l, p.f1.length ≤ 4611686018427387904) : Ev (fun k => laws_eqPendS.f k l l) true := by
  refine Ev.congr (fun k => ?_) (each_ends (fun k i => laws_eqPendS.l0 k l l i) l.length true ?_ ?_)
  · simp only [laws_eqPendS.f]
    rw [if_pos trivial]
  · intro i hi
    obtain ⟨a, ha⟩ := some_at hi
    obtain ⟨K, hK⟩ := eqByteS_ev a.f1 (hp a (List.mem_of_getElem? ha))
    refine ⟨K, fun k hk => ?_⟩
    simp only [laws_eqPendS.l0, laws_eqPend.f]
    rw [if_pos (by omega), if_pos (by omega), if_pos (by omega), rdP_at ha, if_pos trivial]
    simp only [hK k hk, Option.bind_some, if_true]
    rw [w64s hi (by omega)]
  · intro k
    simp only [laws_eqPendS.l0]
    rw [if_neg (by omega)]
/-- What szPendS leaves is what was there less what the rows hold. -/
theorem szPendS_ev (l : List S139) (a : Int) (h0 : 0 ≤ a) (h1 : a ≤ 1048576) (hl : l.length ≤ 9223372036854775807) (hp : ∀ p ∈ l, p.f1.length ≤ 9223372036854775807) :
    ∃ t, Ev (fun k => laws_szPendS.f k l a) t ∧ (t < 0 ∨ (0 ≤ t ∧ t ≤ a ∧ (l.length : Int) ≤ a ∧ ∀ p ∈ l, (p.f1.length : Int) ≤ a)) := by
  have key : ∀ (n i : Nat), i + n = l.length → ∀ b : Int, 0 ≤ b → b ≤ 1048576 → l.length ≤ 1048576 → ∃ t, Ev (fun k => laws_szPendS.l0 k l b (i : Int)) t ∧ (t < 0 ∨ (0 ≤ t ∧ t ≤ b ∧ ∀ j p, i ≤ j → l[j]? = some p → (p.f1.length : Int) ≤ b)) := by
    intro n
    induction n with
    | zero =>
      intro i hi b hb hb1 hll
      refine ⟨b, Ev.last ⟨0, fun k _ => ?_⟩, .inr ⟨hb, Int.le_refl _, fun j p hj hp => ?_⟩⟩
      · simp only [laws_szPendS.l0]
        rw [if_neg (by omega)]
      · have := (List.getElem?_eq_some_iff.1 hp).1
        omega
    | succ n ih =>
      intro i hi b hb hb1 hll
      obtain ⟨p, hpi⟩ := some_at (show i < l.length by omega)
      obtain ⟨t, ht, hc⟩ := szByteS_is p.f1 b hb hb1 (hp p (List.mem_of_getElem? hpi))
      rcases hc with hc | ⟨hc, hc0⟩
      · refine ⟨-1, Ev.last ⟨0, fun k _ => ?_⟩, .inl (by omega)⟩
        simp only [laws_szPendS.l0, laws_szPend.f]
        rw [if_pos (by omega), if_pos (by omega), rdL_at hpi, ht]
        simp only [Option.bind_some]
        rw [if_pos hc]
        simp
      · obtain ⟨t2, h2, h3⟩ := ih (i + 1) (by omega) t (by omega) (by omega) hll
        refine ⟨t2, Ev.step ⟨0, fun k _ => ?_⟩ h2, ?_⟩
        · simp only [laws_szPendS.l0, laws_szPend.f]
          rw [if_pos (by omega), if_pos (by omega), rdL_at hpi, ht]
          simp only [Option.bind_some]
          rw [if_neg (by omega)]
          simp only [Option.bind_some]
          rw [if_neg (by omega), w64s (by omega : i < l.length) (by omega)]
        · rcases h3 with h3 | ⟨h3, h4, h5⟩
          · exact .inl h3
          · refine .inr ⟨h3, by omega, fun j q hj hq => ?_⟩
            by_cases e : j = i
            · subst e
              rw [hpi] at hq
              cases hq
              omega
            · have := h5 j q (by omega) hq
              omega
  by_cases h : a - (l.length : Int) < 0
  · refine ⟨-1, Ev.congr (fun k => ?_) (Ev.const rfl), .inl (by omega)⟩
    simp only [laws_szPendS.f]
    rw [w64 (by omega) (by omega), if_pos h]
  · obtain ⟨t, ht, hc⟩ := key l.length 0 (by omega) (a - l.length) (by omega) (by omega) (by omega)
    refine ⟨t, Ev.congr (fun k => ?_) ht, ?_⟩
    · simp only [laws_szPendS.f]
      rw [w64 (by omega) (by omega), if_neg h]
      rfl
    · rcases hc with hc | ⟨h3, h4, h5⟩
      · exact .inl hc
      · refine .inr ⟨h3, by omega, by omega, fun p hpm => ?_⟩
        obtain ⟨j, hj⟩ := List.getElem?_of_mem hpm
        have := h5 j p (by omega) hj
        omega
/-- What is counted and written over rows of pends. -/
def costP : List S101 → Nat
  | [] => 0
  | p :: ps => 1 + p.f1.length + costP ps
def mkPendS : Int → List S101 → List S101
  | _, [] => []
  | m, p :: ps => ⟨m, mkByteS (m + 1) p.f1.length⟩ :: mkPendS (m + 1 + p.f1.length) ps
theorem markPendS_ev (l : List S101) (m : Int) (h0 : 0 ≤ m) (hl : l.length ≤ 4611686018427387904) (hm : m + costP l ≤ 4611686018427387904) : Ev (fun k => laws_markPendS.f k l m) (m + costP l, mkPendS m l) := by
  have key : ∀ (rest done : List S101) (c : Int), (done ++ rest).length ≤ 4611686018427387904 → 0 ≤ c → c + costP rest ≤ 4611686018427387904 → Ev (fun k => laws_markPendS.l0 k (done ++ rest) c (done.length : Int)) (c + costP rest, done ++ mkPendS c rest) := by
    intro rest
    induction rest with
    | nil =>
      intro done c hl hc0 hc
      refine Ev.last ⟨0, fun k _ => ?_⟩
      simp only [laws_markPendS.l0]
      rw [if_neg (by simp)]
      simp [costP, mkPendS]
    | cons p ps ih =>
      intro done c hl hc0 hc
      simp only [costP] at hc
      simp only [List.length_append, List.length_cons] at hl
      obtain ⟨K, hK⟩ := markByteS_ev p.f1 (c + 1) (by omega) (by omega)
      have h2 := ih (done ++ [⟨c, mkByteS (c + 1) p.f1.length⟩]) (c + 1 + p.f1.length) (by rw [List.length_append, List.length_append, List.length_singleton]; omega) (by omega) (by omega)
      have e : ∀ q : S101, done ++ [q] ++ ps = done ++ q :: ps := fun q => by simp
      have hat : (done ++ p :: ps)[done.length]? = some p := by simp
      have e1 : c + ((1 + p.f1.length + costP ps : Nat) : Int) = c + 1 + (p.f1.length : Int) + (costP ps : Int) := by omega
      simp only [costP, mkPendS]
      rw [e1]
      rw [e, List.append_assoc, List.length_append] at h2
      refine Ev.step (g := fun k => laws_markPendS.l0 k (done ++ ⟨c, mkByteS (c + 1) p.f1.length⟩ :: ps) (c + 1 + p.f1.length) ((done.length + 1 : Nat) : Int)) ⟨K, fun k hk => ?_⟩ h2
      have hset : (done ++ p :: ps).set ((done.length : Int)).toNat ⟨c, mkByteS (c + 1) p.f1.length⟩ = done ++ ⟨c, mkByteS (c + 1) p.f1.length⟩ :: ps := by simp
      simp only [laws_markPendS.l0]
      rw [if_pos (by rw [List.length_append, List.length_cons]; omega), if_pos (by omega), rdP_at hat, w64 (n := c + 1) (by omega) (by omega), w64s (i := done.length) (n := done.length + 1) (Nat.lt_succ_self _) (by omega)]
      simp only [hK k hk, Option.bind_some, hset]
  have := key l [] m (by simpa using hl) h0 hm
  simpa [laws_markPendS.f] using this
theorem mkPendS_length : ∀ (l : List S101) (m : Int), (mkPendS m l).length = l.length
  | [], _ => rfl
  | p :: ps, m => by simp [mkPendS, mkPendS_length ps]
theorem heldPendS_ev (l : List S101) (m : Int) (h0 : 0 ≤ m) (hl : l.length ≤ 4611686018427387904) (hm : m + costP l ≤ 4611686018427387904) : Ev (fun k => laws_heldPendS.f k (mkPendS m l) m) (m + costP l) := by
  have key : ∀ (rest done : List S101) (c : Int), (done ++ rest).length ≤ 4611686018427387904 → 0 ≤ c → c + costP rest ≤ 4611686018427387904 → Ev (fun k => laws_heldPendS.l0 k (done ++ mkPendS c rest) c (done.length : Int)) (c + costP rest) := by
    intro rest
    induction rest with
    | nil =>
      intro done c hl hc0 hc
      refine Ev.last ⟨0, fun k _ => ?_⟩
      simp only [laws_heldPendS.l0, mkPendS, List.append_nil]
      rw [if_neg (by omega)]
      simp [costP]
    | cons p ps ih =>
      intro done c hl hc0 hc
      simp only [costP] at hc
      simp only [List.length_append, List.length_cons] at hl
      obtain ⟨K, hK⟩ := heldByteS_ev p.f1.length (c + 1) (by omega) (by omega)
      have h2 := ih (done ++ [⟨c, mkByteS (c + 1) p.f1.length⟩]) (c + 1 + p.f1.length) (by rw [List.length_append, List.length_append, List.length_singleton]; omega) (by omega) (by omega)
      have hat : (done ++ (⟨c, mkByteS (c + 1) p.f1.length⟩ : S101) :: mkPendS (c + 1 + p.f1.length) ps)[done.length]? = some ⟨c, mkByteS (c + 1) p.f1.length⟩ := by simp
      have e1 : c + ((1 + p.f1.length + costP ps : Nat) : Int) = c + 1 + (p.f1.length : Int) + (costP ps : Int) := by omega
      simp only [costP, mkPendS]
      rw [e1]
      rw [List.append_assoc, List.length_append] at h2
      refine Ev.step (g := fun k => laws_heldPendS.l0 k (done ++ ⟨c, mkByteS (c + 1) p.f1.length⟩ :: mkPendS (c + 1 + p.f1.length) ps) (c + 1 + p.f1.length) ((done.length + 1 : Nat) : Int)) ⟨K, fun k hk => ?_⟩ h2
      simp only [laws_heldPendS.l0]
      rw [if_pos (by rw [List.length_append, List.length_cons]; omega), if_pos (by omega), rdP_at hat, if_pos rfl, w64 (n := c + 1) (by omega) (by omega), w64s (i := done.length) (n := done.length + 1) (Nat.lt_succ_self _) (by omega)]
      simp only [hK k hk, Option.bind_some]
      rw [if_neg (by omega)]
  have := key l [] m (by simpa using hl) h0 hm
  simpa [laws_heldPendS.f] using this
/-! ### devices -/
theorem toDev_ev (l0 : List Int) (l1 : List S139) (a2 : Int) (a3 : Bool) (h0 : l0.length ≤ 1048576) (h : l1.length ≤ 1048576) (hp : ∀ p ∈ l1, p.f1.length ≤ 1048576) : Ev (fun k => laws_toDev.f k l0 l1 a2 a3) (l0, l1.map cvPend, a2, a3) := by
  simp only [laws_toDev.f]
  exact Ev.bind (toByteS_ev l0 (by omega)) (Ev.bind (toPendS_ev l1 h hp) (Ev.const rfl))
theorem eqDev_ev (l0 : List Int) (l1 : List S101) (a2 : Int) (a3 : Bool) (h0 : l0.length ≤ 4611686018427387904) (h : l1.length ≤ 4611686018427387904) (hp : ∀ p ∈ l1, p.f1.length ≤ 4611686018427387904) : Ev (fun k => laws_eqDev.f k l0 l1 a2 a3 l0 l1 a2 a3) true := by
  simp only [laws_eqDev.f]
  refine Ev.bind (eqByteS_ev l0 h0) (Ev.pos rfl (Ev.bind (eqPendS_ev l1 h hp) (Ev.pos rfl ?_)))
  exact Ev.const (by simp)
theorem szDev_ev (l0 : List Int) (l1 : List S139) (a2 : Int) (a3 : Bool) (a : Int) (h0 : 0 ≤ a) (h1 : a ≤ 1048576) (hl0 : l0.length ≤ 9223372036854775807) (hl : l1.length ≤ 9223372036854775807) (hp : ∀ p ∈ l1, p.f1.length ≤ 9223372036854775807) :
    ∃ t, Ev (fun k => laws_szDev.f k l0 l1 a2 a3 a) t ∧ (t < 0 ∨ (0 ≤ t ∧ t ≤ a ∧ (l0.length : Int) ≤ a ∧ (l1.length : Int) ≤ a ∧ ∀ p ∈ l1, (p.f1.length : Int) ≤ a)) := by
  obtain ⟨t, ht, hc⟩ := szByteS_is l0 a h0 h1 hl0
  simp only [laws_szDev.f, ht, Option.bind_some]
  rcases hc with hc | ⟨hc, hc0⟩
  · exact ⟨-1, Ev.pos hc (Ev.const rfl), .inl (by omega)⟩
  · obtain ⟨t2, h2, h3⟩ := szPendS_ev l1 t hc0 (by omega) hl hp
    rcases h3 with h3 | ⟨h3, h4, h5, h6⟩
    · exact ⟨-1, Ev.neg (by omega) (Ev.bind h2 (Ev.pos h3 (Ev.const rfl))), .inl (by omega)⟩
    · exact ⟨t2, Ev.neg (by omega) (Ev.bind h2 (Ev.neg (by omega) (Ev.const rfl))), .inr ⟨h3, by omega, by omega, by omega, fun p hpm => by have := h6 p hpm; omega⟩⟩
theorem markDev_ev (l0 : List Int) (l1 : List S101) (a2 : Int) (a3 : Bool) (m : Int) (h0 : 0 ≤ m) (hl : l1.length ≤ 4611686018427387904) (hm : m + l0.length + costP l1 ≤ 4611686018427387904) :
    Ev (fun k => laws_markDev.f k l0 l1 a2 a3 m) (m + l0.length + costP l1, mkByteS m l0.length, mkPendS (m + l0.length) l1) := by
  simp only [laws_markDev.f]
  exact Ev.bind (markByteS_ev l0 m h0 (by omega)) (Ev.bind (markPendS_ev l1 (m + l0.length) (by omega) hl hm) (Ev.const rfl))
theorem heldDev_ev (l0 : List Int) (l1 : List S101) (a2 : Int) (a3 : Bool) (m : Int) (h0 : 0 ≤ m) (hl : l1.length ≤ 4611686018427387904) (hm : m + l0.length + costP l1 ≤ 4611686018427387904) :
    Ev (fun k => laws_heldDev.f k (mkByteS m l0.length) (mkPendS (m + l0.length) l1) a2 a3 m) (m + l0.length + costP l1) := by
  simp only [laws_heldDev.f]
  exact Ev.bind (heldByteS_ev l0.length m h0 (by omega)) (Ev.neg (by omega) (Ev.bind (heldPendS_ev l1 (m + l0.length) (by omega) hl hm) (Ev.neg (by omega) (Ev.const rfl))))
end Go.Proofs.Ytbdbeccaopphaaa.P
namespace Go.Proofs.Ytbdbeccaopphaaa.Q
open Go.RowKit Go.Proofs.YtbdbeccaopphaaaW.PrintWords Go.Proofs.YtbdbeccaopphaaaW.PrintLast Go.Proofs.Ytbdbeccaopphaaa.LK Go.Proofs.YtbdbeccaopphaaaW.PrintMore
attribute [local go_sem] max2_int min2_int max_two min_two max_three min_three max_four min_four   -- for this text's walks alone
set_option linter.unusedVariables false
set_option linter.unusedSimpArgs false

/-! ### impl_Dev_sectors: function 67 -/
def impl_Dev_sectors.f (l0_0 : List Int) (l0_1 : List (S101)) (a0_2 : Int) (a0_3 : Bool) : Option (Int) := some (wrap64 ((l0_0.length : Int) / 64))
set_option maxHeartbeats 8000000 in
set_option maxRecDepth 100000 in
theorem impl_Dev_sectors.calls (A0_0 : Option Addr) (c0_0 : Nat) (l0_0 : List Int) (A0_1 : Option Addr) (c0_1 : Nat) (l0_1 : List (S101)) (a0_2 : Int) (a0_3 : Bool) (r : Int) (w : World) (hr0_0 : Kd.C (Kd.int .u8) w A0_0 l0_0.length l0_0) (hc0_0 : l0_0.length ≤ c0_0) (hr0_1 : Kd.C k101 w A0_1 l0_1.length l0_1) (hc0_1 : l0_1.length ≤ c0_1) (h : impl_Dev_sectors.f l0_0 l0_1 a0_2 a0_3 = some r) :
    Calls Try.prog 67 #[.agg #[.slice A0_0 l0_0.length c0_0, .slice A0_1 l0_1.length c0_1, .int .i64 a0_2, .bool a0_3]] w fun e w' => e = .returned (.int .i64 r) ∧ Below w.heap.size w w' := by
  have hu35 := Try.underlying35
  have HR0_0 := Aside0.mk hr0_0
  have HC0_0 := Aside0.mk hc0_0
  clear hr0_0 hc0_0
  have HR0_1 := Aside0.mk hr0_1
  have HC0_1 := Aside0.mk hc0_1
  clear hr0_1 hc0_1
  have HB := Aside0.mk (Below.refl w.heap.size w)
  have H : (some (wrap64 ((l0_0.length : Int) / 64))) = some r := h
  clear h
  obtain rfl := Option.some.inj H
  go_enter Try.func67, Try.ntmps67
  go_wp2_with (first | ((with_reducible refine gate_dst (N := 1) rfl ?_); refine box_event ?hg (N := 1) ?hd (cs := #[.slice A0_0 l0_0.length c0_0, .slice A0_1 l0_1.length c0_1, .int .i64 a0_2, .bool a0_3]) (t := 35) ?hr ?_; (case hd => rfl); (case hg => rfl); (case hr => first | (go_simp; done) | (go_simp; rfl)); intro gb101 hg w2 hbox hb; have n0_ := Aside0.mk (below_step (by repeat (first | (with_reducible first | exact HB.out | apply below_alloc | apply pw_below_drewN | apply below_drew1) | exact HB.out)) hb); have n1_ := Aside0.mk (hbox); have n2_ := Aside0.mk ((by rw [hg]; exact (below_size (by repeat (first | (with_reducible first | exact HB.out | apply below_alloc | apply pw_below_drewN | apply below_drew1) | exact HB.out))) : w.heap.size ≤ gb101)); have n3_ := Aside0.mk ((by rw [hg]; exact (below_size (by repeat (first | (with_reducible first | exact HB.out | apply below_alloc | apply pw_below_drewN | apply below_drew1) | exact HB.out))) : w.heap.size ≤ gb101)); clear HB; have HB := n0_; have BK101 := n1_; have GW101 := n2_; have GE101 := n3_; clear n0_ n1_ n2_ n3_; clear hb hbox hg; have hcz3_0 : w2.cell? ⟨gb101, 0, none⟩ = some (.slice A0_0 l0_0.length c0_0) := (blk_cell BK101.out 0).trans rfl; have hcz3_1 : w2.cell? ⟨gb101, 1, none⟩ = some (.slice A0_1 l0_1.length c0_1) := (blk_cell BK101.out 1).trans rfl; have hcz3_2 : w2.cell? ⟨gb101, 2, none⟩ = some (.int .i64 a0_2) := (blk_cell BK101.out 2).trans rfl; have hcz3_3 : w2.cell? ⟨gb101, 3, none⟩ = some (.bool a0_3) := (blk_cell BK101.out 3).trans rfl; have hfz3_0 := blk_frozen BK101.out 0; have hfz3_1 := blk_frozen BK101.out 1; have hfz3_2 := blk_frozen BK101.out 2; have hfz3_3 := blk_frozen BK101.out 3))
  go_ret
  exact ⟨by first | rfl | (simp [errW_none, errW_some] <;> rfl) | (simp [*, errW_none, errW_some] <;> rfl), by repeat (first | (with_reducible first | exact HB.out | apply below_alloc | apply pw_below_drewN | apply below_drew1 | refine below_set ?_ GE101.out) | exact HB.out)⟩

end Go.Proofs.Ytbdbeccaopphaaa.Q
namespace Go.Proofs.Ytbdbeccaopphaaa.Q
open Go.RowKit Go.Proofs.YtbdbeccaopphaaaW.PrintWords Go.Proofs.YtbdbeccaopphaaaW.PrintLast Go.Proofs.Ytbdbeccaopphaaa.LK Go.Proofs.YtbdbeccaopphaaaW.PrintMore
attribute [local go_sem] max2_int min2_int max_two min_two max_three min_three max_four min_four   -- for this text's walks alone
set_option linter.unusedVariables false
set_option linter.unusedSimpArgs false

/-! ### impl_Dev_has: function 68 -/
def impl_Dev_has.f (l0_0 : List Int) (l0_1 : List (S101)) (a0_2 : Int) (a0_3 : Bool) (a1 : Int) : Option (Bool) := if a1 ≥ 0 then ((impl_Dev_sectors.f l0_0 l0_1 a0_2 a0_3).bind fun t102 => (some (decide (a1 < t102)))) else (some false)
set_option maxHeartbeats 8000000 in
set_option maxRecDepth 100000 in
theorem impl_Dev_has.calls (A0_0 : Option Addr) (c0_0 : Nat) (l0_0 : List Int) (A0_1 : Option Addr) (c0_1 : Nat) (l0_1 : List (S101)) (a0_2 : Int) (a0_3 : Bool) (a1 : Int) (r : Bool) (w : World) (hr0_0 : Kd.C (Kd.int .u8) w A0_0 l0_0.length l0_0) (hc0_0 : l0_0.length ≤ c0_0) (hr0_1 : Kd.C k101 w A0_1 l0_1.length l0_1) (hc0_1 : l0_1.length ≤ c0_1) (h : impl_Dev_has.f l0_0 l0_1 a0_2 a0_3 a1 = some r) :
    Calls Try.prog 68 #[.agg #[.slice A0_0 l0_0.length c0_0, .slice A0_1 l0_1.length c0_1, .int .i64 a0_2, .bool a0_3], .int .i64 a1] w fun e w' => e = .returned (.bool r) ∧ Below w.heap.size w w' := by
  have hu35 := Try.underlying35
  have HR0_0 := Aside0.mk hr0_0
  have HC0_0 := Aside0.mk hc0_0
  clear hr0_0 hc0_0
  have HR0_1 := Aside0.mk hr0_1
  have HC0_1 := Aside0.mk hc0_1
  clear hr0_1 hc0_1
  have HB := Aside0.mk (Below.refl w.heap.size w)
  have H : (if a1 ≥ 0 then ((impl_Dev_sectors.f l0_0 l0_1 a0_2 a0_3).bind fun t102 => (some (decide (a1 < t102)))) else (some false)) = some r := h
  clear h
  by_cases c3 : a1 ≥ 0
  · rw [if_pos c3] at H
    have c3b0 : decide (0 ≤ a1) = true := decide_eq_true c3
    clear c3
    replace H := Option.bind_eq_some_iff.mp H
    obtain ⟨t102, A40, H⟩ := H
    replace H : (some (decide (a1 < t102))) = some r := H
    have A4 := Aside0.mk A40
    clear A40
    obtain rfl := Option.some.inj H
    go_enter Try.func68, Try.ntmps68
    go_wp2_with (first | ((with_reducible refine gate_dst (N := 2) rfl ?_); refine box_event ?hg (N := 2) ?hd (cs := #[.slice A0_0 l0_0.length c0_0, .slice A0_1 l0_1.length c0_1, .int .i64 a0_2, .bool a0_3]) (t := 35) ?hr ?_; (case hd => rfl); (case hg => rfl); (case hr => first | (go_simp; done) | (go_simp; rfl)); intro gb101 hg w5 hbox hb; have n0_ := Aside0.mk (below_step (by repeat (first | (with_reducible first | exact HB.out | apply below_alloc | apply pw_below_drewN | apply below_drew1) | exact HB.out)) hb); have n1_ := Aside0.mk (hbox); have n2_ := Aside0.mk ((by rw [hg]; exact (below_size (by repeat (first | (with_reducible first | exact HB.out | apply below_alloc | apply pw_below_drewN | apply below_drew1) | exact HB.out))) : w.heap.size ≤ gb101)); have n3_ := Aside0.mk ((by rw [hg]; exact (below_size (by repeat (first | (with_reducible first | exact HB.out | apply below_alloc | apply pw_below_drewN | apply below_drew1) | exact HB.out))) : w.heap.size ≤ gb101)); clear HB; have HB := n0_; have BK101 := n1_; have GW101 := n2_; have GE101 := n3_; clear n0_ n1_ n2_ n3_; clear hb hbox hg; have hcz6_0 : w5.cell? ⟨gb101, 0, none⟩ = some (.slice A0_0 l0_0.length c0_0) := (blk_cell BK101.out 0).trans rfl; have hcz6_1 : w5.cell? ⟨gb101, 1, none⟩ = some (.slice A0_1 l0_1.length c0_1) := (blk_cell BK101.out 1).trans rfl; have hcz6_2 : w5.cell? ⟨gb101, 2, none⟩ = some (.int .i64 a0_2) := (blk_cell BK101.out 2).trans rfl; have hcz6_3 : w5.cell? ⟨gb101, 3, none⟩ = some (.bool a0_3) := (blk_cell BK101.out 3).trans rfl; have hfz6_0 := blk_frozen BK101.out 0; have hfz6_1 := blk_frozen BK101.out 1; have hfz6_2 := blk_frozen BK101.out 2; have hfz6_3 := blk_frozen BK101.out 3) | (go_at_call 67; (with_reducible refine (impl_Dev_sectors.calls _ _ l0_0 _ _ l0_1 a0_2 a0_3 t102 _ ?side1 ?side2 ?side3 ?side4 A4.out).mono ?_); (case side1 => repeat (first | exact (Kd.C_below HR0_0.out HB.out) | (with_reducible refine Kd.C_alloc ?_ _) | (with_reducible refine Kd.C_drewN ?_ _) | (with_reducible refine Kd.C_drew ?_))); (case side2 => exact HC0_0.out); (case side3 => repeat (first | exact (Kd.C_below HR0_1.out HB.out) | (with_reducible refine Kd.C_alloc ?_ _) | (with_reducible refine Kd.C_drewN ?_ _) | (with_reducible refine Kd.C_drew ?_))); (case side4 => exact HC0_1.out); rintro e w7 ⟨rfl, hb⟩; have n0_ := Aside0.mk (blk_below (g := gb101) (o := .cells #[.slice A0_0 l0_0.length c0_0, .slice A0_1 l0_1.length c0_1, .int .i64 a0_2, .bool a0_3] 35 (0, 0)) (by (with_reducible repeat (first | refine blk_drewN ?_ _ | refine blk_drew ?_ | refine blk_alloc ?_ _)); exact BK101.out) hb); have n1_ := Aside0.mk (below_step (by repeat (first | (with_reducible first | exact HB.out | apply below_alloc | apply pw_below_drewN | apply below_drew1 | refine below_set ?_ GE101.out) | exact HB.out)) hb); clear BK101; clear HB; have BK101 := n0_; have HB := n1_; clear n0_ n1_; (try clear hb); (try clear hb2); (try clear hk); (try clear hi)))
    go_ret
    exact ⟨by first | rfl | (simp [errW_none, errW_some] <;> rfl) | (simp [*, errW_none, errW_some] <;> rfl), by repeat (first | (with_reducible first | exact HB.out | apply below_alloc | apply pw_below_drewN | apply below_drew1 | refine below_set ?_ GE101.out) | exact HB.out)⟩
  · rw [if_neg c3] at H
    have c3b0 : decide (0 ≤ a1) = false := decide_eq_false c3
    clear c3
    obtain rfl := Option.some.inj H
    go_enter Try.func68, Try.ntmps68
    go_wp2_with (first | ((with_reducible refine gate_dst (N := 2) rfl ?_); refine box_event ?hg (N := 2) ?hd (cs := #[.slice A0_0 l0_0.length c0_0, .slice A0_1 l0_1.length c0_1, .int .i64 a0_2, .bool a0_3]) (t := 35) ?hr ?_; (case hd => rfl); (case hg => rfl); (case hr => first | (go_simp; done) | (go_simp; rfl)); intro gb101 hg w8 hbox hb; have n0_ := Aside0.mk (below_step (by repeat (first | (with_reducible first | exact HB.out | apply below_alloc | apply pw_below_drewN | apply below_drew1) | exact HB.out)) hb); have n1_ := Aside0.mk (hbox); have n2_ := Aside0.mk ((by rw [hg]; exact (below_size (by repeat (first | (with_reducible first | exact HB.out | apply below_alloc | apply pw_below_drewN | apply below_drew1) | exact HB.out))) : w.heap.size ≤ gb101)); have n3_ := Aside0.mk ((by rw [hg]; exact (below_size (by repeat (first | (with_reducible first | exact HB.out | apply below_alloc | apply pw_below_drewN | apply below_drew1) | exact HB.out))) : w.heap.size ≤ gb101)); clear HB; have HB := n0_; have BK101 := n1_; have GW101 := n2_; have GE101 := n3_; clear n0_ n1_ n2_ n3_; clear hb hbox hg))
    go_ret
    exact ⟨by first | rfl | (simp [errW_none, errW_some] <;> rfl) | (simp [*, errW_none, errW_some] <;> rfl), by repeat (first | (with_reducible first | exact HB.out | apply below_alloc | apply pw_below_drewN | apply below_drew1 | refine below_set ?_ GE101.out) | exact HB.out)⟩

end Go.Proofs.Ytbdbeccaopphaaa.Q
namespace Go.Proofs.Ytbdbeccaopphaaa.Q
open Go.RowKit Go.Proofs.YtbdbeccaopphaaaW.PrintWords Go.Proofs.YtbdbeccaopphaaaW.PrintLast Go.Proofs.Ytbdbeccaopphaaa.LK Go.Proofs.YtbdbeccaopphaaaW.PrintMore
attribute [local go_sem] max2_int min2_int max_two min_two max_three min_three max_four min_four   -- for this text's walks alone
set_option linter.unusedVariables false
set_option linter.unusedSimpArgs false

/-! ### impl_ValidDev: function 30 -/
mutual
def impl_ValidDev.j0 : Nat → Bool → List Int → List (S101) → Int → Bool → Option (Bool)
  | 0, _, _, _, _, _ => none
  | k + 1, x19, x102000, x102001, x102002, x102003 => if x19 = true then (some false) else (if (x102001.length : Int) > 1000 then (impl_ValidDev.j1 k true x102000 x102001 x102002 x102003) else (if x102002 < (-1) then (impl_ValidDev.j1 k true x102000 x102001 x102002 x102003) else (impl_ValidDev.j1 k (decide (x102002 > 1000000)) x102000 x102001 x102002 x102003)))
def impl_ValidDev.j1 : Nat → Bool → List Int → List (S101) → Int → Bool → Option (Bool)
  | 0, _, _, _, _, _ => none
  | k + 1, x33, x102000, x102001, x102002, x102003 => if x33 = true then (some false) else (impl_ValidDev.l0 k x102001 (x102001.length : Int) 0 x102000 x102001 x102002 x102003)
def impl_ValidDev.l0 : Nat → List (S101) → Int → Int → List Int → List (S101) → Int → Bool → Option (Bool)
  | 0, _, _, _, _, _, _, _ => none
  | k + 1, x35, x36, x37, x102000, x102001, x102002, x102003 => if x37 < x36 then (if 0 ≤ x37 then (if x37 < (x35.length : Int) then ((impl_Dev_has.f x102000 x102001 x102002 x102003 ((rd_T101 x35 x37).f0)).bind fun t106 => (if t106 = true then (if (((rd_T101 x35 x37).f1).length : Int) = 64 then (impl_ValidDev.l0 k x35 x36 (wrap64 (x37 + 1)) x102000 x102001 x102002 x102003) else (some false)) else (some false))) else (none)) else (none)) else (some true)
end
def impl_ValidDev.f (k : Nat) (l0_0 : List Int) (l0_1 : List (S101)) (a0_2 : Int) (a0_3 : Bool) : Option (Bool) := if ((l0_0.length : Int) % 64) = 0 then ((impl_Dev_sectors.f l0_0 l0_1 a0_2 a0_3).bind fun t102 => (if t102 < 8 then (impl_ValidDev.j0 k true l0_0 l0_1 a0_2 a0_3) else ((impl_Dev_sectors.f l0_0 l0_1 a0_2 a0_3).bind fun t103 => (impl_ValidDev.j0 k (decide (t103 > 256)) l0_0 l0_1 a0_2 a0_3)))) else (impl_ValidDev.j0 k true l0_0 l0_1 a0_2 a0_3)
theorem impl_ValidDev.mono_l : ∀ k, (∀ y0 y1 y2 y3 y4, LeO (impl_ValidDev.j0 k y0 y1 y2 y3 y4) (impl_ValidDev.j0 (k + 1) y0 y1 y2 y3 y4)) ∧ (∀ y0 y1 y2 y3 y4, LeO (impl_ValidDev.j1 k y0 y1 y2 y3 y4) (impl_ValidDev.j1 (k + 1) y0 y1 y2 y3 y4)) ∧ (∀ y0 y1 y2 y3 y4 y5 y6, LeO (impl_ValidDev.l0 k y0 y1 y2 y3 y4 y5 y6) (impl_ValidDev.l0 (k + 1) y0 y1 y2 y3 y4 y5 y6))
  | 0 => ⟨fun _ _ _ _ _ r h => by simp [impl_ValidDev.j0] at h, fun _ _ _ _ _ r h => by simp [impl_ValidDev.j1] at h, fun _ _ _ _ _ _ _ r h => by simp [impl_ValidDev.l0] at h⟩
  | k + 1 => by
    obtain ⟨ih0, ih1, ih2⟩ := impl_ValidDev.mono_l k
    refine ⟨?_, ?_, ?_⟩
    · intro y0 y1 y2 y3 y4
      unfold impl_ValidDev.j0
      repeat' first
      | (with_reducible exact ih0 _ _ _ _ _)
      | (with_reducible exact ih1 _ _ _ _ _)
      | (with_reducible exact ih2 _ _ _ _ _ _ _)
      | (with_reducible exact LeO.refl _)
      | (with_reducible exact LeO.none _)
      | (with_reducible refine LeO.ite ?_ ?_)
      | (with_reducible refine LeO.bind ?_ (fun _ => ?_))
      | exact ih0 _ _ _ _ _
      | exact ih1 _ _ _ _ _
      | exact ih2 _ _ _ _ _ _ _
      | exact LeO.none _
      | refine LeO.ite ?_ ?_
      | refine LeO.bind ?_ (fun _ => ?_)
    · intro y0 y1 y2 y3 y4
      unfold impl_ValidDev.j1
      repeat' first
      | (with_reducible exact ih0 _ _ _ _ _)
      | (with_reducible exact ih1 _ _ _ _ _)
      | (with_reducible exact ih2 _ _ _ _ _ _ _)
      | (with_reducible exact LeO.refl _)
      | (with_reducible exact LeO.none _)
      | (with_reducible refine LeO.ite ?_ ?_)
      | (with_reducible refine LeO.bind ?_ (fun _ => ?_))
      | exact ih0 _ _ _ _ _
      | exact ih1 _ _ _ _ _
      | exact ih2 _ _ _ _ _ _ _
      | exact LeO.none _
      | refine LeO.ite ?_ ?_
      | refine LeO.bind ?_ (fun _ => ?_)
    · intro y0 y1 y2 y3 y4 y5 y6
      unfold impl_ValidDev.l0
      repeat' first
      | (with_reducible exact ih0 _ _ _ _ _)
      | (with_reducible exact ih1 _ _ _ _ _)
      | (with_reducible exact ih2 _ _ _ _ _ _ _)
      | (with_reducible exact LeO.refl _)
      | (with_reducible exact LeO.none _)
      | (with_reducible refine LeO.ite ?_ ?_)
      | (with_reducible refine LeO.bind ?_ (fun _ => ?_))
      | exact ih0 _ _ _ _ _
      | exact ih1 _ _ _ _ _
      | exact ih2 _ _ _ _ _ _ _
      | exact LeO.none _
      | refine LeO.ite ?_ ?_
      | refine LeO.bind ?_ (fun _ => ?_)
theorem impl_ValidDev.mono : ∀ a0 a1 a2 a3 k, LeO (impl_ValidDev.f k a0 a1 a2 a3) (impl_ValidDev.f (k + 1) a0 a1 a2 a3) := by
  intro a0 a1 a2 a3 k
  obtain ⟨ih0, ih1, ih2⟩ := impl_ValidDev.mono_l k
  unfold impl_ValidDev.f
  repeat' first
      | (with_reducible exact ih0 _ _ _ _ _)
      | (with_reducible exact ih1 _ _ _ _ _)
      | (with_reducible exact ih2 _ _ _ _ _ _ _)
      | (with_reducible exact LeO.refl _)
      | (with_reducible exact LeO.none _)
      | (with_reducible refine LeO.ite ?_ ?_)
      | (with_reducible refine LeO.bind ?_ (fun _ => ?_))
      | exact ih0 _ _ _ _ _
      | exact ih1 _ _ _ _ _
      | exact ih2 _ _ _ _ _ _ _
      | exact LeO.none _
      | refine LeO.ite ?_ ?_
      | refine LeO.bind ?_ (fun _ => ?_)
set_option maxHeartbeats 8000000 in
set_option maxRecDepth 100000 in
theorem impl_ValidDev.calls (k : Nat) (A0_0 : Option Addr) (c0_0 : Nat) (l0_0 : List Int) (A0_1 : Option Addr) (c0_1 : Nat) (l0_1 : List (S101)) (a0_2 : Int) (a0_3 : Bool) (r : Bool) (w : World) (hr0_0 : Kd.C (Kd.int .u8) w A0_0 l0_0.length l0_0) (hc0_0 : l0_0.length ≤ c0_0) (hr0_1 : Kd.C k101 w A0_1 l0_1.length l0_1) (hc0_1 : l0_1.length ≤ c0_1) (h : impl_ValidDev.f k l0_0 l0_1 a0_2 a0_3 = some r) :
    Calls Try.prog 30 #[.agg #[.slice A0_0 l0_0.length c0_0, .slice A0_1 l0_1.length c0_1, .int .i64 a0_2, .bool a0_3]] w fun e w' => e = .returned (.bool r) ∧ Below w.heap.size w w' := by
  have hu35 := Try.underlying35
  have hu101 := Try.underlying101
  have HR0_0 := Aside0.mk hr0_0
  have HC0_0 := Aside0.mk hc0_0
  clear hr0_0 hc0_0
  have HR0_1 := Aside0.mk hr0_1
  have HC0_1 := Aside0.mk hc0_1
  clear hr0_1 hc0_1
  have HB := Aside0.mk (Below.refl w.heap.size w)
  have H : (if ((l0_0.length : Int) % 64) = 0 then ((impl_Dev_sectors.f l0_0 l0_1 a0_2 a0_3).bind fun t102 => (if t102 < 8 then (impl_ValidDev.j0 k true l0_0 l0_1 a0_2 a0_3) else ((impl_Dev_sectors.f l0_0 l0_1 a0_2 a0_3).bind fun t103 => (impl_ValidDev.j0 k (decide (t103 > 256)) l0_0 l0_1 a0_2 a0_3)))) else (impl_ValidDev.j0 k true l0_0 l0_1 a0_2 a0_3)) = some r := h
  clear h
  have HC2 := Aside0.mk H
  clear H
  go_enter Try.func30, Try.ntmps30
  go_upto_region 1 with (first | ((with_reducible refine gate_dst (N := 1) rfl ?_); (try (refine gate_guard (by rfl) ?_; dsimp only)); refine box_event ?hg (N := 1) ?hd (cs := #[.slice A0_0 l0_0.length c0_0, .slice A0_1 l0_1.length c0_1, .int .i64 a0_2, .bool a0_3]) (t := 35) ?hr ?_; (case hd => rfl); (case hg => rfl); (case hr => first | (go_simp; done) | (go_simp; rfl)); intro gb101 hg w3 hbox hb; have n0_ := Aside0.mk (below_step (by repeat (first | (with_reducible first | exact HB.out | apply below_alloc | apply pw_below_drewN | apply below_drew1) | exact HB.out)) hb); have n1_ := Aside0.mk (hbox); have n2_ := Aside0.mk ((by rw [hg]; exact (below_size (by repeat (first | (with_reducible first | exact HB.out | apply below_alloc | apply pw_below_drewN | apply below_drew1) | exact HB.out))) : w.heap.size ≤ gb101)); have n3_ := Aside0.mk ((by rw [hg]; exact (below_size (by repeat (first | (with_reducible first | exact HB.out | apply below_alloc | apply pw_below_drewN | apply below_drew1) | exact HB.out))) : w.heap.size ≤ gb101)); clear HB; have HB := n0_; have BK101 := n1_; have GW101 := n2_; have GE101 := n3_; clear n0_ n1_ n2_ n3_; clear hb hbox hg))
  (try simp only [Act.put, List.setIfInBounds_toArray, List.set_cons_zero, List.set_cons_succ])
  go_cut [19] (fun v19 wc => ∃ (kq : Nat) (x19_1 : Bool), v19 = .bool x19_1 ∧ Aside0 (impl_ValidDev.j0 kq x19_1 l0_0 l0_1 a0_2 a0_3 = some r) ∧ Aside0 (kq ≤ k) ∧ Aside0 (wc.heap[gb101]? = some (.cells #[(.slice A0_0 l0_0.length c0_0), (.slice A0_1 l0_1.length c0_1), .int .i64 a0_2, .bool a0_3] 35 (0, 0))) ∧ Aside0 (Below w.heap.size w wc))
  case first =>
    have H := HC2.out
    clear HC2
    by_cases c4 : ((l0_0.length : Int) % 64) = 0
    · rw [if_pos c4] at H
      have c4b0 : (((l0_0.length : Int) % 64) == 0) = true := beq_iff_eq.mpr c4
      have c4b1 : (((l0_0.length : Int) % 64) != 0) = false := bne_eq_false_iff_eq.mpr c4
      clear c4
      (first | rw [c4b0] | (simp only [i64_w, i32_w]; rw [c4b0]) | skip)
      replace H := Option.bind_eq_some_iff.mp H
      obtain ⟨t102, A50, H⟩ := H
      replace H : (if t102 < 8 then (impl_ValidDev.j0 k true l0_0 l0_1 a0_2 a0_3) else ((impl_Dev_sectors.f l0_0 l0_1 a0_2 a0_3).bind fun t103 => (impl_ValidDev.j0 k (decide (t103 > 256)) l0_0 l0_1 a0_2 a0_3))) = some r := H
      have A5 := Aside0.mk A50
      clear A50
      by_cases c6 : t102 < 8
      · rw [if_pos c6] at H
        have c6b0 : decide (t102 < 8) = true := decide_eq_true c6
        clear c6
        have H' := Aside0.mk H
        clear H
        have hcz7_0 : w3.cell? ⟨gb101, 0, none⟩ = some (.slice A0_0 l0_0.length c0_0) := (blk_cell BK101.out 0).trans rfl
        have hcz7_1 : w3.cell? ⟨gb101, 1, none⟩ = some (.slice A0_1 l0_1.length c0_1) := (blk_cell BK101.out 1).trans rfl
        have hcz7_2 : w3.cell? ⟨gb101, 2, none⟩ = some (.int .i64 a0_2) := (blk_cell BK101.out 2).trans rfl
        have hcz7_3 : w3.cell? ⟨gb101, 3, none⟩ = some (.bool a0_3) := (blk_cell BK101.out 3).trans rfl
        have hfz7_0 := blk_frozen BK101.out 0
        have hfz7_1 := blk_frozen BK101.out 1
        have hfz7_2 := blk_frozen BK101.out 2
        have hfz7_3 := blk_frozen BK101.out 3
        go_wp2_with (first | (go_at_call 67; (with_reducible refine (impl_Dev_sectors.calls _ _ l0_0 _ _ l0_1 a0_2 a0_3 t102 _ ?side1 ?side2 ?side3 ?side4 A5.out).mono ?_); (case side1 => repeat (first | exact (Kd.C_below HR0_0.out HB.out) | (with_reducible refine Kd.C_alloc ?_ _) | (with_reducible refine Kd.C_drewN ?_ _) | (with_reducible refine Kd.C_drew ?_))); (case side2 => exact HC0_0.out); (case side3 => repeat (first | exact (Kd.C_below HR0_1.out HB.out) | (with_reducible refine Kd.C_alloc ?_ _) | (with_reducible refine Kd.C_drewN ?_ _) | (with_reducible refine Kd.C_drew ?_))); (case side4 => exact HC0_1.out); rintro e w8 ⟨rfl, hb⟩; have n0_ := Aside0.mk (blk_below (g := gb101) (o := .cells #[.slice A0_0 l0_0.length c0_0, .slice A0_1 l0_1.length c0_1, .int .i64 a0_2, .bool a0_3] 35 (0, 0)) (by (with_reducible repeat (first | refine blk_drewN ?_ _ | refine blk_drew ?_ | refine blk_alloc ?_ _)); exact BK101.out) hb); have n1_ := Aside0.mk (below_step (by repeat (first | (with_reducible first | exact HB.out | apply below_alloc | apply pw_below_drewN | apply below_drew1 | refine below_set ?_ GE101.out) | exact HB.out)) hb); clear BK101; clear HB; have BK101 := n0_; have HB := n1_; clear n0_ n1_; (try clear hb); (try clear hb2); (try clear hk); (try clear hi)))
        go_meet
        case rel => exact ⟨_, (true), (by first | rfl | (simp; done) | (simp [*]; done)), H', ⟨by first | omega | exact Nat.le_refl _⟩, ⟨by (with_reducible repeat (first | refine blk_drewN ?_ _ | refine blk_drew ?_ | refine blk_alloc ?_ _)); exact BK101.out⟩, ⟨by repeat (first | (with_reducible first | exact HB.out | apply below_alloc | apply pw_below_drewN | apply below_drew1 | refine below_set ?_ GE101.out) | exact HB.out)⟩⟩
      · rw [if_neg c6] at H
        have c6b0 : decide (t102 < 8) = false := decide_eq_false c6
        clear c6
        replace H := Option.bind_eq_some_iff.mp H
        obtain ⟨t103, A90, H⟩ := H
        replace H : (impl_ValidDev.j0 k (decide (t103 > 256)) l0_0 l0_1 a0_2 a0_3) = some r := H
        have A9 := Aside0.mk A90
        clear A90
        have H' := Aside0.mk H
        clear H
        have hcz10_0 : w3.cell? ⟨gb101, 0, none⟩ = some (.slice A0_0 l0_0.length c0_0) := (blk_cell BK101.out 0).trans rfl
        have hcz10_1 : w3.cell? ⟨gb101, 1, none⟩ = some (.slice A0_1 l0_1.length c0_1) := (blk_cell BK101.out 1).trans rfl
        have hcz10_2 : w3.cell? ⟨gb101, 2, none⟩ = some (.int .i64 a0_2) := (blk_cell BK101.out 2).trans rfl
        have hcz10_3 : w3.cell? ⟨gb101, 3, none⟩ = some (.bool a0_3) := (blk_cell BK101.out 3).trans rfl
        have hfz10_0 := blk_frozen BK101.out 0
        have hfz10_1 := blk_frozen BK101.out 1
        have hfz10_2 := blk_frozen BK101.out 2
        have hfz10_3 := blk_frozen BK101.out 3
        go_wp2_with (first | (go_at_call 67; (with_reducible refine (impl_Dev_sectors.calls _ _ l0_0 _ _ l0_1 a0_2 a0_3 t102 _ ?side1 ?side2 ?side3 ?side4 A5.out).mono ?_); (case side1 => repeat (first | exact (Kd.C_below HR0_0.out HB.out) | (with_reducible refine Kd.C_alloc ?_ _) | (with_reducible refine Kd.C_drewN ?_ _) | (with_reducible refine Kd.C_drew ?_))); (case side2 => exact HC0_0.out); (case side3 => repeat (first | exact (Kd.C_below HR0_1.out HB.out) | (with_reducible refine Kd.C_alloc ?_ _) | (with_reducible refine Kd.C_drewN ?_ _) | (with_reducible refine Kd.C_drew ?_))); (case side4 => exact HC0_1.out); rintro e w11 ⟨rfl, hb⟩; have n0_ := Aside0.mk (blk_below (g := gb101) (o := .cells #[.slice A0_0 l0_0.length c0_0, .slice A0_1 l0_1.length c0_1, .int .i64 a0_2, .bool a0_3] 35 (0, 0)) (by (with_reducible repeat (first | refine blk_drewN ?_ _ | refine blk_drew ?_ | refine blk_alloc ?_ _)); exact BK101.out) hb); have n1_ := Aside0.mk (below_step (by repeat (first | (with_reducible first | exact HB.out | apply below_alloc | apply pw_below_drewN | apply below_drew1 | refine below_set ?_ GE101.out) | exact HB.out)) hb); clear BK101; clear HB; have BK101 := n0_; have HB := n1_; clear n0_ n1_; (try clear hb); (try clear hb2); (try clear hk); (try clear hi); have hcz12_0 : w11.cell? ⟨gb101, 0, none⟩ = some (.slice A0_0 l0_0.length c0_0) := (blk_cell BK101.out 0).trans rfl; have hcz12_1 : w11.cell? ⟨gb101, 1, none⟩ = some (.slice A0_1 l0_1.length c0_1) := (blk_cell BK101.out 1).trans rfl; have hcz12_2 : w11.cell? ⟨gb101, 2, none⟩ = some (.int .i64 a0_2) := (blk_cell BK101.out 2).trans rfl; have hcz12_3 : w11.cell? ⟨gb101, 3, none⟩ = some (.bool a0_3) := (blk_cell BK101.out 3).trans rfl; have hfz12_0 := blk_frozen BK101.out 0; have hfz12_1 := blk_frozen BK101.out 1; have hfz12_2 := blk_frozen BK101.out 2; have hfz12_3 := blk_frozen BK101.out 3) | (go_at_call 67; (with_reducible refine (impl_Dev_sectors.calls _ _ l0_0 _ _ l0_1 a0_2 a0_3 t103 _ ?side1 ?side2 ?side3 ?side4 A9.out).mono ?_); (case side1 => repeat (first | exact (Kd.C_below HR0_0.out HB.out) | (with_reducible refine Kd.C_alloc ?_ _) | (with_reducible refine Kd.C_drewN ?_ _) | (with_reducible refine Kd.C_drew ?_))); (case side2 => exact HC0_0.out); (case side3 => repeat (first | exact (Kd.C_below HR0_1.out HB.out) | (with_reducible refine Kd.C_alloc ?_ _) | (with_reducible refine Kd.C_drewN ?_ _) | (with_reducible refine Kd.C_drew ?_))); (case side4 => exact HC0_1.out); rintro e w13 ⟨rfl, hb⟩; have n0_ := Aside0.mk (blk_below (g := gb101) (o := .cells #[.slice A0_0 l0_0.length c0_0, .slice A0_1 l0_1.length c0_1, .int .i64 a0_2, .bool a0_3] 35 (0, 0)) (by (with_reducible repeat (first | refine blk_drewN ?_ _ | refine blk_drew ?_ | refine blk_alloc ?_ _)); exact BK101.out) hb); have n1_ := Aside0.mk (below_step (by repeat (first | (with_reducible first | exact HB.out | apply below_alloc | apply pw_below_drewN | apply below_drew1 | refine below_set ?_ GE101.out) | exact HB.out)) hb); clear BK101; clear HB; have BK101 := n0_; have HB := n1_; clear n0_ n1_; (try clear hb); (try clear hb2); (try clear hk); (try clear hi)))
        go_meet
        case rel => exact ⟨_, (decide (t103 > 256)), (by have e_ := Option.some.inj (A5.out.symm.trans A9.out); subst e_; first | rfl | (simp; done) | (simp [*]; done)), H', ⟨by first | omega | exact Nat.le_refl _⟩, ⟨by (with_reducible repeat (first | refine blk_drewN ?_ _ | refine blk_drew ?_ | refine blk_alloc ?_ _)); exact BK101.out⟩, ⟨by repeat (first | (with_reducible first | exact HB.out | apply below_alloc | apply pw_below_drewN | apply below_drew1 | refine below_set ?_ GE101.out) | exact HB.out)⟩⟩
    · rw [if_neg c4] at H
      have c4b0 : (((l0_0.length : Int) % 64) == 0) = false := beq_eq_false_iff_ne.mpr c4
      have c4b1 : (((l0_0.length : Int) % 64) != 0) = true := bne_iff_ne.mpr c4
      (first | rw [c4b0] | (simp only [i64_w, i32_w]; rw [c4b0]) | skip)
      have H' := Aside0.mk H
      clear H
      have hcz14_0 : w3.cell? ⟨gb101, 0, none⟩ = some (.slice A0_0 l0_0.length c0_0) := (blk_cell BK101.out 0).trans rfl
      have hcz14_1 : w3.cell? ⟨gb101, 1, none⟩ = some (.slice A0_1 l0_1.length c0_1) := (blk_cell BK101.out 1).trans rfl
      have hcz14_2 : w3.cell? ⟨gb101, 2, none⟩ = some (.int .i64 a0_2) := (blk_cell BK101.out 2).trans rfl
      have hcz14_3 : w3.cell? ⟨gb101, 3, none⟩ = some (.bool a0_3) := (blk_cell BK101.out 3).trans rfl
      have hfz14_0 := blk_frozen BK101.out 0
      have hfz14_1 := blk_frozen BK101.out 1
      have hfz14_2 := blk_frozen BK101.out 2
      have hfz14_3 := blk_frozen BK101.out 3
      go_wp2
      go_meet
      case rel => exact ⟨_, (true), (by first | rfl | (simp; done) | (simp [*]; done)), H', ⟨by first | omega | exact Nat.le_refl _⟩, ⟨by (with_reducible repeat (first | refine blk_drewN ?_ _ | refine blk_drew ?_ | refine blk_alloc ?_ _)); exact BK101.out⟩, ⟨by repeat (first | (with_reducible first | exact HB.out | apply below_alloc | apply pw_below_drewN | apply below_drew1 | refine below_set ?_ GE101.out) | exact HB.out)⟩⟩
  case rest =>
    clear HC2
    try clear p2
    try clear c3
    try clear c4
    try clear c4b0
    try clear c4b1
    try clear c6
    try clear c6b0
    try clear hcz10_0
    try clear hcz10_1
    try clear hcz10_2
    try clear hcz10_3
    try clear hcz12_0
    try clear hcz12_1
    try clear hcz12_2
    try clear hcz12_3
    try clear hcz14_0
    try clear hcz14_1
    try clear hcz14_2
    try clear hcz14_3
    try clear hcz7_0
    try clear hcz7_1
    try clear hcz7_2
    try clear hcz7_3
    try clear hfz10_0
    try clear hfz10_1
    try clear hfz10_2
    try clear hfz10_3
    try clear hfz12_0
    try clear hfz12_1
    try clear hfz12_2
    try clear hfz12_3
    try clear hfz14_0
    try clear hfz14_1
    try clear hfz14_2
    try clear hfz14_3
    try clear hfz7_0
    try clear hfz7_1
    try clear hfz7_2
    try clear hfz7_3
    obtain ⟨kq, x19_1, rfl, HA, HJ1, BK101, HB⟩ := hcut
    cases kq with
    | zero => exact absurd HA.out (by simp [impl_ValidDev.j0])
    | succ kj1 =>
      have H := HA.out
      clear HA
      simp only [impl_ValidDev.j0] at H
      by_cases c15 : x19_1 = true
      · subst c15
        have H1 : (some false) = some r := by rw [if_pos rfl] at H; exact H
        clear H
        have H := H1
        clear H1
        obtain rfl := Option.some.inj H
        go_wp2
        go_ret
        exact ⟨by first | rfl | (simp [errW_none, errW_some] <;> rfl) | (simp [*, errW_none, errW_some] <;> rfl), by repeat (first | (with_reducible first | exact HB.out | apply below_alloc | apply pw_below_drewN | apply below_drew1 | refine below_set ?_ GE101.out) | exact HB.out)⟩
      · replace c15 := Bool.eq_false_iff.mpr c15
        subst c15
        have H1 : (if (l0_1.length : Int) > 1000 then (impl_ValidDev.j1 kj1 true l0_0 l0_1 a0_2 a0_3) else (if a0_2 < (-1) then (impl_ValidDev.j1 kj1 true l0_0 l0_1 a0_2 a0_3) else (impl_ValidDev.j1 kj1 (decide (a0_2 > 1000000)) l0_0 l0_1 a0_2 a0_3))) = some r := by rw [if_neg (show ¬ (false = true) by decide)] at H; exact H
        clear H
        have H := H1
        clear H1
        have HC16 := Aside0.mk H
        clear H
        go_upto_region 3 with (fail)
        go_cut [33] (fun v33 wc => ∃ (kq : Nat) (x33_15 : Bool), v33 = .bool x33_15 ∧ Aside0 (impl_ValidDev.j1 kq x33_15 l0_0 l0_1 a0_2 a0_3 = some r) ∧ Aside0 (kq ≤ kj1) ∧ Aside0 (wc.heap[gb101]? = some (.cells #[(.slice A0_0 l0_0.length c0_0), (.slice A0_1 l0_1.length c0_1), .int .i64 a0_2, .bool a0_3] 35 (0, 0))) ∧ Aside0 (Below w.heap.size w wc))
        case first =>
          have H := HC16.out
          clear HC16
          by_cases c17 : (l0_1.length : Int) > 1000
          · rw [if_pos c17] at H
            have c17b0 : decide (1000 < (l0_1.length : Int)) = true := decide_eq_true c17
            have c17b1 : decide (1000 < l0_1.length) = true := decide_eq_true (by omega)
            clear c17
            (first | rw [c17b0] | (simp only [i64_w, i32_w]; rw [c17b0]) | skip)
            have H' := Aside0.mk H
            clear H
            have hcz18_0 : wc.cell? ⟨gb101, 0, none⟩ = some (.slice A0_0 l0_0.length c0_0) := (blk_cell BK101.out 0).trans rfl
            have hcz18_1 : wc.cell? ⟨gb101, 1, none⟩ = some (.slice A0_1 l0_1.length c0_1) := (blk_cell BK101.out 1).trans rfl
            have hcz18_2 : wc.cell? ⟨gb101, 2, none⟩ = some (.int .i64 a0_2) := (blk_cell BK101.out 2).trans rfl
            have hcz18_3 : wc.cell? ⟨gb101, 3, none⟩ = some (.bool a0_3) := (blk_cell BK101.out 3).trans rfl
            have hfz18_0 := blk_frozen BK101.out 0
            have hfz18_1 := blk_frozen BK101.out 1
            have hfz18_2 := blk_frozen BK101.out 2
            have hfz18_3 := blk_frozen BK101.out 3
            go_wp2
            go_meet
            case rel => exact ⟨_, (true), (by first | rfl | (simp; done) | (simp [*]; done)), H', ⟨by have := HJ1.out; first | omega | exact Nat.le_refl _⟩, ⟨by (with_reducible repeat (first | refine blk_drewN ?_ _ | refine blk_drew ?_ | refine blk_alloc ?_ _)); exact BK101.out⟩, ⟨by repeat (first | (with_reducible first | exact HB.out | apply below_alloc | apply pw_below_drewN | apply below_drew1 | refine below_set ?_ GE101.out) | exact HB.out)⟩⟩
          · rw [if_neg c17] at H
            have c17b0 : decide (1000 < (l0_1.length : Int)) = false := decide_eq_false c17
            have c17b1 : decide (1000 < l0_1.length) = false := decide_eq_false (by omega)
            clear c17
            (first | rw [c17b0] | (simp only [i64_w, i32_w]; rw [c17b0]) | skip)
            by_cases c19 : a0_2 < (-1)
            · rw [if_pos c19] at H
              have c19b0 : decide (a0_2 < (-1)) = true := decide_eq_true c19
              clear c19
              have H' := Aside0.mk H
              clear H
              have hcz20_0 : wc.cell? ⟨gb101, 0, none⟩ = some (.slice A0_0 l0_0.length c0_0) := (blk_cell BK101.out 0).trans rfl
              have hcz20_1 : wc.cell? ⟨gb101, 1, none⟩ = some (.slice A0_1 l0_1.length c0_1) := (blk_cell BK101.out 1).trans rfl
              have hcz20_2 : wc.cell? ⟨gb101, 2, none⟩ = some (.int .i64 a0_2) := (blk_cell BK101.out 2).trans rfl
              have hcz20_3 : wc.cell? ⟨gb101, 3, none⟩ = some (.bool a0_3) := (blk_cell BK101.out 3).trans rfl
              have hfz20_0 := blk_frozen BK101.out 0
              have hfz20_1 := blk_frozen BK101.out 1
              have hfz20_2 := blk_frozen BK101.out 2
              have hfz20_3 := blk_frozen BK101.out 3
              go_wp2
              go_meet
              case rel => exact ⟨_, (true), (by first | rfl | (simp; done) | (simp [*]; done)), H', ⟨by have := HJ1.out; first | omega | exact Nat.le_refl _⟩, ⟨by (with_reducible repeat (first | refine blk_drewN ?_ _ | refine blk_drew ?_ | refine blk_alloc ?_ _)); exact BK101.out⟩, ⟨by repeat (first | (with_reducible first | exact HB.out | apply below_alloc | apply pw_below_drewN | apply below_drew1 | refine below_set ?_ GE101.out) | exact HB.out)⟩⟩
            · rw [if_neg c19] at H
              have c19b0 : decide (a0_2 < (-1)) = false := decide_eq_false c19
              clear c19
              have H' := Aside0.mk H
              clear H
              have hcz21_0 : wc.cell? ⟨gb101, 0, none⟩ = some (.slice A0_0 l0_0.length c0_0) := (blk_cell BK101.out 0).trans rfl
              have hcz21_1 : wc.cell? ⟨gb101, 1, none⟩ = some (.slice A0_1 l0_1.length c0_1) := (blk_cell BK101.out 1).trans rfl
              have hcz21_2 : wc.cell? ⟨gb101, 2, none⟩ = some (.int .i64 a0_2) := (blk_cell BK101.out 2).trans rfl
              have hcz21_3 : wc.cell? ⟨gb101, 3, none⟩ = some (.bool a0_3) := (blk_cell BK101.out 3).trans rfl
              have hfz21_0 := blk_frozen BK101.out 0
              have hfz21_1 := blk_frozen BK101.out 1
              have hfz21_2 := blk_frozen BK101.out 2
              have hfz21_3 := blk_frozen BK101.out 3
              go_wp2
              go_meet
              case rel => exact ⟨_, (decide (a0_2 > 1000000)), (by first | rfl | (simp; done) | (simp [*]; done)), H', ⟨by have := HJ1.out; first | omega | exact Nat.le_refl _⟩, ⟨by (with_reducible repeat (first | refine blk_drewN ?_ _ | refine blk_drew ?_ | refine blk_alloc ?_ _)); exact BK101.out⟩, ⟨by repeat (first | (with_reducible first | exact HB.out | apply below_alloc | apply pw_below_drewN | apply below_drew1 | refine below_set ?_ GE101.out) | exact HB.out)⟩⟩
        case rest =>
          clear HC16
          try clear c1
          try clear p2
          try clear c3
          try clear c4
          try clear c4b0
          try clear c4b1
          try clear c6
          try clear c6b0
          try clear c15
          try clear c17
          try clear c17b0
          try clear c17b1
          try clear c19
          try clear c19b0
          try clear hcz10_0
          try clear hcz10_1
          try clear hcz10_2
          try clear hcz10_3
          try clear hcz12_0
          try clear hcz12_1
          try clear hcz12_2
          try clear hcz12_3
          try clear hcz14_0
          try clear hcz14_1
          try clear hcz14_2
          try clear hcz14_3
          try clear hcz18_0
          try clear hcz18_1
          try clear hcz18_2
          try clear hcz18_3
          try clear hcz20_0
          try clear hcz20_1
          try clear hcz20_2
          try clear hcz20_3
          try clear hcz21_0
          try clear hcz21_1
          try clear hcz21_2
          try clear hcz21_3
          try clear hcz7_0
          try clear hcz7_1
          try clear hcz7_2
          try clear hcz7_3
          try clear hfz10_0
          try clear hfz10_1
          try clear hfz10_2
          try clear hfz10_3
          try clear hfz12_0
          try clear hfz12_1
          try clear hfz12_2
          try clear hfz12_3
          try clear hfz14_0
          try clear hfz14_1
          try clear hfz14_2
          try clear hfz14_3
          try clear hfz18_0
          try clear hfz18_1
          try clear hfz18_2
          try clear hfz18_3
          try clear hfz20_0
          try clear hfz20_1
          try clear hfz20_2
          try clear hfz20_3
          try clear hfz21_0
          try clear hfz21_1
          try clear hfz21_2
          try clear hfz21_3
          try clear hfz7_0
          try clear hfz7_1
          try clear hfz7_2
          try clear hfz7_3
          try clear p2
          obtain ⟨kq, x33_15, rfl, HA, HJ15, BK101, HB⟩ := hcut
          cases kq with
          | zero => exact absurd HA.out (by simp [impl_ValidDev.j1])
          | succ kj15 =>
            have H := HA.out
            clear HA
            simp only [impl_ValidDev.j1] at H
            by_cases c22 : x33_15 = true
            · subst c22
              have H1 : (some false) = some r := by rw [if_pos rfl] at H; exact H
              clear H
              have H := H1
              clear H1
              obtain rfl := Option.some.inj H
              go_wp2
              go_ret
              exact ⟨by first | rfl | (simp [errW_none, errW_some] <;> rfl) | (simp [*, errW_none, errW_some] <;> rfl), by repeat (first | (with_reducible first | exact HB.out | apply below_alloc | apply pw_below_drewN | apply below_drew1 | refine below_set ?_ GE101.out) | exact HB.out)⟩
            · replace c22 := Bool.eq_false_iff.mpr c22
              subst c22
              have H1 : (impl_ValidDev.l0 kj15 l0_1 (l0_1.length : Int) 0 l0_0 l0_1 a0_2 a0_3) = some r := by rw [if_neg (show ¬ (false = true) by decide)] at H; exact H
              clear H
              have H := H1
              clear H1
              have H' := Aside0.mk H
              clear H
              have hcz23_0 : wc.cell? ⟨gb101, 0, none⟩ = some (.slice A0_0 l0_0.length c0_0) := (blk_cell BK101.out 0).trans rfl
              have hcz23_1 : wc.cell? ⟨gb101, 1, none⟩ = some (.slice A0_1 l0_1.length c0_1) := (blk_cell BK101.out 1).trans rfl
              have hcz23_2 : wc.cell? ⟨gb101, 2, none⟩ = some (.int .i64 a0_2) := (blk_cell BK101.out 2).trans rfl
              have hcz23_3 : wc.cell? ⟨gb101, 3, none⟩ = some (.bool a0_3) := (blk_cell BK101.out 3).trans rfl
              have hfz23_0 := blk_frozen BK101.out 0
              have hfz23_1 := blk_frozen BK101.out 1
              have hfz23_2 := blk_frozen BK101.out 2
              have hfz23_3 := blk_frozen BK101.out 3
              go_wp2
              go_loopg [37] kj15 (fun kq v37 w' => ∃ (x37_3 : Int), v37 = .int .i64 x37_3 ∧ Aside0 (impl_ValidDev.l0 kq l0_1 (l0_1.length : Int) x37_3 l0_0 l0_1 a0_2 a0_3 = some r) ∧ Aside0 (kq ≤ kj15) ∧ Aside0 (w'.heap[gb101]? = some (.cells #[(.slice A0_0 l0_0.length c0_0), (.slice A0_1 l0_1.length c0_1), .int .i64 a0_2, .bool a0_3] 35 (0, 0))) ∧ Aside0 (Below w.heap.size w w'))
              case atStart => exact ⟨(0), (by first | rfl | (simp; done) | (simp [*]; done)), H', ⟨Nat.le_refl _⟩, ⟨by (with_reducible repeat (first | refine blk_drewN ?_ _ | refine blk_drew ?_ | refine blk_alloc ?_ _)); exact BK101.out⟩, ⟨by repeat (first | (with_reducible first | exact HB.out | apply below_alloc | apply pw_below_drewN | apply below_drew1 | refine below_set ?_ GE101.out) | exact HB.out)⟩⟩
              case round =>
                clear H'
                try clear c1
                try clear c2
                try clear p2
                try clear c3
                try clear c4
                try clear c4b0
                try clear c4b1
                try clear c6
                try clear c6b0
                try clear c15
                try clear c17
                try clear c17b0
                try clear c17b1
                try clear c19
                try clear c19b0
                try clear c22
                try clear hcz10_0
                try clear hcz10_1
                try clear hcz10_2
                try clear hcz10_3
                try clear hcz12_0
                try clear hcz12_1
                try clear hcz12_2
                try clear hcz12_3
                try clear hcz14_0
                try clear hcz14_1
                try clear hcz14_2
                try clear hcz14_3
                try clear hcz18_0
                try clear hcz18_1
                try clear hcz18_2
                try clear hcz18_3
                try clear hcz20_0
                try clear hcz20_1
                try clear hcz20_2
                try clear hcz20_3
                try clear hcz21_0
                try clear hcz21_1
                try clear hcz21_2
                try clear hcz21_3
                try clear hcz23_0
                try clear hcz23_1
                try clear hcz23_2
                try clear hcz23_3
                try clear hcz7_0
                try clear hcz7_1
                try clear hcz7_2
                try clear hcz7_3
                try clear hfz10_0
                try clear hfz10_1
                try clear hfz10_2
                try clear hfz10_3
                try clear hfz12_0
                try clear hfz12_1
                try clear hfz12_2
                try clear hfz12_3
                try clear hfz14_0
                try clear hfz14_1
                try clear hfz14_2
                try clear hfz14_3
                try clear hfz18_0
                try clear hfz18_1
                try clear hfz18_2
                try clear hfz18_3
                try clear hfz20_0
                try clear hfz20_1
                try clear hfz20_2
                try clear hfz20_3
                try clear hfz21_0
                try clear hfz21_1
                try clear hfz21_2
                try clear hfz21_3
                try clear hfz23_0
                try clear hfz23_1
                try clear hfz23_2
                try clear hfz23_3
                try clear hfz7_0
                try clear hfz7_1
                try clear hfz7_2
                try clear hfz7_3
                try clear p2
                obtain ⟨x37_3, rfl, HA, HK3, BK101, HB⟩ := hrel
                cases gk with
                | zero => exact absurd HA.out (by simp [impl_ValidDev.l0])
                | succ k3 =>
                  have H := HA.out
                  clear HA
                  simp only [impl_ValidDev.l0] at H
                  by_cases c24 : x37_3 < (l0_1.length : Int)
                  · rw [if_pos c24] at H
                    have c24b0 : decide (x37_3 < (l0_1.length : Int)) = true := decide_eq_true c24
                    clear c24
                    by_cases c25 : 0 ≤ x37_3
                    · rw [if_pos c25] at H
                      have c25b0 : decide (0 ≤ x37_3) = true := decide_eq_true c25
                      clear c25
                      by_cases c26 : x37_3 < (l0_1.length : Int)
                      · rw [if_pos c26] at H
                        have c26b0 : decide (x37_3 < (l0_1.length : Int)) = true := decide_eq_true c26
                        clear c26
                        replace H := Option.bind_eq_some_iff.mp H
                        obtain ⟨t106, A270, H⟩ := H
                        replace H : (if t106 = true then (if (((rd_T101 l0_1 x37_3).f1).length : Int) = 64 then (impl_ValidDev.l0 k3 l0_1 (l0_1.length : Int) (wrap64 (x37_3 + 1)) l0_0 l0_1 a0_2 a0_3) else (some false)) else (some false)) = some r := H
                        have A27 := Aside0.mk A270
                        clear A270
                        by_cases c28 : t106 = true
                        · subst c28
                          have H1 : (if (((rd_T101 l0_1 x37_3).f1).length : Int) = 64 then (impl_ValidDev.l0 k3 l0_1 (l0_1.length : Int) (wrap64 (x37_3 + 1)) l0_0 l0_1 a0_2 a0_3) else (some false)) = some r := by rw [if_pos rfl] at H; exact H
                          clear H
                          have H := H1
                          clear H1
                          by_cases c29 : (((rd_T101 l0_1 x37_3).f1).length : Int) = 64
                          · rw [if_pos c29] at H
                            have c29b0 : ((((rd_T101 l0_1 x37_3).f1).length : Int) == 64) = true := beq_iff_eq.mpr c29
                            have c29b1 : ((((rd_T101 l0_1 x37_3).f1).length : Int) != 64) = false := bne_eq_false_iff_eq.mpr c29
                            clear c29
                            have H' := Aside0.mk H
                            clear H
                            have p104 : 0 ≤ (x37_3 : Int) := of_decide_eq_true (by first | (with_reducible assumption) | assumption)
                            have q104 : x37_3 < (l0_1.length : Int) := of_decide_eq_true (by first | (with_reducible assumption) | assumption)
                            obtain ⟨ad104, A104_1, c104_1, e104, hx104_0, hx104_1, hl104_1, hi104_1⟩ := at_T101 HR0_1.out x37_3 p104 q104
                            cases e104
                            replace hx104_0 := (HB.out.cell (World.block_lt_of_cell? w _ hx104_0)).trans hx104_0
                            replace hx104_1 := (HB.out.cell (World.block_lt_of_cell? w _ hx104_1)).trans hx104_1
                            have HR104_1 := Aside0.mk hi104_1
                            have HC104_1 := Aside0.mk hl104_1
                            clear hi104_1 hl104_1
                            replace p104 := eq_true p104
                            replace q104 := eq_true q104
                            go_wp2_with (first | ((with_reducible refine gate_dst (N := 4) rfl ?_); (try (refine gate_guard (by rfl) ?_; dsimp only)); refine box_event ?hg (N := 4) ?hd (cs := #[.int .i64 0, .slice none 0 0]) (t := 101) ?hr ?_; (case hd => rfl); (case hg => rfl); (case hr => first | (go_simp; done) | (go_simp; rfl)); intro gb105 hg w30 hbox hb; have n0_ := Aside0.mk (blk_below (g := gb101) (o := .cells #[.slice A0_0 l0_0.length c0_0, .slice (some ad104) l0_1.length c0_1, .int .i64 a0_2, .bool a0_3] 35 (0, 0)) (by (with_reducible repeat (first | refine blk_drewN ?_ _ | refine blk_drew ?_ | refine blk_alloc ?_ _)); exact BK101.out) hb); have n1_ := Aside0.mk (below_step (by repeat (first | (with_reducible first | exact HB.out | apply below_alloc | apply pw_below_drewN | apply below_drew1 | refine below_set ?_ GE101.out) | exact HB.out)) hb); have n2_ := Aside0.mk (hbox); have n3_ := Aside0.mk ((by rw [hg]; exact (below_size (by repeat (first | (with_reducible first | exact HB.out | apply below_alloc | apply pw_below_drewN | apply below_drew1 | refine below_set ?_ GE101.out) | exact HB.out))) : w.heap.size ≤ gb105)); have n4_ := Aside0.mk ((by rw [hg]; exact (below_size (by repeat (first | (with_reducible first | exact HB.out | apply below_alloc | apply pw_below_drewN | apply below_drew1 | refine below_set ?_ GE101.out) | exact HB.out))) : w.heap.size ≤ gb105)); have n5_ := Aside0.mk ((by rw [hg]; exact Nat.ne_of_lt (blk_lt (g := gb101) (o := .cells #[.slice A0_0 l0_0.length c0_0, .slice (some ad104) l0_1.length c0_1, .int .i64 a0_2, .bool a0_3] 35 (0, 0)) (by (with_reducible repeat (first | refine blk_drewN ?_ _ | refine blk_drew ?_ | refine blk_alloc ?_ _)); exact BK101.out)) : gb101 ≠ gb105)); have n6_ := Aside0.mk ((by rw [hg]; exact Nat.ne_of_gt (blk_lt (g := gb101) (o := .cells #[.slice A0_0 l0_0.length c0_0, .slice (some ad104) l0_1.length c0_1, .int .i64 a0_2, .bool a0_3] 35 (0, 0)) (by (with_reducible repeat (first | refine blk_drewN ?_ _ | refine blk_drew ?_ | refine blk_alloc ?_ _)); exact BK101.out)) : gb105 ≠ gb101)); clear BK101; clear HB; have BK101 := n0_; have HB := n1_; have BK105 := n2_; have GW105 := n3_; have GE105 := n4_; have NB101_105 := n5_; have NB105_101 := n6_; clear n0_ n1_ n2_ n3_ n4_ n5_ n6_; clear hb hbox hg; have hnb31 := NB105_101.out; have hnc31 := NB101_105.out; have hcz32_0 : w30.cell? ⟨gb105, 0, none⟩ = some (.int .i64 0) := (blk_cell BK105.out 0).trans rfl; have hcz32_1 : w30.cell? ⟨gb105, 1, none⟩ = some (.slice none 0 0) := (blk_cell BK105.out 1).trans rfl; have hfz32_0 := blk_frozen BK105.out 0; have hfz32_1 := blk_frozen BK105.out 1; have hcz33_0 : w30.cell? ⟨gb101, 0, none⟩ = some (.slice A0_0 l0_0.length c0_0) := (blk_cell BK101.out 0).trans rfl; have hcz33_1 : w30.cell? ⟨gb101, 1, none⟩ = some (.slice (some ad104) l0_1.length c0_1) := (blk_cell BK101.out 1).trans rfl; have hcz33_2 : w30.cell? ⟨gb101, 2, none⟩ = some (.int .i64 a0_2) := (blk_cell BK101.out 2).trans rfl; have hcz33_3 : w30.cell? ⟨gb101, 3, none⟩ = some (.bool a0_3) := (blk_cell BK101.out 3).trans rfl; have hfz33_0 := blk_frozen BK101.out 0; have hfz33_1 := blk_frozen BK101.out 1; have hfz33_2 := blk_frozen BK101.out 2; have hfz33_3 := blk_frozen BK101.out 3) | ((with_reducible refine gate_callee (f := 68) rfl ?_); refine goesL_ (some 44) rfl rfl Try.func68 (by kernel_rfl) rfl #[.agg #[.slice A0_0 l0_0.length c0_0, .slice (some ad104) l0_1.length c0_1, .int .i64 a0_2, .bool a0_3], .int .i64 ((rd_T101 l0_1 x37_3).f0)] rfl (by (try simp only [List.map_toArray, List.map_cons, List.map_nil]); first | done | rfl | (simp only [List.length_drop, List.length_take]; rfl)) ?_; (with_reducible refine (impl_Dev_has.calls _ _ l0_0 _ _ l0_1 a0_2 a0_3 ((rd_T101 l0_1 x37_3).f0) true _ ?side1 ?side2 ?side3 ?side4 A27.out).mono ?_); (case side1 => exact Kd.C_below HR0_0.out (by repeat (first | (with_reducible first | exact HB.out | apply below_alloc | apply pw_below_drewN | apply below_drew1 | refine below_set ?_ GE101.out | refine below_set ?_ GE105.out) | exact HB.out))); (case side2 => exact HC0_0.out); (case side3 => exact Kd.C_below HR0_1.out (by repeat (first | (with_reducible first | exact HB.out | apply below_alloc | apply pw_below_drewN | apply below_drew1 | refine below_set ?_ GE101.out | refine below_set ?_ GE105.out) | exact HB.out))); (case side4 => exact HC0_1.out); rintro e w34 ⟨rfl, hb⟩; refine ⟨_, rfl, ?_⟩; have n0_ := Aside0.mk (blk_below (g := gb101) (o := .cells #[.slice A0_0 l0_0.length c0_0, .slice (some ad104) l0_1.length c0_1, .int .i64 a0_2, .bool a0_3] 35 (0, 0)) (by (with_reducible repeat (first | refine blk_drewN ?_ _ | refine blk_drew ?_ | refine blk_alloc ?_ _)); refine blk_far ?_ NB101_105.out _; (with_reducible repeat (first | refine blk_drewN ?_ _ | refine blk_drew ?_ | refine blk_alloc ?_ _)); refine blk_far ?_ NB101_105.out _; (with_reducible repeat (first | refine blk_drewN ?_ _ | refine blk_drew ?_ | refine blk_alloc ?_ _)); exact BK101.out) hb); have n1_ := Aside0.mk (blk_below (g := gb105) (o := .cells #[.int .i64 ((rd_T101 l0_1 x37_3).f0), .slice A104_1 ((rd_T101 l0_1 x37_3).f1).length c104_1] 101 (0, 0)) (by (with_reducible repeat (first | refine blk_drewN ?_ _ | refine blk_drew ?_ | refine blk_alloc ?_ _)); refine blk_put (cs := #[.int .i64 ((rd_T101 l0_1 x37_3).f0), .slice none 0 0]) ?_ 1 _ rfl; (with_reducible repeat (first | refine blk_drewN ?_ _ | refine blk_drew ?_ | refine blk_alloc ?_ _)); refine blk_put (cs := #[.int .i64 0, .slice none 0 0]) ?_ 0 _ rfl; (with_reducible repeat (first | refine blk_drewN ?_ _ | refine blk_drew ?_ | refine blk_alloc ?_ _)); exact BK105.out) hb); have n2_ := Aside0.mk (below_step (by repeat (first | (with_reducible first | exact HB.out | apply below_alloc | apply pw_below_drewN | apply below_drew1 | refine below_set ?_ GE101.out | refine below_set ?_ GE105.out) | exact HB.out)) hb); clear BK101; clear BK105; clear HB; have BK101 := n0_; have BK105 := n1_; have HB := n2_; clear n0_ n1_ n2_; (try clear hb); (try clear hb2); (try clear hk); (try clear hi); have hcz35_0 : w34.cell? ⟨gb105, 0, none⟩ = some (.int .i64 ((rd_T101 l0_1 x37_3).f0)) := (blk_cell BK105.out 0).trans rfl; have hcz35_1 : w34.cell? ⟨gb105, 1, none⟩ = some (.slice A104_1 ((rd_T101 l0_1 x37_3).f1).length c104_1) := (blk_cell BK105.out 1).trans rfl; have hfz35_0 := blk_frozen BK105.out 0; have hfz35_1 := blk_frozen BK105.out 1))
                            go_roundg k3
                            case measure => have := HJ1.out; have := HJ15.out; have := HK3.out; omega
                            case rel => exact ⟨(wrap64 (x37_3 + 1)), (by first | rfl | (simp; done) | (simp [*]; done)), H', ⟨by have := HJ1.out; have := HJ15.out; have := HK3.out; omega⟩, ⟨by (with_reducible repeat (first | refine blk_drewN ?_ _ | refine blk_drew ?_ | refine blk_alloc ?_ _)); exact BK101.out⟩, ⟨by repeat (first | (with_reducible first | exact HB.out | apply below_alloc | apply pw_below_drewN | apply below_drew1 | refine below_set ?_ GE101.out | refine below_set ?_ GE105.out) | exact HB.out)⟩⟩
                          · rw [if_neg c29] at H
                            have c29b0 : ((((rd_T101 l0_1 x37_3).f1).length : Int) == 64) = false := beq_eq_false_iff_ne.mpr c29
                            have c29b1 : ((((rd_T101 l0_1 x37_3).f1).length : Int) != 64) = true := bne_iff_ne.mpr c29
                            obtain rfl := Option.some.inj H
                            have p104 : 0 ≤ (x37_3 : Int) := of_decide_eq_true (by first | (with_reducible assumption) | assumption)
                            have q104 : x37_3 < (l0_1.length : Int) := of_decide_eq_true (by first | (with_reducible assumption) | assumption)
                            obtain ⟨ad104, A104_1, c104_1, e104, hx104_0, hx104_1, hl104_1, hi104_1⟩ := at_T101 HR0_1.out x37_3 p104 q104
                            cases e104
                            replace hx104_0 := (HB.out.cell (World.block_lt_of_cell? w _ hx104_0)).trans hx104_0
                            replace hx104_1 := (HB.out.cell (World.block_lt_of_cell? w _ hx104_1)).trans hx104_1
                            have HR104_1 := Aside0.mk hi104_1
                            have HC104_1 := Aside0.mk hl104_1
                            clear hi104_1 hl104_1
                            replace p104 := eq_true p104
                            replace q104 := eq_true q104
                            go_wp2_with (first | ((with_reducible refine gate_dst (N := 4) rfl ?_); (try (refine gate_guard (by rfl) ?_; dsimp only)); refine box_event ?hg (N := 4) ?hd (cs := #[.int .i64 0, .slice none 0 0]) (t := 101) ?hr ?_; (case hd => rfl); (case hg => rfl); (case hr => first | (go_simp; done) | (go_simp; rfl)); intro gb105 hg w36 hbox hb; have n0_ := Aside0.mk (blk_below (g := gb101) (o := .cells #[.slice A0_0 l0_0.length c0_0, .slice (some ad104) l0_1.length c0_1, .int .i64 a0_2, .bool a0_3] 35 (0, 0)) (by (with_reducible repeat (first | refine blk_drewN ?_ _ | refine blk_drew ?_ | refine blk_alloc ?_ _)); exact BK101.out) hb); have n1_ := Aside0.mk (below_step (by repeat (first | (with_reducible first | exact HB.out | apply below_alloc | apply pw_below_drewN | apply below_drew1 | refine below_set ?_ GE101.out) | exact HB.out)) hb); have n2_ := Aside0.mk (hbox); have n3_ := Aside0.mk ((by rw [hg]; exact (below_size (by repeat (first | (with_reducible first | exact HB.out | apply below_alloc | apply pw_below_drewN | apply below_drew1 | refine below_set ?_ GE101.out) | exact HB.out))) : w.heap.size ≤ gb105)); have n4_ := Aside0.mk ((by rw [hg]; exact (below_size (by repeat (first | (with_reducible first | exact HB.out | apply below_alloc | apply pw_below_drewN | apply below_drew1 | refine below_set ?_ GE101.out) | exact HB.out))) : w.heap.size ≤ gb105)); have n5_ := Aside0.mk ((by rw [hg]; exact Nat.ne_of_lt (blk_lt (g := gb101) (o := .cells #[.slice A0_0 l0_0.length c0_0, .slice (some ad104) l0_1.length c0_1, .int .i64 a0_2, .bool a0_3] 35 (0, 0)) (by (with_reducible repeat (first | refine blk_drewN ?_ _ | refine blk_drew ?_ | refine blk_alloc ?_ _)); exact BK101.out)) : gb101 ≠ gb105)); have n6_ := Aside0.mk ((by rw [hg]; exact Nat.ne_of_gt (blk_lt (g := gb101) (o := .cells #[.slice A0_0 l0_0.length c0_0, .slice (some ad104) l0_1.length c0_1, .int .i64 a0_2, .bool a0_3] 35 (0, 0)) (by (with_reducible repeat (first | refine blk_drewN ?_ _ | refine blk_drew ?_ | refine blk_alloc ?_ _)); exact BK101.out)) : gb105 ≠ gb101)); clear BK101; clear HB; have BK101 := n0_; have HB := n1_; have BK105 := n2_; have GW105 := n3_; have GE105 := n4_; have NB101_105 := n5_; have NB105_101 := n6_; clear n0_ n1_ n2_ n3_ n4_ n5_ n6_; clear hb hbox hg; have hnb37 := NB105_101.out; have hnc37 := NB101_105.out; have hcz38_0 : w36.cell? ⟨gb105, 0, none⟩ = some (.int .i64 0) := (blk_cell BK105.out 0).trans rfl; have hcz38_1 : w36.cell? ⟨gb105, 1, none⟩ = some (.slice none 0 0) := (blk_cell BK105.out 1).trans rfl; have hfz38_0 := blk_frozen BK105.out 0; have hfz38_1 := blk_frozen BK105.out 1; have hcz39_0 : w36.cell? ⟨gb101, 0, none⟩ = some (.slice A0_0 l0_0.length c0_0) := (blk_cell BK101.out 0).trans rfl; have hcz39_1 : w36.cell? ⟨gb101, 1, none⟩ = some (.slice (some ad104) l0_1.length c0_1) := (blk_cell BK101.out 1).trans rfl; have hcz39_2 : w36.cell? ⟨gb101, 2, none⟩ = some (.int .i64 a0_2) := (blk_cell BK101.out 2).trans rfl; have hcz39_3 : w36.cell? ⟨gb101, 3, none⟩ = some (.bool a0_3) := (blk_cell BK101.out 3).trans rfl; have hfz39_0 := blk_frozen BK101.out 0; have hfz39_1 := blk_frozen BK101.out 1; have hfz39_2 := blk_frozen BK101.out 2; have hfz39_3 := blk_frozen BK101.out 3) | ((with_reducible refine gate_callee (f := 68) rfl ?_); refine goesL_ (some 44) rfl rfl Try.func68 (by kernel_rfl) rfl #[.agg #[.slice A0_0 l0_0.length c0_0, .slice (some ad104) l0_1.length c0_1, .int .i64 a0_2, .bool a0_3], .int .i64 ((rd_T101 l0_1 x37_3).f0)] rfl (by (try simp only [List.map_toArray, List.map_cons, List.map_nil]); first | done | rfl | (simp only [List.length_drop, List.length_take]; rfl)) ?_; (with_reducible refine (impl_Dev_has.calls _ _ l0_0 _ _ l0_1 a0_2 a0_3 ((rd_T101 l0_1 x37_3).f0) true _ ?side1 ?side2 ?side3 ?side4 A27.out).mono ?_); (case side1 => exact Kd.C_below HR0_0.out (by repeat (first | (with_reducible first | exact HB.out | apply below_alloc | apply pw_below_drewN | apply below_drew1 | refine below_set ?_ GE101.out | refine below_set ?_ GE105.out) | exact HB.out))); (case side2 => exact HC0_0.out); (case side3 => exact Kd.C_below HR0_1.out (by repeat (first | (with_reducible first | exact HB.out | apply below_alloc | apply pw_below_drewN | apply below_drew1 | refine below_set ?_ GE101.out | refine below_set ?_ GE105.out) | exact HB.out))); (case side4 => exact HC0_1.out); rintro e w40 ⟨rfl, hb⟩; refine ⟨_, rfl, ?_⟩; have n0_ := Aside0.mk (blk_below (g := gb101) (o := .cells #[.slice A0_0 l0_0.length c0_0, .slice (some ad104) l0_1.length c0_1, .int .i64 a0_2, .bool a0_3] 35 (0, 0)) (by (with_reducible repeat (first | refine blk_drewN ?_ _ | refine blk_drew ?_ | refine blk_alloc ?_ _)); refine blk_far ?_ NB101_105.out _; (with_reducible repeat (first | refine blk_drewN ?_ _ | refine blk_drew ?_ | refine blk_alloc ?_ _)); refine blk_far ?_ NB101_105.out _; (with_reducible repeat (first | refine blk_drewN ?_ _ | refine blk_drew ?_ | refine blk_alloc ?_ _)); exact BK101.out) hb); have n1_ := Aside0.mk (blk_below (g := gb105) (o := .cells #[.int .i64 ((rd_T101 l0_1 x37_3).f0), .slice A104_1 ((rd_T101 l0_1 x37_3).f1).length c104_1] 101 (0, 0)) (by (with_reducible repeat (first | refine blk_drewN ?_ _ | refine blk_drew ?_ | refine blk_alloc ?_ _)); refine blk_put (cs := #[.int .i64 ((rd_T101 l0_1 x37_3).f0), .slice none 0 0]) ?_ 1 _ rfl; (with_reducible repeat (first | refine blk_drewN ?_ _ | refine blk_drew ?_ | refine blk_alloc ?_ _)); refine blk_put (cs := #[.int .i64 0, .slice none 0 0]) ?_ 0 _ rfl; (with_reducible repeat (first | refine blk_drewN ?_ _ | refine blk_drew ?_ | refine blk_alloc ?_ _)); exact BK105.out) hb); have n2_ := Aside0.mk (below_step (by repeat (first | (with_reducible first | exact HB.out | apply below_alloc | apply pw_below_drewN | apply below_drew1 | refine below_set ?_ GE101.out | refine below_set ?_ GE105.out) | exact HB.out)) hb); clear BK101; clear BK105; clear HB; have BK101 := n0_; have BK105 := n1_; have HB := n2_; clear n0_ n1_ n2_; (try clear hb); (try clear hb2); (try clear hk); (try clear hi); have hcz41_0 : w40.cell? ⟨gb105, 0, none⟩ = some (.int .i64 ((rd_T101 l0_1 x37_3).f0)) := (blk_cell BK105.out 0).trans rfl; have hcz41_1 : w40.cell? ⟨gb105, 1, none⟩ = some (.slice A104_1 ((rd_T101 l0_1 x37_3).f1).length c104_1) := (blk_cell BK105.out 1).trans rfl; have hfz41_0 := blk_frozen BK105.out 0; have hfz41_1 := blk_frozen BK105.out 1))
                            go_ret
                            exact ⟨by first | rfl | (simp [errW_none, errW_some] <;> rfl) | (simp [*, errW_none, errW_some] <;> rfl), by repeat (first | (with_reducible first | exact HB.out | apply below_alloc | apply pw_below_drewN | apply below_drew1 | refine below_set ?_ GE101.out | refine below_set ?_ GE105.out) | exact HB.out)⟩
                        · replace c28 := Bool.eq_false_iff.mpr c28
                          subst c28
                          have H1 : (some false) = some r := by rw [if_neg (show ¬ (false = true) by decide)] at H; exact H
                          clear H
                          have H := H1
                          clear H1
                          obtain rfl := Option.some.inj H
                          have p104 : 0 ≤ (x37_3 : Int) := of_decide_eq_true (by first | (with_reducible assumption) | assumption)
                          have q104 : x37_3 < (l0_1.length : Int) := of_decide_eq_true (by first | (with_reducible assumption) | assumption)
                          obtain ⟨ad104, A104_1, c104_1, e104, hx104_0, hx104_1, hl104_1, hi104_1⟩ := at_T101 HR0_1.out x37_3 p104 q104
                          cases e104
                          replace hx104_0 := (HB.out.cell (World.block_lt_of_cell? w _ hx104_0)).trans hx104_0
                          replace hx104_1 := (HB.out.cell (World.block_lt_of_cell? w _ hx104_1)).trans hx104_1
                          have HR104_1 := Aside0.mk hi104_1
                          have HC104_1 := Aside0.mk hl104_1
                          clear hi104_1 hl104_1
                          replace p104 := eq_true p104
                          replace q104 := eq_true q104
                          go_wp2_with (first | ((with_reducible refine gate_dst (N := 4) rfl ?_); (try (refine gate_guard (by rfl) ?_; dsimp only)); refine box_event ?hg (N := 4) ?hd (cs := #[.int .i64 0, .slice none 0 0]) (t := 101) ?hr ?_; (case hd => rfl); (case hg => rfl); (case hr => first | (go_simp; done) | (go_simp; rfl)); intro gb105 hg w42 hbox hb; have n0_ := Aside0.mk (blk_below (g := gb101) (o := .cells #[.slice A0_0 l0_0.length c0_0, .slice (some ad104) l0_1.length c0_1, .int .i64 a0_2, .bool a0_3] 35 (0, 0)) (by (with_reducible repeat (first | refine blk_drewN ?_ _ | refine blk_drew ?_ | refine blk_alloc ?_ _)); exact BK101.out) hb); have n1_ := Aside0.mk (below_step (by repeat (first | (with_reducible first | exact HB.out | apply below_alloc | apply pw_below_drewN | apply below_drew1 | refine below_set ?_ GE101.out) | exact HB.out)) hb); have n2_ := Aside0.mk (hbox); have n3_ := Aside0.mk ((by rw [hg]; exact (below_size (by repeat (first | (with_reducible first | exact HB.out | apply below_alloc | apply pw_below_drewN | apply below_drew1 | refine below_set ?_ GE101.out) | exact HB.out))) : w.heap.size ≤ gb105)); have n4_ := Aside0.mk ((by rw [hg]; exact (below_size (by repeat (first | (with_reducible first | exact HB.out | apply below_alloc | apply pw_below_drewN | apply below_drew1 | refine below_set ?_ GE101.out) | exact HB.out))) : w.heap.size ≤ gb105)); have n5_ := Aside0.mk ((by rw [hg]; exact Nat.ne_of_lt (blk_lt (g := gb101) (o := .cells #[.slice A0_0 l0_0.length c0_0, .slice (some ad104) l0_1.length c0_1, .int .i64 a0_2, .bool a0_3] 35 (0, 0)) (by (with_reducible repeat (first | refine blk_drewN ?_ _ | refine blk_drew ?_ | refine blk_alloc ?_ _)); exact BK101.out)) : gb101 ≠ gb105)); have n6_ := Aside0.mk ((by rw [hg]; exact Nat.ne_of_gt (blk_lt (g := gb101) (o := .cells #[.slice A0_0 l0_0.length c0_0, .slice (some ad104) l0_1.length c0_1, .int .i64 a0_2, .bool a0_3] 35 (0, 0)) (by (with_reducible repeat (first | refine blk_drewN ?_ _ | refine blk_drew ?_ | refine blk_alloc ?_ _)); exact BK101.out)) : gb105 ≠ gb101)); clear BK101; clear HB; have BK101 := n0_; have HB := n1_; have BK105 := n2_; have GW105 := n3_; have GE105 := n4_; have NB101_105 := n5_; have NB105_101 := n6_; clear n0_ n1_ n2_ n3_ n4_ n5_ n6_; clear hb hbox hg; have hnb43 := NB105_101.out; have hnc43 := NB101_105.out; have hcz44_0 : w42.cell? ⟨gb105, 0, none⟩ = some (.int .i64 0) := (blk_cell BK105.out 0).trans rfl; have hcz44_1 : w42.cell? ⟨gb105, 1, none⟩ = some (.slice none 0 0) := (blk_cell BK105.out 1).trans rfl; have hfz44_0 := blk_frozen BK105.out 0; have hfz44_1 := blk_frozen BK105.out 1; have hcz45_0 : w42.cell? ⟨gb101, 0, none⟩ = some (.slice A0_0 l0_0.length c0_0) := (blk_cell BK101.out 0).trans rfl; have hcz45_1 : w42.cell? ⟨gb101, 1, none⟩ = some (.slice (some ad104) l0_1.length c0_1) := (blk_cell BK101.out 1).trans rfl; have hcz45_2 : w42.cell? ⟨gb101, 2, none⟩ = some (.int .i64 a0_2) := (blk_cell BK101.out 2).trans rfl; have hcz45_3 : w42.cell? ⟨gb101, 3, none⟩ = some (.bool a0_3) := (blk_cell BK101.out 3).trans rfl; have hfz45_0 := blk_frozen BK101.out 0; have hfz45_1 := blk_frozen BK101.out 1; have hfz45_2 := blk_frozen BK101.out 2; have hfz45_3 := blk_frozen BK101.out 3) | ((with_reducible refine gate_callee (f := 68) rfl ?_); refine goesL_ (some 44) rfl rfl Try.func68 (by kernel_rfl) rfl #[.agg #[.slice A0_0 l0_0.length c0_0, .slice (some ad104) l0_1.length c0_1, .int .i64 a0_2, .bool a0_3], .int .i64 ((rd_T101 l0_1 x37_3).f0)] rfl (by (try simp only [List.map_toArray, List.map_cons, List.map_nil]); first | done | rfl | (simp only [List.length_drop, List.length_take]; rfl)) ?_; (with_reducible refine (impl_Dev_has.calls _ _ l0_0 _ _ l0_1 a0_2 a0_3 ((rd_T101 l0_1 x37_3).f0) false _ ?side1 ?side2 ?side3 ?side4 A27.out).mono ?_); (case side1 => exact Kd.C_below HR0_0.out (by repeat (first | (with_reducible first | exact HB.out | apply below_alloc | apply pw_below_drewN | apply below_drew1 | refine below_set ?_ GE101.out | refine below_set ?_ GE105.out) | exact HB.out))); (case side2 => exact HC0_0.out); (case side3 => exact Kd.C_below HR0_1.out (by repeat (first | (with_reducible first | exact HB.out | apply below_alloc | apply pw_below_drewN | apply below_drew1 | refine below_set ?_ GE101.out | refine below_set ?_ GE105.out) | exact HB.out))); (case side4 => exact HC0_1.out); rintro e w46 ⟨rfl, hb⟩; refine ⟨_, rfl, ?_⟩; have n0_ := Aside0.mk (blk_below (g := gb101) (o := .cells #[.slice A0_0 l0_0.length c0_0, .slice (some ad104) l0_1.length c0_1, .int .i64 a0_2, .bool a0_3] 35 (0, 0)) (by (with_reducible repeat (first | refine blk_drewN ?_ _ | refine blk_drew ?_ | refine blk_alloc ?_ _)); refine blk_far ?_ NB101_105.out _; (with_reducible repeat (first | refine blk_drewN ?_ _ | refine blk_drew ?_ | refine blk_alloc ?_ _)); refine blk_far ?_ NB101_105.out _; (with_reducible repeat (first | refine blk_drewN ?_ _ | refine blk_drew ?_ | refine blk_alloc ?_ _)); exact BK101.out) hb); have n1_ := Aside0.mk (blk_below (g := gb105) (o := .cells #[.int .i64 ((rd_T101 l0_1 x37_3).f0), .slice A104_1 ((rd_T101 l0_1 x37_3).f1).length c104_1] 101 (0, 0)) (by (with_reducible repeat (first | refine blk_drewN ?_ _ | refine blk_drew ?_ | refine blk_alloc ?_ _)); refine blk_put (cs := #[.int .i64 ((rd_T101 l0_1 x37_3).f0), .slice none 0 0]) ?_ 1 _ rfl; (with_reducible repeat (first | refine blk_drewN ?_ _ | refine blk_drew ?_ | refine blk_alloc ?_ _)); refine blk_put (cs := #[.int .i64 0, .slice none 0 0]) ?_ 0 _ rfl; (with_reducible repeat (first | refine blk_drewN ?_ _ | refine blk_drew ?_ | refine blk_alloc ?_ _)); exact BK105.out) hb); have n2_ := Aside0.mk (below_step (by repeat (first | (with_reducible first | exact HB.out | apply below_alloc | apply pw_below_drewN | apply below_drew1 | refine below_set ?_ GE101.out | refine below_set ?_ GE105.out) | exact HB.out)) hb); clear BK101; clear BK105; clear HB; have BK101 := n0_; have BK105 := n1_; have HB := n2_; clear n0_ n1_ n2_; (try clear hb); (try clear hb2); (try clear hk); (try clear hi)))
                          go_ret
                          exact ⟨by first | rfl | (simp [errW_none, errW_some] <;> rfl) | (simp [*, errW_none, errW_some] <;> rfl), by repeat (first | (with_reducible first | exact HB.out | apply below_alloc | apply pw_below_drewN | apply below_drew1 | refine below_set ?_ GE101.out | refine below_set ?_ GE105.out) | exact HB.out)⟩
                      · rw [if_neg c26] at H
                        exact absurd H (by simp)
                    · rw [if_neg c25] at H
                      exact absurd H (by simp)
                  · rw [if_neg c24] at H
                    have c24b0 : decide (x37_3 < (l0_1.length : Int)) = false := decide_eq_false c24
                    clear c24
                    obtain rfl := Option.some.inj H
                    go_wp2
                    go_ret
                    exact ⟨by first | rfl | (simp [errW_none, errW_some] <;> rfl) | (simp [*, errW_none, errW_some] <;> rfl), by repeat (first | (with_reducible first | exact HB.out | apply below_alloc | apply pw_below_drewN | apply below_drew1 | refine below_set ?_ GE101.out) | exact HB.out)⟩

end Go.Proofs.Ytbdbeccaopphaaa.Q
namespace Go.Proofs.Ytbdbeccaopphaaa.P
open Go.RowKit Go.Proofs.YtbdbeccaopphaaaW.PrintWords Go.Proofs.Ytbdbeccaopphaaa.Q
set_option linter.unusedVariables false
set_option linter.unusedSimpArgs false

/-- A pend of a device of n sectors. -/
def okPend (n : Nat) (p : S101) : Bool := decide (0 ≤ p.f0 ∧ p.f0 < n ∧ p.f1.length = 64)
def headDev (l0 : List Int) (l1 : List S101) (a2 : Int) : Prop := l0.length % 64 = 0 ∧ 8 ≤ l0.length / 64 ∧ l0.length / 64 ≤ 256 ∧ l1.length ≤ 1000 ∧ -1 ≤ a2 ∧ a2 ≤ 1000000
instance (l0 : List Int) (l1 : List S101) (a2 : Int) : Decidable (headDev l0 l1 a2) := by unfold headDev; infer_instance
def validDev (l0 : List Int) (l1 : List S101) (a2 : Int) : Bool := decide (headDev l0 l1 a2) && l1.all (okPend (l0.length / 64))
theorem validDev_no {l0 : List Int} {l1 : List S101} {a2 : Int} (h : ¬ headDev l0 l1 a2) : validDev l0 l1 a2 = false := by unfold validDev; rw [decide_eq_false h, Bool.false_and]
theorem validDev_yes {l0 : List Int} {l1 : List S101} {a2 : Int} (h : headDev l0 l1 a2) : validDev l0 l1 a2 = l1.all (okPend (l0.length / 64)) := by unfold validDev; rw [decide_eq_true h, Bool.true_and]
theorem validDev_is {l0 : List Int} {l1 : List S101} {a2 : Int} : validDev l0 l1 a2 = true ↔ headDev l0 l1 a2 ∧ ∀ p ∈ l1, 0 ≤ p.f0 ∧ p.f0 < (l0.length / 64 : Nat) ∧ p.f1.length = 64 := by
  unfold validDev
  rw [Bool.and_eq_true, decide_eq_true_eq, List.all_eq_true]
  simp only [okPend, decide_eq_true_eq]
theorem spec_loop_ev (l0 : List Int) (l1 : List S101) (a2 : Int) (a3 : Bool) (n : Nat) (h : l1.length ≤ 4611686018427387904) (hp : ∀ p ∈ l1, p.f1.length ≤ 9223372036854775807) :
    Ev (fun k => spec_ValidDev.l0 k (n : Int) 0 l0 l1 a2 a3) (l1.all (okPend n)) := by
  refine all_loop (fun k i => spec_ValidDev.l0 k (n : Int) i l0 l1 a2 a3) l1 (okPend n) ?_ ?_
  · intro i p hat hi
    refine ⟨0, fun k _ => ?_⟩
    simp only [spec_ValidDev.l0]
    rw [if_pos (by omega), if_pos (by omega), rdP_at hat, w64s hi h]
    by_cases h1 : p.f0 < 0
    · rw [if_pos h1, if_neg (by simp [okPend]; omega)]
    · rw [if_neg h1]
      by_cases h2 : p.f0 ≥ (n : Int)
      · rw [if_pos h2, if_neg (by simp [okPend]; omega)]
      · rw [if_neg h2]
        by_cases h3 : (p.f1.length : Int) = 64
        · rw [if_pos h3, if_pos (by simp [okPend]; omega)]
        · rw [if_neg h3, if_neg (by simp [okPend]; omega)]
  · intro k
    simp only [spec_ValidDev.l0]
    rw [if_neg (by omega)]
theorem spec_ValidDev_ev (l0 : List Int) (l1 : List S101) (a2 : Int) (a3 : Bool) (h0 : l0.length ≤ 4611686018427387904) (h : l1.length ≤ 4611686018427387904) (hp : ∀ p ∈ l1, p.f1.length ≤ 9223372036854775807) :
    Ev (fun k => spec_ValidDev.f k l0 l1 a2 a3) (validDev l0 l1 a2) := by
  have e : wrap64 ((l0.length : Int) / 64) = ((l0.length / 64 : Nat) : Int) := by rw [w64 (by omega) (by omega)]; omega
  have no : ∀ n : Int, Ev (fun k => spec_ValidDev.j0 k n true l0 l1 a2 a3) false := fun n => Ev.last ⟨0, fun k _ => by simp only [spec_ValidDev.j0]; rw [if_pos trivial]⟩
  simp only [spec_ValidDev.f, spec_l1Sectors.f, Option.bind_some, e]
  clear e
  by_cases h1 : (l0.length : Int) % 64 = 0
  · refine Ev.pos h1 ?_
    by_cases h2 : ((l0.length / 64 : Nat) : Int) < 8
    · rw [validDev_no (by unfold headDev; omega)]
      exact Ev.pos h2 (no _)
    · refine Ev.neg h2 ?_
      by_cases h3 : ((l0.length / 64 : Nat) : Int) > 256
      · rw [validDev_no (by unfold headDev; omega)]
        exact Ev.pos h3 (no _)
      · refine Ev.neg h3 ?_
        by_cases h4 : (l1.length : Int) > 1000
        · rw [validDev_no (by unfold headDev; omega)]
          exact Ev.pos h4 (no _)
        · refine Ev.neg h4 ?_
          by_cases h5 : a2 < -1
          · rw [validDev_no (by unfold headDev; omega)]
            exact Ev.pos h5 (no _)
          · refine Ev.neg h5 ?_
            by_cases h6 : a2 > 1000000
            · rw [validDev_no (by unfold headDev; omega)]
              simp only [h6, decide_true]
              exact no _
            · rw [validDev_yes (by unfold headDev; omega)]
              refine Ev.step ⟨0, fun k _ => ?_⟩ (spec_loop_ev l0 l1 a2 a3 (l0.length / 64) h hp)
              simp only [spec_ValidDev.j0]
              rw [if_neg (by simp; omega)]
  · rw [validDev_no (by unfold headDev; omega)]
    exact Ev.neg h1 (no _)
theorem impl_sectors (l0 : List Int) (l1 : List S101) (a2 : Int) (a3 : Bool) (h0 : l0.length ≤ 4611686018427387904) : impl_Dev_sectors.f l0 l1 a2 a3 = some ((l0.length / 64 : Nat) : Int) := by
  simp only [impl_Dev_sectors.f]
  rw [w64 (by omega) (by omega)]
  congr 1
theorem impl_has (l0 : List Int) (l1 : List S101) (a2 : Int) (a3 : Bool) (s : Int) (h0 : l0.length ≤ 4611686018427387904) : impl_Dev_has.f l0 l1 a2 a3 s = some (decide (0 ≤ s ∧ s < ((l0.length / 64 : Nat) : Int))) := by
  simp only [impl_Dev_has.f, impl_sectors l0 l1 a2 a3 h0, Option.bind_some]
  by_cases h : s ≥ 0
  · rw [if_pos h]
    congr 1
    rw [decide_eq_decide]
    omega
  · rw [if_neg h]
    congr 1
    rw [eq_comm, decide_eq_false_iff_not]
    omega
theorem impl_loop_ev (l0 : List Int) (l1 : List S101) (a2 : Int) (a3 : Bool) (h0 : l0.length ≤ 4611686018427387904) (h : l1.length ≤ 4611686018427387904) (hp : ∀ p ∈ l1, p.f1.length ≤ 9223372036854775807) :
    Ev (fun k => impl_ValidDev.l0 k l1 (l1.length : Int) 0 l0 l1 a2 a3) (l1.all (okPend (l0.length / 64))) := by
  refine all_loop (fun k i => impl_ValidDev.l0 k l1 (l1.length : Int) i l0 l1 a2 a3) l1 (okPend (l0.length / 64)) ?_ ?_
  · intro i p hat hi
    refine ⟨0, fun k _ => ?_⟩
    simp only [impl_ValidDev.l0]
    rw [if_pos (by omega), if_pos (by omega), if_pos (by omega), rdP_at hat, w64s hi h, impl_has l0 l1 a2 a3 _ h0]
    simp only [Option.bind_some]
    by_cases h1 : 0 ≤ p.f0 ∧ p.f0 < ((l0.length / 64 : Nat) : Int)
    · rw [decide_eq_true h1, if_pos rfl]
      by_cases h3 : (p.f1.length : Int) = 64
      · rw [if_pos h3, if_pos (by simp only [okPend, decide_eq_true_eq]; omega)]
      · rw [if_neg h3, if_neg (by simp only [okPend, decide_eq_true_eq]; omega)]
    · rw [decide_eq_false h1, if_neg (by simp), if_neg (by simp only [okPend, decide_eq_true_eq]; omega)]
  · intro k
    simp only [impl_ValidDev.l0]
    rw [if_neg (by omega)]
theorem impl_ValidDev_ev (l0 : List Int) (l1 : List S101) (a2 : Int) (a3 : Bool) (h0 : l0.length ≤ 4611686018427387904) (h : l1.length ≤ 4611686018427387904) (hp : ∀ p ∈ l1, p.f1.length ≤ 9223372036854775807) :
    Ev (fun k => impl_ValidDev.f k l0 l1 a2 a3) (validDev l0 l1 a2) := by
  have no : Ev (fun k => impl_ValidDev.j0 k true l0 l1 a2 a3) false := Ev.last ⟨0, fun k _ => by simp only [impl_ValidDev.j0]; rw [if_pos trivial]⟩
  have no1 : Ev (fun k => impl_ValidDev.j1 k true l0 l1 a2 a3) false := Ev.last ⟨0, fun k _ => by simp only [impl_ValidDev.j1]; rw [if_pos trivial]⟩
  simp only [impl_ValidDev.f, impl_sectors l0 l1 a2 a3 h0, Option.bind_some]
  by_cases h1 : (l0.length : Int) % 64 = 0
  · refine Ev.pos h1 ?_
    by_cases h2 : ((l0.length / 64 : Nat) : Int) < 8
    · rw [validDev_no (by unfold headDev; omega)]
      exact Ev.pos h2 no
    · refine Ev.neg h2 ?_
      by_cases h3 : ((l0.length / 64 : Nat) : Int) > 256
      · rw [validDev_no (by unfold headDev; omega)]
        simp only [h3, decide_true]
        exact no
      · simp only [h3, decide_false]
        by_cases h4 : (l1.length : Int) > 1000
        · rw [validDev_no (by unfold headDev; omega)]
          refine Ev.step ⟨0, fun k _ => ?_⟩ no1
          simp only [impl_ValidDev.j0]
          rw [if_neg (by simp), if_pos h4]
        · by_cases h5 : a2 < -1
          · rw [validDev_no (by unfold headDev; omega)]
            refine Ev.step ⟨0, fun k _ => ?_⟩ no1
            simp only [impl_ValidDev.j0]
            rw [if_neg (by simp), if_neg h4, if_pos h5]
          · by_cases h6 : a2 > 1000000
            · rw [validDev_no (by unfold headDev; omega)]
              refine Ev.step ⟨0, fun k _ => ?_⟩ no1
              simp only [impl_ValidDev.j0]
              rw [if_neg (by simp), if_neg h4, if_neg h5, decide_eq_true h6]
            · rw [validDev_yes (by unfold headDev; omega)]
              refine Ev.step (g := fun k => impl_ValidDev.j1 k false l0 l1 a2 a3) ⟨0, fun k _ => ?_⟩ (Ev.step ⟨0, fun k _ => ?_⟩ (impl_loop_ev l0 l1 a2 a3 h0 h hp))
              · simp only [impl_ValidDev.j0]
                rw [if_neg (by simp), if_neg h4, if_neg h5, decide_eq_false h6]
              · simp only [impl_ValidDev.j1]
                rw [if_neg (by simp)]
  · rw [validDev_no (by unfold headDev; omega)]
    exact Ev.neg h1 no
end Go.Proofs.Ytbdbeccaopphaaa.P
