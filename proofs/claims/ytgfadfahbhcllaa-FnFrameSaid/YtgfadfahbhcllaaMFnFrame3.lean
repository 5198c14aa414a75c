/- Part 3 of 7 of the proof that the law FnFrame returns true at every input. No further condition. -/
import Derived.Laws.CopyOwn
import Derived.Test.YtgfadfahbhcllaaWWords
import Derived.Lib.LazyBuf
import Derived.Laws.BitsLemmas
import Derived.Test.YtgfadfahbhcllaaWInv
import Derived.Test.YtgfadfahbhcllaaWNEv
import Derived.Test.YtgfadfahbhcllaaWMore
import Derived.Test.YtgfadfahbhcllaaMFnFrame2
namespace Go.Proofs.Ytgfadfahbhcllaa.Q
open Go.RowKit Go.Proofs.YtgfadfahbhcllaaW.PrintWords Go.Proofs.YtgfadfahbhcllaaW.PrintLast Go.Proofs.Ytgfadfahbhcllaa.LK Go.Proofs.YtgfadfahbhcllaaW.PrintMore
attribute [local go_sem] max2_int min2_int max_two min_two max_three min_three max_four min_four   -- for this text's walks alone
set_option linter.unusedVariables false
set_option linter.unusedSimpArgs false

/-! ### impl_put: function 88 -/
def impl_put.l0 : Nat → List Int → Int → Int → Int → Int → Option (List Int)
  | 0, _, _, _, _, _ => none
  | k + 1, x0, x1, x3, x9, x10 => if x10 < x9 then (if 0 ≤ (wrap64 (8 * x10)) then (if 0 ≤ (wrap64 (x1 + x10)) then (if (wrap64 (x1 + x10)) < (x0.length : Int) then (impl_put.l0 k (x0.set ((wrap64 (x1 + x10)) : Int).toNat ((shr .u64 x3 (wrap64 (8 * x10))) % 256)) x1 x3 x9 (wrap64 (x10 + 1))) else (none)) else (none)) else (none)) else (some x0)
def impl_put.f (k : Nat) (l0 : List Int) (a1 : Int) (a2 : Int) (a3 : Int) : Option (List Int) := impl_put.l0 k l0 a1 a3 a2 0
theorem impl_put.mono_l : ∀ k, (∀ y0 y1 y2 y3 y4, LeO (impl_put.l0 k y0 y1 y2 y3 y4) (impl_put.l0 (k + 1) y0 y1 y2 y3 y4))
  | 0 => fun _ _ _ _ _ r h => by simp [impl_put.l0] at h
  | k + 1 => by
    have ih0 := impl_put.mono_l k
    · intro y0 y1 y2 y3 y4
      unfold impl_put.l0
      repeat' first
      | (with_reducible exact ih0 _ _ _ _ _)
      | (with_reducible exact LeO.refl _)
      | (with_reducible exact LeO.none _)
      | (with_reducible refine LeO.ite ?_ ?_)
      | (with_reducible refine LeO.bind ?_ (fun _ => ?_))
      | exact ih0 _ _ _ _ _
      | exact LeO.none _
      | refine LeO.ite ?_ ?_
      | refine LeO.bind ?_ (fun _ => ?_)
theorem impl_put.mono : ∀ a0 a1 a2 a3 k, LeO (impl_put.f k a0 a1 a2 a3) (impl_put.f (k + 1) a0 a1 a2 a3) := by
  intro a0 a1 a2 a3 k
  have ih0 := impl_put.mono_l k
  unfold impl_put.f
  repeat' first
      | (with_reducible exact ih0 _ _ _ _ _)
      | (with_reducible exact LeO.refl _)
      | (with_reducible exact LeO.none _)
      | (with_reducible refine LeO.ite ?_ ?_)
      | (with_reducible refine LeO.bind ?_ (fun _ => ?_))
      | exact ih0 _ _ _ _ _
      | exact LeO.none _
      | refine LeO.ite ?_ ?_
      | refine LeO.bind ?_ (fun _ => ?_)
set_option maxHeartbeats 8000000 in
set_option maxRecDepth 100000 in
theorem impl_put.calls (k : Nat) (P0_ : Nat → Prop) (u9000_ : Value) (l0 : List Int) (a1 : Int) (a2 : Int) (a3 : Int) (r : List Int) (w0 w : World) (hB : Below w0.heap.size w0 w) (ho0 : Kd.R (Kd.int .u8) 5 w w0.heap.size P0_ u9000_ l0) (h : impl_put.f k l0 a1 a2 a3 = some r) :
    Calls Try.prog 88 #[u9000_, .int .i64 a1, .int .i64 a2, .int .u64 a3] w fun e w' => e = .returned (.tuple #[]) ∧ Kd.R (Kd.int .u8) 5 w' w0.heap.size (fun k_ => (P0_ k_ ∨ w.heap.size ≤ k_)) u9000_ r ∧ Below w0.heap.size w0 w' ∧ Kept w w' (fun k_ => P0_ k_) := by
  have HO0 := Aside0.mk (show Kd.R (Kd.int .u8) 5 w w0.heap.size (fun k_ => (P0_ k_ ∨ w.heap.size ≤ k_)) u9000_ l0 from Kd.R_mono ho0 (fun k_ hk => (.inl hk)))
  have HK := Aside0.mk (Kept.refl w (fun k_ => P0_ k_))
  have HW0 := Aside0.mk hB.size
  have HB := Aside0.mk hB
  clear hB
  have H : (impl_put.l0 k l0 a1 a3 a2 0) = some r := h
  clear h
  have H' := Aside0.mk H
  clear H
  go_enter Try.func88, Try.ntmps88
  go_wp2
  go_loopg [10] k (fun kq v10 w' => ∃ (x0_1 : List Int) (x10_1 : Int), v10 = .int .i64 x10_1 ∧ Aside0 (impl_put.l0 kq x0_1 a1 a3 a2 x10_1 = some r) ∧ Aside0 (kq ≤ k) ∧ Aside0 (Kd.R (Kd.int .u8) 5 w' w0.heap.size (fun k_ => (P0_ k_ ∨ w.heap.size ≤ k_)) u9000_ x0_1) ∧ Aside0 (Kept w w' (fun k_ => P0_ k_)) ∧ Aside0 (Below w0.heap.size w0 w'))
  case atStart => exact ⟨(l0), (0), (by first | rfl | (simp; done) | (simp [*]; done)), H', ⟨Nat.le_refl _⟩, ⟨by (with_reducible repeat (first | apply Kd.R_alloc | apply Kd.R_drewN | apply Kd.R_drew)); exact HO0.out⟩, ⟨by repeat (first | (with_reducible first | exact HK.out | apply Kept.alloc | apply Kept.drewN | apply Kept.drew) | exact HK.out)⟩, ⟨by repeat (first | (with_reducible first | exact HB.out | apply below_alloc | apply pw_below_drewN | apply below_drew1) | exact HB.out)⟩⟩
  case round =>
    clear H'
    try clear p2
    obtain ⟨x0_1, x10_1, rfl, HA, HK1, HO_0, HK, HB⟩ := hrel
    cases gk with
    | zero => exact absurd HA.out (by simp [impl_put.l0])
    | succ k1 =>
      have H := HA.out
      clear HA
      simp only [impl_put.l0] at H
      by_cases c5 : x10_1 < a2
      · rw [if_pos c5] at H
        have c5b0 : decide (x10_1 < a2) = true := decide_eq_true c5
        clear c5
        obtain ⟨ji6, hji6⟩ : ∃ j_ : Int, (wrap64 (8 * x10_1)) = j_ := ⟨_, rfl⟩
        replace H : (if 0 ≤ (ji6) then (if 0 ≤ (wrap64 (a1 + x10_1)) then (if (wrap64 (a1 + x10_1)) < (x0_1.length : Int) then (impl_put.l0 k1 (x0_1.set ((wrap64 (a1 + x10_1)) : Int).toNat ((shr .u64 a3 (ji6)) % 256)) a1 a3 a2 (wrap64 (x10_1 + 1))) else (none)) else (none)) else (none)) = some r := by first | (rw [hji6] at H; exact H) | (simp only [hji6] at H ⊢; exact H)
        have hji6w : (IntKind.i64.wrap (8 * x10_1)) = ji6 := (i64_w _).trans hji6
        by_cases c7 : 0 ≤ (ji6)
        · rw [if_pos c7] at H
          have c7b0 := eq_true c7
          have c7b1 : decide (0 ≤ (ji6)) = true := decide_eq_true c7
          clear c7
          obtain ⟨ji8, hji8⟩ : ∃ j_ : Int, (shr .u64 a3 (ji6)) = j_ := ⟨_, rfl⟩
          replace H : (if 0 ≤ (wrap64 (a1 + x10_1)) then (if (wrap64 (a1 + x10_1)) < (x0_1.length : Int) then (impl_put.l0 k1 (x0_1.set ((wrap64 (a1 + x10_1)) : Int).toNat ((ji8) % 256)) a1 a3 a2 (wrap64 (x10_1 + 1))) else (none)) else (none)) = some r := by first | (rw [hji8] at H; exact H) | (simp only [hji8] at H ⊢; exact H)
          have hji8_ : (a3 / 2 ^ min (ji6).toNat 64) = ji8 := hji8
          have hji8z : (ji6) ≤ 64 → (a3 / 2 ^ (ji6).toNat) = ji8 := shr_small hji8
          obtain ⟨ji9, hji9⟩ : ∃ j_ : Int, (wrap64 (a1 + x10_1)) = j_ := ⟨_, rfl⟩
          replace H : (if 0 ≤ (ji9) then (if (ji9) < (x0_1.length : Int) then (impl_put.l0 k1 (x0_1.set ((ji9) : Int).toNat ((ji8) % 256)) a1 a3 a2 (wrap64 (x10_1 + 1))) else (none)) else (none)) = some r := by first | (rw [hji9] at H; exact H) | (simp only [hji9] at H ⊢; exact H)
          have hji9w : (IntKind.i64.wrap (a1 + x10_1)) = ji9 := (i64_w _).trans hji9
          by_cases c10 : 0 ≤ (ji9)
          · rw [if_pos c10] at H
            have c10b0 : decide (0 ≤ (ji9)) = true := decide_eq_true c10
            clear c10
            by_cases c11 : (ji9) < (x0_1.length : Int)
            · rw [if_pos c11] at H
              have c11b0 : decide ((ji9) < (x0_1.length : Int)) = true := decide_eq_true c11
              clear c11
              obtain ⟨y101, hy101⟩ : ∃ y_ : List Int, y_ = (x0_1.set ((ji9) : Int).toNat ((ji8) % 256)) := ⟨_, rfl⟩
              replace H : (impl_put.l0 k1 y101 a1 a3 a2 (wrap64 (x10_1 + 1))) = some r := by first | (rw [hy101]; with_reducible exact H) | (have H2_ := (Option.bind_some _ _).symm.trans H; rw [hy101]; with_reducible exact H2_) | (have H2_ := (Option.bind_some _ _).symm.trans H; with_reducible exact H2_) | with_reducible exact H | (rw [hy101]; exact H) | exact H
              have Ny101 := Aside0.mk hy101
              clear hy101
              have H' := Aside0.mk H
              clear H
              have p12 : 0 ≤ ((ji9) : Int) := of_decide_eq_true (by first | (with_reducible assumption) | assumption)
              have q12 : ((ji9) : Int) < ((x0_1.length : Int) : Int) := of_decide_eq_true (by first | (with_reducible assumption) | assumption)
              obtain ⟨go12, co12, eo12, gb12, gl12, cl12, HG12⟩ := Kd.R_form HO_0.out (by omega)
              (first | cases eo12 | (injection eo12 with ea_ en_ ec_; (first | subst ea_ | (injection ea_ with ea_; subst ea_)); subst ec_; clear en_))
              have GB12 := Aside0.mk gb12
              have GG12 := Aside0.mk HG12
              clear gb12 gl12 HG12
              have HMgo12 := Aside0.mk (show (P0_ go12 ∨ w.heap.size ≤ go12) from (HO_0.out.1 _ rfl))
              obtain ⟨hx12_0, hf12_0⟩ := Kd.R_celln 0 HO_0.out ((ji9) : Int) p12 q12
              replace p12 := eq_true p12
              replace q12 := eq_true q12
              have HP13 := Kd.R_putg HO_0.out ((ji9) : Int) ((ji8) % 256)
              go_wp2_with (first | ((with_reducible refine gate_store (t := 5) (p := 22) rfl ?_); refine store_event (t := 5) (p := 22) (v := ?vo_w14) (w1 := (wr.setCell ⟨go12, ((ji9) : Int).toNat, none⟩ (.int .u8 ((ji8) % 256)))) ?hg ?ho ?hn ?hr ?_; (case ho => rfl); (case hg => rfl); (case hn => rfl); (case hr => first | (go_simp; done) | (go_simp; rfl)); intro w14 hw; have hg : wr.grownBy w14 (some go12) := (by rw [hw]; exact HP13.2); have hp_ : Kd.R (Kd.int .u8) 5 w14 w0.heap.size (fun k_ => (P0_ k_ ∨ w.heap.size ≤ k_)) (.slice (some ⟨go12, 0, none⟩) x0_1.length co12) y101 := (by rw [hw, Ny101.out]; exact HP13.1); clear HP13; have n0_ := Aside0.mk (hp_); have n1_ := Aside0.mk ((by rw [hw]; exact below_set (HB.out) GB12.out : Below w0.heap.size w0 w14)); have n2_ := Aside0.mk (Kept.of_grown (S := (fun k_ => P0_ k_)) hg (by repeat (first | (with_reducible first | exact HK.out | apply Kept.alloc | apply Kept.drewN | apply Kept.drew) | exact HK.out)) (fun k_ e_ => (HO_0.out.1 k_ e_))); clear HO_0; clear HB; clear HK; have HO_0 := n0_; have HB := n1_; have HK := n2_; clear n0_ n1_ n2_; clear hg hw hp_))
              go_roundg k1
              case measure => have := HK1.out; omega
              case rel => exact ⟨(y101), (wrap64 (x10_1 + 1)), (by first | rfl | (simp; done) | (simp [*]; done)), H', ⟨by have := HK1.out; omega⟩, ⟨by (with_reducible repeat (first | apply Kd.R_alloc | apply Kd.R_drewN | apply Kd.R_drew)); exact HO_0.out⟩, ⟨by repeat (first | (with_reducible first | exact HK.out | apply Kept.alloc | apply Kept.drewN | apply Kept.drew) | exact HK.out)⟩, ⟨by repeat (first | (with_reducible first | exact HB.out | apply below_alloc | apply pw_below_drewN | apply below_drew1) | exact HB.out)⟩⟩
            · rw [if_neg c11] at H
              exact absurd H (by simp)
          · rw [if_neg c10] at H
            exact absurd H (by simp)
        · rw [if_neg c7] at H
          exact absurd H (by simp)
      · rw [if_neg c5] at H
        have c5b0 : decide (x10_1 < a2) = false := decide_eq_false c5
        clear c5
        obtain rfl := Option.some.inj H
        go_wp2
        first | go_end0 | ((try simp only [Exit.inBlock, Exit.then]); refine bodyPost_ret (results_none rfl _ _ _) rfl ?_)
        exact ⟨by first | rfl | (simp [errW_none, errW_some] <;> rfl) | (simp [*, errW_none, errW_some] <;> rfl), by (with_reducible repeat (first | apply Kd.R_alloc | apply Kd.R_drewN | apply Kd.R_drew)); exact HO_0.out, by repeat (first | (with_reducible first | exact HB.out | apply below_alloc | apply pw_below_drewN | apply below_drew1) | exact HB.out), by repeat (first | (with_reducible first | exact HK.out | apply Kept.alloc | apply Kept.drewN | apply Kept.drew) | exact HK.out)⟩

end Go.Proofs.Ytgfadfahbhcllaa.Q
namespace Go.Proofs.Ytgfadfahbhcllaa.Q
open Go.RowKit Go.Proofs.YtgfadfahbhcllaaW.PrintWords Go.Proofs.YtgfadfahbhcllaaW.PrintLast Go.Proofs.Ytgfadfahbhcllaa.LK Go.Proofs.YtgfadfahbhcllaaW.PrintMore
attribute [local go_sem] max2_int min2_int max_two min_two max_three min_three max_four min_four   -- for this text's walks alone
set_option linter.unusedVariables false
set_option linter.unusedSimpArgs false

set_option maxHeartbeats 8000000 in
set_option maxRecDepth 100000 in
theorem impl_put.callsE {e_ : Nat} (k : Nat) (P0_ : Nat → Prop) (u9000_ : Value) (l0 : List Int) (a1 : Int) (a2 : Int) (a3 : Int) (r : List Int) (w0 w : World) (hB : Below w0.heap.size w0 w) (ho0 : Kd.R (Kd.int .u8) e_ w w0.heap.size P0_ u9000_ l0) (h : impl_put.f k l0 a1 a2 a3 = some r) :
    Calls Try.prog 88 #[u9000_, .int .i64 a1, .int .i64 a2, .int .u64 a3] w fun e w' => e = .returned (.tuple #[]) ∧ Kd.R (Kd.int .u8) e_ w' w0.heap.size (fun k_ => (P0_ k_ ∨ w.heap.size ≤ k_)) u9000_ r ∧ Below w0.heap.size w0 w' ∧ Kept w w' (fun k_ => P0_ k_) := by
  have HO0 := Aside0.mk (show Kd.R (Kd.int .u8) e_ w w0.heap.size (fun k_ => (P0_ k_ ∨ w.heap.size ≤ k_)) u9000_ l0 from Kd.R_mono ho0 (fun k_ hk => (.inl hk)))
  have HK := Aside0.mk (Kept.refl w (fun k_ => P0_ k_))
  have HW0 := Aside0.mk hB.size
  have HB := Aside0.mk hB
  clear hB
  have H : (impl_put.l0 k l0 a1 a3 a2 0) = some r := h
  clear h
  have H' := Aside0.mk H
  clear H
  go_enter Try.func88, Try.ntmps88
  go_wp2
  go_loopg [10] k (fun kq v10 w' => ∃ (x0_1 : List Int) (x10_1 : Int), v10 = .int .i64 x10_1 ∧ Aside0 (impl_put.l0 kq x0_1 a1 a3 a2 x10_1 = some r) ∧ Aside0 (kq ≤ k) ∧ Aside0 (Kd.R (Kd.int .u8) e_ w' w0.heap.size (fun k_ => (P0_ k_ ∨ w.heap.size ≤ k_)) u9000_ x0_1) ∧ Aside0 (Kept w w' (fun k_ => P0_ k_)) ∧ Aside0 (Below w0.heap.size w0 w'))
  case atStart => exact ⟨(l0), (0), (by first | rfl | (simp; done) | (simp [*]; done)), H', ⟨Nat.le_refl _⟩, ⟨by (with_reducible repeat (first | apply Kd.R_alloc | apply Kd.R_drewN | apply Kd.R_drew)); exact HO0.out⟩, ⟨by repeat (first | (with_reducible first | exact HK.out | apply Kept.alloc | apply Kept.drewN | apply Kept.drew) | exact HK.out)⟩, ⟨by repeat (first | (with_reducible first | exact HB.out | apply below_alloc | apply pw_below_drewN | apply below_drew1) | exact HB.out)⟩⟩
  case round =>
    clear H'
    try clear p2
    obtain ⟨x0_1, x10_1, rfl, HA, HK1, HO_0, HK, HB⟩ := hrel
    cases gk with
    | zero => exact absurd HA.out (by simp [impl_put.l0])
    | succ k1 =>
      have H := HA.out
      clear HA
      simp only [impl_put.l0] at H
      by_cases c5 : x10_1 < a2
      · rw [if_pos c5] at H
        have c5b0 : decide (x10_1 < a2) = true := decide_eq_true c5
        clear c5
        obtain ⟨ji6, hji6⟩ : ∃ j_ : Int, (wrap64 (8 * x10_1)) = j_ := ⟨_, rfl⟩
        replace H : (if 0 ≤ (ji6) then (if 0 ≤ (wrap64 (a1 + x10_1)) then (if (wrap64 (a1 + x10_1)) < (x0_1.length : Int) then (impl_put.l0 k1 (x0_1.set ((wrap64 (a1 + x10_1)) : Int).toNat ((shr .u64 a3 (ji6)) % 256)) a1 a3 a2 (wrap64 (x10_1 + 1))) else (none)) else (none)) else (none)) = some r := by first | (rw [hji6] at H; exact H) | (simp only [hji6] at H ⊢; exact H)
        have hji6w : (IntKind.i64.wrap (8 * x10_1)) = ji6 := (i64_w _).trans hji6
        by_cases c7 : 0 ≤ (ji6)
        · rw [if_pos c7] at H
          have c7b0 := eq_true c7
          have c7b1 : decide (0 ≤ (ji6)) = true := decide_eq_true c7
          clear c7
          obtain ⟨ji8, hji8⟩ : ∃ j_ : Int, (shr .u64 a3 (ji6)) = j_ := ⟨_, rfl⟩
          replace H : (if 0 ≤ (wrap64 (a1 + x10_1)) then (if (wrap64 (a1 + x10_1)) < (x0_1.length : Int) then (impl_put.l0 k1 (x0_1.set ((wrap64 (a1 + x10_1)) : Int).toNat ((ji8) % 256)) a1 a3 a2 (wrap64 (x10_1 + 1))) else (none)) else (none)) = some r := by first | (rw [hji8] at H; exact H) | (simp only [hji8] at H ⊢; exact H)
          have hji8_ : (a3 / 2 ^ min (ji6).toNat 64) = ji8 := hji8
          have hji8z : (ji6) ≤ 64 → (a3 / 2 ^ (ji6).toNat) = ji8 := shr_small hji8
          obtain ⟨ji9, hji9⟩ : ∃ j_ : Int, (wrap64 (a1 + x10_1)) = j_ := ⟨_, rfl⟩
          replace H : (if 0 ≤ (ji9) then (if (ji9) < (x0_1.length : Int) then (impl_put.l0 k1 (x0_1.set ((ji9) : Int).toNat ((ji8) % 256)) a1 a3 a2 (wrap64 (x10_1 + 1))) else (none)) else (none)) = some r := by first | (rw [hji9] at H; exact H) | (simp only [hji9] at H ⊢; exact H)
          have hji9w : (IntKind.i64.wrap (a1 + x10_1)) = ji9 := (i64_w _).trans hji9
          by_cases c10 : 0 ≤ (ji9)
          · rw [if_pos c10] at H
            have c10b0 : decide (0 ≤ (ji9)) = true := decide_eq_true c10
            clear c10
            by_cases c11 : (ji9) < (x0_1.length : Int)
            · rw [if_pos c11] at H
              have c11b0 : decide ((ji9) < (x0_1.length : Int)) = true := decide_eq_true c11
              clear c11
              obtain ⟨y101, hy101⟩ : ∃ y_ : List Int, y_ = (x0_1.set ((ji9) : Int).toNat ((ji8) % 256)) := ⟨_, rfl⟩
              replace H : (impl_put.l0 k1 y101 a1 a3 a2 (wrap64 (x10_1 + 1))) = some r := by first | (rw [hy101]; with_reducible exact H) | (have H2_ := (Option.bind_some _ _).symm.trans H; rw [hy101]; with_reducible exact H2_) | (have H2_ := (Option.bind_some _ _).symm.trans H; with_reducible exact H2_) | with_reducible exact H | (rw [hy101]; exact H) | exact H
              have Ny101 := Aside0.mk hy101
              clear hy101
              have H' := Aside0.mk H
              clear H
              have p12 : 0 ≤ ((ji9) : Int) := of_decide_eq_true (by first | (with_reducible assumption) | assumption)
              have q12 : ((ji9) : Int) < ((x0_1.length : Int) : Int) := of_decide_eq_true (by first | (with_reducible assumption) | assumption)
              obtain ⟨go12, co12, eo12, gb12, gl12, cl12, HG12⟩ := Kd.R_form HO_0.out (by omega)
              (first | cases eo12 | (injection eo12 with ea_ en_ ec_; (first | subst ea_ | (injection ea_ with ea_; subst ea_)); subst ec_; clear en_))
              have GB12 := Aside0.mk gb12
              have GG12 := Aside0.mk HG12
              clear gb12 gl12 HG12
              have HMgo12 := Aside0.mk (show (P0_ go12 ∨ w.heap.size ≤ go12) from (HO_0.out.1 _ rfl))
              obtain ⟨hx12_0, hf12_0⟩ := Kd.R_celln 0 HO_0.out ((ji9) : Int) p12 q12
              replace p12 := eq_true p12
              replace q12 := eq_true q12
              have HP13 := Kd.R_putg HO_0.out ((ji9) : Int) ((ji8) % 256)
              go_wp2_with (first | ((with_reducible refine gate_store (t := 5) (p := 22) rfl ?_); refine store_event (t := 5) (p := 22) (v := ?vo_w14) (w1 := (wr.setCell ⟨go12, ((ji9) : Int).toNat, none⟩ (.int .u8 ((ji8) % 256)))) ?hg ?ho ?hn ?hr ?_; (case ho => rfl); (case hg => rfl); (case hn => rfl); (case hr => first | (go_simp; done) | (go_simp; rfl)); intro w14 hw; have hg : wr.grownBy w14 (some go12) := (by rw [hw]; exact HP13.2); have hp_ : Kd.R (Kd.int .u8) e_ w14 w0.heap.size (fun k_ => (P0_ k_ ∨ w.heap.size ≤ k_)) (.slice (some ⟨go12, 0, none⟩) x0_1.length co12) y101 := (by rw [hw, Ny101.out]; exact HP13.1); clear HP13; have n0_ := Aside0.mk (hp_); have n1_ := Aside0.mk ((by rw [hw]; exact below_set (HB.out) GB12.out : Below w0.heap.size w0 w14)); have n2_ := Aside0.mk (Kept.of_grown (S := (fun k_ => P0_ k_)) hg (by repeat (first | (with_reducible first | exact HK.out | apply Kept.alloc | apply Kept.drewN | apply Kept.drew) | exact HK.out)) (fun k_ e_ => (HO_0.out.1 k_ e_))); clear HO_0; clear HB; clear HK; have HO_0 := n0_; have HB := n1_; have HK := n2_; clear n0_ n1_ n2_; clear hg hw hp_))
              go_roundg k1
              case measure => have := HK1.out; omega
              case rel => exact ⟨(y101), (wrap64 (x10_1 + 1)), (by first | rfl | (simp; done) | (simp [*]; done)), H', ⟨by have := HK1.out; omega⟩, ⟨by (with_reducible repeat (first | apply Kd.R_alloc | apply Kd.R_drewN | apply Kd.R_drew)); exact HO_0.out⟩, ⟨by repeat (first | (with_reducible first | exact HK.out | apply Kept.alloc | apply Kept.drewN | apply Kept.drew) | exact HK.out)⟩, ⟨by repeat (first | (with_reducible first | exact HB.out | apply below_alloc | apply pw_below_drewN | apply below_drew1) | exact HB.out)⟩⟩
            · rw [if_neg c11] at H
              exact absurd H (by simp)
          · rw [if_neg c10] at H
            exact absurd H (by simp)
        · rw [if_neg c7] at H
          exact absurd H (by simp)
      · rw [if_neg c5] at H
        have c5b0 : decide (x10_1 < a2) = false := decide_eq_false c5
        clear c5
        obtain rfl := Option.some.inj H
        go_wp2
        first | go_end0 | ((try simp only [Exit.inBlock, Exit.then]); refine bodyPost_ret (results_none rfl _ _ _) rfl ?_)
        exact ⟨by first | rfl | (simp [errW_none, errW_some] <;> rfl) | (simp [*, errW_none, errW_some] <;> rfl), by (with_reducible repeat (first | apply Kd.R_alloc | apply Kd.R_drewN | apply Kd.R_drew)); exact HO_0.out, by repeat (first | (with_reducible first | exact HB.out | apply below_alloc | apply pw_below_drewN | apply below_drew1) | exact HB.out), by repeat (first | (with_reducible first | exact HK.out | apply Kept.alloc | apply Kept.drewN | apply Kept.drew) | exact HK.out)⟩

end Go.Proofs.Ytgfadfahbhcllaa.Q
namespace Go.Proofs.Ytgfadfahbhcllaa.LK
open Go.RowKit Go.Proofs.YtgfadfahbhcllaaW.PrintWords Go.Proofs.YtgfadfahbhcllaaW.PrintLast
set_option linter.unusedVariables false

/-- The blocks of l hold what l tells, and were made since w0; what w0 had is as it was. -/
structure Bx (w0 : World) (l : List (Nat × Array Value × Nat)) (W : World) : Prop where
  below : Below w0.heap.size w0 W
  at_ : ∀ b ∈ l, w0.heap.size ≤ b.1 ∧ W.heap[b.1]? = some (.cells b.2.1 b.2.2 (0, 0))
  once : (l.map (·.1)).Nodup
section
variable {w0 W W' : World} {l l1 l2 : List (Nat × Array Value × Nat)} {g t : Nat} {cs cs' : Array Value}
theorem Bx.refl (w : World) : Bx w [] w := ⟨Below.refl _ _, by simp, by simp⟩
theorem Bx.of {w0 W : World} (h : Below w0.heap.size w0 W) : Bx w0 [] W := ⟨h, by simp, by simp⟩
theorem Bx.new (h : Bx w0 l W) (hg : g = W.heap.size) (hb : W'.heap[g]? = some (.cells cs t (0, 0))) (hs : Below W.heap.size W W') : Bx w0 ((g, cs, t) :: l) W' := by
  refine ⟨below_step h.below hs, fun b hm => ?_, ?_⟩
  · rcases List.mem_cons.1 hm with rfl | hm
    · exact ⟨hg ▸ h.below.size, hb⟩
    · have h1 := h.at_ b hm
      exact ⟨h1.1, (hs.block _ (blk_lt h1.2)).trans h1.2⟩
  · rw [List.map_cons, List.nodup_cons]
    refine ⟨fun hm => ?_, h.once⟩
    obtain ⟨b, hb1, hb2⟩ := List.mem_map.1 hm
    have h2 : b.1 = g := hb2
    have := blk_lt (h.at_ b hb1).2
    omega
theorem Bx.step (h : Bx w0 l W) (hs : Below W.heap.size W W') : Bx w0 l W' :=
  ⟨below_step h.below hs, fun b hm => ⟨(h.at_ b hm).1, (hs.block _ (blk_lt (h.at_ b hm).2)).trans (h.at_ b hm).2⟩, h.once⟩
theorem Bx.drew (h : Bx w0 l W) : Bx w0 l W.drew := ⟨below_drew1 h.below, h.at_, h.once⟩
/-- A step that changes blocks of S alone, none of them in l and none of w0's. -/
theorem Bx.stp {S : Nat → Prop} (h : Bx w0 l W) (hs : Stp S W W') (h0 : ∀ k, S k → w0.heap.size ≤ k) (hl : ∀ b ∈ l, ¬ S b.1) : Bx w0 l W' :=
  ⟨⟨hs.os.trans h.below.os, hs.tape.trans h.below.tape, hs.output.trans h.below.output, Nat.le_trans h.below.size hs.size, fun i hi => (hs.block i (Nat.lt_of_lt_of_le hi h.below.size) (fun hk => by have := h0 i hk; omega)).trans (h.below.block i hi)⟩,
    fun b hm => ⟨(h.at_ b hm).1, (hs.block _ (blk_lt (h.at_ b hm).2) (hl b hm)).trans (h.at_ b hm).2⟩, h.once⟩
theorem Bx.write' (h : Bx w0 (l1 ++ (g, cs, t) :: l2) W) (hb : W'.heap[g]? = some (.cells cs' t (0, 0))) (hs : Stp (fun k => k = g) W W') : Bx w0 (l1 ++ (g, cs', t) :: l2) W' := by
  have hg := h.at_ (g, cs, t) (by simp)
  have hone : ∀ b ∈ l1 ++ l2, b.1 ≠ g := by
    intro b hm
    have h1 := h.once
    rw [List.map_append, List.map_cons] at h1
    have h2 := (List.perm_middle (a := g) (l₁ := l1.map (·.1)) (l₂ := l2.map (·.1))).nodup_iff.1 h1
    rw [List.nodup_cons, ← List.map_append] at h2
    exact fun he => h2.1 (List.mem_map.2 ⟨b, hm, he⟩)
  refine ⟨⟨hs.os.trans h.below.os, hs.tape.trans h.below.tape, hs.output.trans h.below.output, Nat.le_trans h.below.size hs.size, fun i hi => (hs.block i (Nat.lt_of_lt_of_le hi h.below.size) (fun hk => by have := hg.1; have h3 : i = g := hk; simp only at this; omega)).trans (h.below.block i hi)⟩, fun b hm => ?_, ?_⟩
  · rcases List.mem_append.1 hm with hm | hm
    · have h1 := h.at_ b (List.mem_append_left _ hm)
      exact ⟨h1.1, (hs.block _ (blk_lt h1.2) (hone b (List.mem_append_left _ hm))).trans h1.2⟩
    · rcases List.mem_cons.1 hm with rfl | hm
      · exact ⟨hg.1, hb⟩
      · have h1 := h.at_ b (List.mem_append_right _ (List.mem_cons_of_mem _ hm))
        exact ⟨h1.1, (hs.block _ (blk_lt h1.2) (hone b (List.mem_append_right _ hm))).trans h1.2⟩
  · have h1 := h.once
    rw [List.map_append, List.map_cons] at h1 ⊢
    exact h1
theorem Bx.wr0 {l : List (Nat × Array Value × Nat)} (h : Bx w0 ((g, cs, t) :: l) W) (hb : W'.heap[g]? = some (.cells cs' t (0, 0))) (hs : Stp (fun k => k = g) W W') : Bx w0 ((g, cs', t) :: l) W' := Bx.write' (l1 := []) h hb hs
theorem Bx.wr1 {l : List (Nat × Array Value × Nat)} {a : Nat × Array Value × Nat} (h : Bx w0 (a :: (g, cs, t) :: l) W) (hb : W'.heap[g]? = some (.cells cs' t (0, 0))) (hs : Stp (fun k => k = g) W W') : Bx w0 (a :: (g, cs', t) :: l) W' := Bx.write' (l1 := [a]) h hb hs
theorem Bx.wr2 {l : List (Nat × Array Value × Nat)} {a b : Nat × Array Value × Nat} (h : Bx w0 (a :: b :: (g, cs, t) :: l) W) (hb : W'.heap[g]? = some (.cells cs' t (0, 0))) (hs : Stp (fun k => k = g) W W') : Bx w0 (a :: b :: (g, cs', t) :: l) W' := Bx.write' (l1 := [a, b]) h hb hs
theorem Bx.wr3 {l : List (Nat × Array Value × Nat)} {a b c : Nat × Array Value × Nat} (h : Bx w0 (a :: b :: c :: (g, cs, t) :: l) W) (hb : W'.heap[g]? = some (.cells cs' t (0, 0))) (hs : Stp (fun k => k = g) W W') : Bx w0 (a :: b :: c :: (g, cs', t) :: l) W' := Bx.write' (l1 := [a, b, c]) h hb hs
theorem Bx.gt0 (h : Bx w0 ((g, cs, t) :: l) W) : W.heap[g]? = some (.cells cs t (0, 0)) := (h.at_ (g, cs, t) (by simp)).2
theorem Bx.gt1 {a : Nat × Array Value × Nat} (h : Bx w0 (a :: (g, cs, t) :: l) W) : W.heap[g]? = some (.cells cs t (0, 0)) := (h.at_ (g, cs, t) (by simp)).2
theorem Bx.gt2 {a b : Nat × Array Value × Nat} (h : Bx w0 (a :: b :: (g, cs, t) :: l) W) : W.heap[g]? = some (.cells cs t (0, 0)) := (h.at_ (g, cs, t) (by simp)).2
theorem Bx.gt3 {a b c : Nat × Array Value × Nat} (h : Bx w0 (a :: b :: c :: (g, cs, t) :: l) W) : W.heap[g]? = some (.cells cs t (0, 0)) := (h.at_ (g, cs, t) (by simp)).2
theorem Bx.gt4 {a b c d : Nat × Array Value × Nat} (h : Bx w0 (a :: b :: c :: d :: (g, cs, t) :: l) W) : W.heap[g]? = some (.cells cs t (0, 0)) := (h.at_ (g, cs, t) (by simp)).2
theorem Bx.gt5 {a b c d e : Nat × Array Value × Nat} (h : Bx w0 (a :: b :: c :: d :: e :: (g, cs, t) :: l) W) : W.heap[g]? = some (.cells cs t (0, 0)) := (h.at_ (g, cs, t) (by simp)).2
theorem Bx.wr4 {l : List (Nat × Array Value × Nat)} {a b c d : Nat × Array Value × Nat} (h : Bx w0 (a :: b :: c :: d :: (g, cs, t) :: l) W) (hb : W'.heap[g]? = some (.cells cs' t (0, 0))) (hs : Stp (fun k => k = g) W W') : Bx w0 (a :: b :: c :: d :: (g, cs', t) :: l) W' := Bx.write' (l1 := [a, b, c, d]) h hb hs
theorem Bx.tail {a : Nat × Array Value × Nat} (h : Bx w0 (a :: l) W) : Bx w0 l W := ⟨h.below, fun b hm => h.at_ b (List.mem_cons_of_mem _ hm), by have := h.once; rw [List.map_cons, List.nodup_cons] at this; exact this.2⟩
variable {α : Type} {d : Kd α} {e b : Nat} {ok : Nat → Prop} {v : Value} {xs : List α}
/-- A block below a row's base is written. -/
theorem R_away (h : d.R e W b ok v xs) (hs : Stp (fun k => k = g) W W') (hg : g < b) : d.R e W' b ok v xs :=
  Kd.R_mono (Kd.R_step (Kd.R_bound h) (fun k hk hlt => hs.block k hlt (fun he => by have := hk.2.1; have h2 : k = g := he; omega))) (fun _ hk => hk.1)
theorem S_away (h : d.S e W b ok v xs) (hs : Stp (fun k => k = g) W W') (hg : g < b) : d.S e W' b ok v xs :=
  Kd.S_mono (Kd.S_step (Kd.S_bound h) (fun k hk hlt => hs.block k hlt (fun he => by have := hk.2.1; have h2 : k = g := he; omega))) (fun _ hk => hk.1)
/-- A block of another type is written. -/
theorem R_other (h : d.R e W b ok v xs) (hb : W.heap[g]? = some (.cells cs t (0, 0))) (ht : ∀ q, q ∈ e :: d.E → q ≠ t) (hs : Stp (fun k => k = g) W W') : d.R e W' b ok v xs :=
  Kd.R_mono (Kd.R_step (Kd.R_types h hb ht) (fun k hk hlt => hs.block k hlt (fun he => hk.2 he))) (fun _ hk => hk.1)
theorem S_other (h : d.S e W b ok v xs) (hb : W.heap[g]? = some (.cells cs t (0, 0))) (ht : ∀ q, q ∈ e :: d.E → q ≠ t) (hs : Stp (fun k => k = g) W W') : d.S e W' b ok v xs :=
  Kd.S_mono (Kd.S_step (Kd.S_types h hb ht) (fun k hk hlt => hs.block k hlt (fun he => hk.2 he))) (fun _ hk => hk.1)
end
end Go.Proofs.Ytgfadfahbhcllaa.LK
namespace Go.Proofs.Ytgfadfahbhcllaa.Q
open Go.RowKit Go.Proofs.YtgfadfahbhcllaaW.PrintWords Go.Proofs.YtgfadfahbhcllaaW.PrintLast Go.Proofs.YtgfadfahbhcllaaW.PrintMore Go.Proofs.Ytgfadfahbhcllaa.LK
set_option linter.unusedVariables false
set_option linter.unusedSimpArgs false
def bytesV (l : List Int) : List Value := l.map (Value.int .u8)
theorem bytesV_length (l : List Int) : (bytesV l).length = l.length := by unfold bytesV; exact List.length_map ..
theorem bytesV_one (l : List Int) : ∀ v ∈ bytesV l, v.oneCell' = true := by
  intro v hv
  unfold bytesV at hv
  obtain ⟨x, _, rfl⟩ := List.mem_map.1 hv
  rfl
/-- The bytes that a slice leads to, cell by cell. -/
theorem bytes_at {w : World} {A : Option Addr} {l : List Int} (h : Kd.C (Kd.int .u8) w A l.length l) : 0 < l.length → ∃ ad, A = some ad ∧ ∀ j v, (bytesV l)[j]? = some v → w.cell? (ad.add j) = some v := by
  intro hp
  obtain ⟨_, _, h3⟩ := Kd.reads_of_C (enc := Value.int .u8) (d := (0 : Int)) (h1 := fun _ => rfl) h
  obtain ⟨ad, e, hc⟩ := h3 hp
  refine ⟨ad, e, fun j v hv => ?_⟩
  unfold bytesV at hv
  rw [List.getElem?_map] at hv
  obtain ⟨x, hx, rfl⟩ := Option.map_eq_some_iff.1 hv
  have hj := (List.getElem?_eq_some_iff.1 hx).1
  rw [hc j hj, List.getD_eq_getElem?_getD, hx]
  rfl
/-- A whole array is a row. -/
theorem R_arr {w : World} {base g t : Nat} {l : List Int} (hb : w.heap[g]? = some (.cells (bytesV l).toArray t (0, 0))) (hg : base ≤ g) (hl : l.length ≤ 9223372036854775807) : Kd.R (Kd.int .u8) t w base (fun _ => True) (.slice (some ⟨g, 0, none⟩) l.length l.length) l := by
  refine ⟨fun _ _ => trivial, bytesV l, ⟨?_, .inr ⟨g, l.length, (bytesV l).toArray, rfl, hg, hb, Nat.le_refl _, by unfold maxLen; exact hl, ?_, ?_⟩⟩, ?_⟩
  · rw [bytesV_length]; exact (Nat.mul_one _).symm
  · rw [List.size_toArray, bytesV_length]; exact (Nat.mul_one _).symm
  · show (bytesV l).take (l.length * 1) = bytesV l
    rw [Nat.mul_one, List.take_of_length_le (by rw [bytesV_length]; exact Nat.le_refl _)]
  · refine ⟨by rw [bytesV_length]; exact (Nat.mul_one _).symm, fun j p hj => ?_⟩
    show ((bytesV l).drop (j * 1)).take 1 = [.int .u8 p]
    obtain ⟨hj1, rfl⟩ := List.getElem?_eq_some_iff.1 hj
    unfold bytesV
    rw [Nat.mul_one, ← List.map_drop, ← List.map_take, List.drop_eq_getElem_cons hj1]
    rfl
theorem bytesV_append (l m : List Int) : bytesV (l ++ m) = bytesV l ++ bytesV m := by unfold bytesV; exact List.map_append
theorem bytesV_splice (l m : List Int) (tl : List Value) (o : Nat) (h : o + m.length ≤ l.length) : splice (bytesV l ++ tl) o (bytesV m) = bytesV (splice l o m) ++ tl := by
  unfold splice
  rw [List.take_append_of_le_length (by rw [bytesV_length]; omega), bytesV_length, List.drop_append_of_le_length (by rw [bytesV_length]; omega), bytesV_append, bytesV_append]
  unfold bytesV
  rw [List.map_take, List.map_drop, List.append_assoc, List.append_assoc]
/-- A row of one's own that has an element is a block from its first cell on. -/
theorem R_block {w : World} {base e n c : Nat} {ok : Nat → Prop} {A : Option Addr} {l : List Int} (h : Kd.R (Kd.int .u8) e w base ok (.slice A n c) l) (hp : 0 < l.length) :
    ∃ (B : Nat) (tl : List Value), A = some ⟨B, 0, none⟩ ∧ n = l.length ∧ c = l.length + tl.length ∧ base ≤ B ∧ ok B ∧ B < w.heap.size ∧ w.heap[B]? = some (.cells (bytesV l ++ tl).toArray e (0, 0)) ∧ c ≤ 9223372036854775807 := by
  obtain ⟨h0, inner, ⟨hn, ho⟩, hl, hi⟩ := h
  have ei : inner = bytesV l := by
    refine List.ext_getElem? (fun j => ?_)
    by_cases hj : j < l.length
    · have h1 := hi j l[j] (List.getElem?_eq_getElem hj)
      have h2 : (inner.drop (j * 1)).take 1 = [.int .u8 l[j]] := h1
      rw [Nat.mul_one] at h2
      have h3 : j < inner.length := by rw [hl]; show j < l.length * 1; omega
      rw [List.drop_eq_getElem_cons h3, List.take_succ_cons, List.take_zero] at h2
      injection h2 with h2 _
      rw [List.getElem?_eq_getElem h3, h2]
      unfold bytesV
      rw [List.getElem?_map, List.getElem?_eq_getElem hj]
      rfl
    · rw [List.getElem?_eq_none (by rw [hl]; show l.length * 1 ≤ j; omega), List.getElem?_eq_none (by rw [bytesV_length]; omega)]
  rcases ho with ⟨ho, he⟩ | ⟨g, cap, cur, ho, hg, hh, hc, hm, hsz, htk⟩
  · omega
  · injection ho with a1 a2 a3
    subst a1 a2 a3
    have hs2 : cur.size = c := by rw [hsz]; exact Nat.mul_one _
    have e2 : cur.toList = bytesV l ++ cur.toList.drop l.length := by
      rw [← ei, ← htk]
      rw [show l.length * (Kd.int .u8).sz = l.length from Nat.mul_one _]
      exact (List.take_append_drop _ _).symm
    refine ⟨g, cur.toList.drop l.length, rfl, rfl, ?_, hg, h0 g rfl, blk_lt hh, ?_, hm⟩
    · show c = l.length + (cur.toList.drop l.length).length
      have h9 : cur.toList.length = cur.size := rfl
      rw [List.length_drop]; omega
    · rw [← e2]; exact hh
theorem R_of_block {w : World} {base B e : Nat} {l : List Int} {tl : List Value} (hb : w.heap[B]? = some (.cells (bytesV l ++ tl).toArray e (0, 0))) (hg : base ≤ B) (hm : l.length + tl.length ≤ 9223372036854775807) :
    Kd.R (Kd.int .u8) e w base (fun k => k = B) (.slice (some ⟨B, 0, none⟩) l.length (l.length + tl.length)) l := by
  refine ⟨fun k hk => ?_, bytesV l, ⟨?_, .inr ⟨B, l.length + tl.length, (bytesV l ++ tl).toArray, rfl, hg, hb, Nat.le_add_right _ _, hm, ?_, ?_⟩⟩, ?_⟩
  · have : some B = some k := hk
    injection this with this
    exact this.symm
  · rw [bytesV_length]; exact (Nat.mul_one _).symm
  · rw [List.size_toArray, List.length_append, bytesV_length]; exact (Nat.mul_one _).symm
  · show (bytesV l ++ tl).take (l.length * 1) = bytesV l
    rw [Nat.mul_one, List.take_append_of_le_length (by rw [bytesV_length]; exact Nat.le_refl _), List.take_of_length_le (by rw [bytesV_length]; exact Nat.le_refl _)]
  · refine ⟨by rw [bytesV_length]; exact (Nat.mul_one _).symm, fun j p hj => ?_⟩
    show ((bytesV l).drop (j * 1)).take 1 = [.int .u8 p]
    obtain ⟨hj1, rfl⟩ := List.getElem?_eq_some_iff.1 hj
    unfold bytesV
    rw [Nat.mul_one, ← List.map_drop, ← List.map_take, List.drop_eq_getElem_cons hj1]
    rfl
theorem below_stp {w0 W W' : World} {S : Nat → Prop} (h : Below w0.heap.size w0 W) (s : Stp S W W') (hn : ∀ k, S k → w0.heap.size ≤ k) : Below w0.heap.size w0 W' :=
  ⟨s.os.trans h.os, s.tape.trans h.tape, s.output.trans h.output, Nat.le_trans h.size s.size, fun i hi => (s.block i (Nat.lt_of_lt_of_le hi h.size) (fun hk => by have := hn i hk; omega)).trans (h.block i hi)⟩
/-- A block that is there already is told with the others. -/
theorem Bx_add {w0 W : World} {l : List (Nat × Array Value × Nat)} {B t : Nat} {cs : Array Value} (h : Bx w0 l W) (hB : w0.heap.size ≤ B) (hb : W.heap[B]? = some (.cells cs t (0, 0))) (hf : ∀ b ∈ l, b.1 ≠ B) : Bx w0 ((B, cs, t) :: l) W := by
  refine ⟨h.below, fun b hm => ?_, ?_⟩
  · rcases List.mem_cons.1 hm with rfl | hm
    · exact ⟨hB, hb⟩
    · exact h.at_ b hm
  · rw [List.map_cons, List.nodup_cons]
    refine ⟨fun hm => ?_, h.once⟩
    obtain ⟨b, hb1, hb2⟩ := List.mem_map.1 hm
    exact hf b hb1 hb2
section
variable {P : Program} {ops : Array Oper} {o : Oper} {rest : List Oper} {a : Act} {W : World} {Q : Exit → Act → World → Prop} {K : Act → World → Prop}
theorem stp_setRow (W : World) (g : Nat) (cs : Array Value) : Stp (fun k => k = g) W (W.setRow g cs) := ⟨rfl, rfl, rfl, by simp [World.setRow], fun i _ hn => setRow_other W g i cs (fun he => hn he)⟩
/-- copy into a block, as a step of a region that draws. -/
theorem copy_step {N : Option Tmp} (hw : Region.wanted o (yielded ops a.tmps) = true) (hN : o.dst = N) (d s : Operand) (dT sT : TypeId)
    (ho : o.op = .call { callee := .builtin .copy, args := #[d, s], argTypes := #[dT, sT] }) (elem : TypeId) (hu : P.underlying dT = some (.slice elem)) (hsz : (P.info? elem).map (·.size) = some 1)
    (dp sp : Option Addr) (dLen dCap sLen sCap : Nat) (hd : a.eval d = .slice dp dLen dCap) (hs : a.eval s = .slice sp sLen sCap)
    (g off : Nat) (cur : List Value) (t : TypeId) (hg : W.heap[g]? = some (.cells cur.toArray t (0, 0))) (cs : List Value) (hn : cs.length = Nat.min sLen dLen)
    (hpos : 0 < cs.length → dp = some ⟨g, off, none⟩ ∧ ∃ ad, sp = some ad ∧ ∀ j v, cs[j]? = some v → W.cell? (ad.add j) = some v)
    (hfit : off + cs.length ≤ cur.length) (h1 : ∀ v ∈ cs, v.oneCell' = true)
    (h : ∀ w', w'.heap[g]? = some (.cells (splice cur off cs).toArray t (0, 0)) → Stp (fun k => k = g) W w' → K (a.put N (goInt cs.length)) w') :
    if Region.wanted o (yielded ops a.tmps) = true then Oper.wp P o a W K Q else K (a.put N undef) W := by
  rw [if_pos hw]
  subst hN
  by_cases h0 : cs.length = 0
  · obtain rfl : cs = [] := List.eq_nil_of_length_eq_zero h0
    have hrun := run_copy_none (P := P) W dT sT o.type elem dp sp dLen dCap sLen sCap hu hsz (by simpa using hn.symm)
    unfold Oper.wp
    simp [execOp, ho, resolve, invoke, builtin, hd, hs, hrun, Result.andThen]
    exact h W (by simpa [splice] using hg) (Stp.refl _ _)
  · obtain ⟨rfl, ad, rfl, hsrc⟩ := hpos (by omega)
    have hrun := run_copy_row (P := P) W dT sT o.type elem g off dLen dCap ad sLen sCap cur.toArray t cs hu hsz hg hn hsrc (by simpa using hfit) h1
    unfold Oper.wp
    simp [execOp, ho, resolve, invoke, builtin, hd, hs, hrun, Result.andThen]
    exact h _ (by simpa [splice] using setRow_heap W g _ _ t _ hg) (stp_setRow _ _ _)
/-- copy into a block, in a plain region. -/
theorem copy_list (hgd : o.guard = none) (d s : Operand) (dT sT : TypeId)
    (ho : o.op = .call { callee := .builtin .copy, args := #[d, s], argTypes := #[dT, sT] }) (elem : TypeId) (hu : P.underlying dT = some (.slice elem)) (hsz : (P.info? elem).map (·.size) = some 1)
    (dp sp : Option Addr) (dLen dCap sLen sCap : Nat) (hd : a.eval d = .slice dp dLen dCap) (hs : a.eval s = .slice sp sLen sCap)
    (g off : Nat) (cur : List Value) (t : TypeId) (hg : W.heap[g]? = some (.cells cur.toArray t (0, 0))) (cs : List Value) (hn : cs.length = Nat.min sLen dLen)
    (hpos : 0 < cs.length → dp = some ⟨g, off, none⟩ ∧ ∃ ad, sp = some ad ∧ ∀ j v, cs[j]? = some v → W.cell? (ad.add j) = some v)
    (hfit : off + cs.length ≤ cur.length) (h1 : ∀ v ∈ cs, v.oneCell' = true)
    (h : ∀ w', w'.heap[g]? = some (.cells (splice cur off cs).toArray t (0, 0)) → Stp (fun k => k = g) W w' → wpList P ops Q rest (a.put o.dst (goInt cs.length)) w') :
    wpList P ops Q (o :: rest) a W := by
  by_cases h0 : cs.length = 0
  · obtain rfl : cs = [] := List.eq_nil_of_length_eq_zero h0
    refine wpList_copy_nothing hgd d s dT sT ho elem hu hsz dp sp dLen dCap sLen sCap hd hs (by simpa using hn.symm) ?_
    exact h W (by simpa [splice] using hg) (Stp.refl _ _)
  · obtain ⟨rfl, ad, rfl, hsrc⟩ := hpos (by omega)
    refine wpList_copy_own hgd d s dT sT ho elem hu hsz g off dLen dCap ad sLen sCap hd hs cur.toArray t hg cs hn hsrc (by simpa using hfit) h1 ?_
    exact h _ (by simpa [splice] using setRow_heap W g _ _ t _ hg) (stp_setRow _ _ _)
/-- The rest of a block, cut off inside its room. -/
theorem cut_block {t e : TypeId} (kl : IntKind) {i : TypeInfo} (ht : P.underlying t = some (.slice e)) (hi : P.info? e = some i) (hsz : i.size = 1) (B n c : Nat) (j : Int) (h0 : 0 ≤ j) (h1 : j ≤ n) (h2 : j < c) (W : World) :
    (Instr.slice t (.slice (some ⟨B, 0, none⟩) n c) (some (.int kl j)) none none).run P W = .ok (.slice (some ⟨B, j.toNat, none⟩) (n - j.toNat) (c - j.toNat)) W := by
  have hel : P.elem t = e := by simp [Program.elem, ht]
  have hu : P.underlying t = some (.slice (P.elem t)) := by rw [hel]; exact ht
  have hne : ¬ c = j.toNat := by omega
  rw [run_slice_l W t _ n c hu kl j h0 h1, hel]
  simp [sizeOf, typeInfo, hi, hsz, sliced, Result.andThen, hne, Addr.add]
  omega
/-- A whole variable in memory is written, as a step of a region that draws. -/
theorem st_step {T g t : Nat} {p x : Operand} {cur cs : Array Value} (hw : Region.wanted o (yielded ops a.tmps) = true) (hN : o.dst = none) (ho : o.op = .store T p x)
    (hp : a.eval p = .pointer (some ⟨g, 0, none⟩)) (hx : a.eval x = .agg cs) (hh : W.heap[g]? = some (.cells cur t (0, 0))) (ht : (P.info? T).map (·.size) = some cs.size) (hsz : cs.size = cur.size) (h1 : ∀ q ∈ cs.toList, q.oneCell' = true)
    (h : ∀ w1, w1.heap[g]? = some (.cells cs t (0, 0)) → Stp (fun k => k = g) W w1 → K a w1) : if Region.wanted o (yielded ops a.tmps) = true then Oper.wp P o a W K Q else K (a.put none undef) W := by
  rw [if_pos hw]
  obtain ⟨cur', h3, _, h5⟩ := setCells_row cs.toList 0 W cur hh (by simp; omega)
  obtain ⟨s1, s2, s3, s4⟩ := setCells_same g cs.toList 0 W
  have hr := run_store_run (P := P) (o := 0) T (.agg cs) cs.toList hh rfl (by simpa using ht) (by simp; omega) h1
  unfold Oper.wp execOp
  simp only [ho, hp, hx, Sem.run_bind, Sem.run_pure, Result.andThen_ok, hr]
  show K (a.put o.dst undef) _
  rw [hN]
  refine h _ ?_ ⟨s1, s2, s3, Nat.le_of_eq s4.symm, fun i _ hi => setCells_far cs.toList 0 i hi⟩
  have e : cur' = cs := by
    apply Array.toList_inj.1
    rw [List.take_zero, List.nil_append, List.drop_of_length_le (by simp; omega), List.append_nil] at h5
    exact h5
  rw [e] at h3
  exact h3
end
end Go.Proofs.Ytgfadfahbhcllaa.Q
namespace Go.Proofs.Ytgfadfahbhcllaa.P
open Go.RowKit Go.Proofs.YtgfadfahbhcllaaW.PrintWords

/-- From some number of rounds on, f answers a. -/
def Ev {α : Type} (f : Nat → Option α) (a : α) : Prop := ∃ K, ∀ k, K ≤ k → f k = some a
section
variable {α β γ : Type} {f g : Nat → Option α} {a : α} {b : β}
theorem Ev.ex (h : Ev f a) : ∃ k, f k = some a := by
  obtain ⟨K, h⟩ := h
  exact ⟨K, h K (Nat.le_refl _)⟩
theorem Ev.const {o : Option α} (h : o = some a) : Ev (fun _ => o) a := ⟨0, fun _ _ => h⟩
theorem Ev.bind {g : Nat → α → Option β} (h : Ev f a) (h2 : Ev (fun k => g k a) b) : Ev (fun k => (f k).bind (g k)) b := by
  obtain ⟨K, h⟩ := h
  obtain ⟨K2, h2⟩ := h2
  exact ⟨max K K2, fun k hk => by show (f k).bind (g k) = some b; rw [h k (by omega)]; exact h2 k (by omega)⟩
theorem Ev.pos {c : Prop} [Decidable c] (hc : c) (h : Ev f a) : Ev (fun k => if c then f k else g k) a := by
  obtain ⟨K, h⟩ := h
  exact ⟨K, fun k hk => (if_pos hc).trans (h k hk)⟩
theorem Ev.neg {c : Prop} [Decidable c] (hc : ¬ c) (h : Ev g a) : Ev (fun k => if c then f k else g k) a := by
  obtain ⟨K, h⟩ := h
  exact ⟨K, fun k hk => (if_neg hc).trans (h k hk)⟩
theorem Ev.step (h : ∃ K, ∀ k, K ≤ k → f (k + 1) = g k) (e : Ev g a) : Ev f a := by
  obtain ⟨K, h⟩ := h
  obtain ⟨K2, e⟩ := e
  refine ⟨max K K2 + 1, fun k hk => ?_⟩
  obtain ⟨j, rfl⟩ : ∃ j, k = j + 1 := ⟨k - 1, by omega⟩
  rw [h j (by omega)]
  exact e j (by omega)
theorem Ev.last (h : ∃ K, ∀ k, K ≤ k → f (k + 1) = some a) : Ev f a := Ev.step (g := fun _ => some a) h (Ev.const rfl)
theorem Ev.congr (h : ∀ k, f k = g k) (e : Ev g a) : Ev f a := by
  obtain ⟨K, e⟩ := e
  exact ⟨K, fun k hk => (h k).trans (e k hk)⟩
theorem Ev.loop {σ ρ : Type} (l : Nat → σ → Option ρ) (st : Nat → σ) (n : Nat) (r : ρ) (hstep : ∀ i, i < n → ∃ K, ∀ k, K ≤ k → l (k + 1) (st i) = l k (st (i + 1)))
    (hend : Ev (fun k => l k (st n)) r) : ∀ j i, i + j = n → Ev (fun k => l k (st i)) r
  | 0, i, h => by
    obtain rfl : i = n := by omega
    exact hend
  | j + 1, i, h => Ev.step (hstep i (by omega)) (Ev.loop l st n r hstep hend j (i + 1) (by omega))
theorem Ev.loop0 {σ ρ : Type} (l : Nat → σ → Option ρ) (st : Nat → σ) (n : Nat) (r : ρ) (hstep : ∀ i, i < n → ∃ K, ∀ k, K ≤ k → l (k + 1) (st i) = l k (st (i + 1)))
    (hend : Ev (fun k => l k (st n)) r) : Ev (fun k => l k (st 0)) r := Ev.loop l st n r hstep hend n 0 (by omega)
/-- What ends for one number of rounds ends from there on, where more rounds give the same. -/
theorem Ev.of_mono (hm : ∀ k, LeO (f k) (f (k + 1))) (h : ∃ k, f k = some a) : Ev f a := by
  obtain ⟨K, h⟩ := h
  exact ⟨K, fun k hk => at_rounds hm hk h⟩
theorem Ev.uniq {a' : α} (h : Ev f a) (h' : Ev f a') : a = a' := by
  obtain ⟨K, h⟩ := h
  obtain ⟨K', h'⟩ := h'
  have e := h (max K K') (by omega)
  rw [h' (max K K') (by omega)] at e
  exact (Option.some.inj e).symm
end
theorem w64 {n : Int} (h : -9223372036854775808 ≤ n) (h2 : n ≤ 9223372036854775807) : wrap64 n = n := by unfold wrap64; omega
theorem w64s {i n : Nat} (h : i < n) (hn : n ≤ 4611686018427387904) : wrap64 ((i : Int) + 1) = ((i + 1 : Nat) : Int) := by rw [w64 (by omega) (by omega)]; rfl
theorem rd_at {xs : List Int} {i : Nat} {a : Int} (h : xs[i]? = some a) : rd xs (i : Int) = a := by
  unfold rd
  rw [Int.toNat_natCast, List.getD_eq_getElem?_getD, h]
  rfl
theorem rdOf_at {α : Type} {d : α} {xs : List α} {i : Nat} {a : α} (h : xs[i]? = some a) : rdOf d xs (i : Int) = a := by
  unfold rdOf
  rw [Int.toNat_natCast, List.getD_eq_getElem?_getD, h]
  rfl
theorem getD_at {α : Type} {d : α} {xs : List α} {i : Nat} {a : α} (h : xs[i]? = some a) : xs.getD ((i : Int)).toNat d = a := by
  rw [Int.toNat_natCast, List.getD_eq_getElem?_getD, h]
  rfl
theorem some_at {α : Type} {xs : List α} {i : Nat} (h : i < xs.length) : ∃ a, xs[i]? = some a := ⟨xs[i], List.getElem?_eq_getElem h⟩
theorem take_set {α : Type} (L x : List α) (i : Nat) (a : α) (h : L[i]? = some a) (h3 : L.length = x.length) : (L.take i ++ x.drop i).set i a = L.take (i + 1) ++ x.drop (i + 1) := by
  obtain ⟨hi, rfl⟩ := List.getElem?_eq_some_iff.1 h
  have hl : (L.take i).length = i := by simp; omega
  rw [List.set_append_right _ _ (by omega), hl, Nat.sub_self, List.drop_eq_getElem_cons (by omega : i < x.length), List.set_cons_zero, List.take_succ_eq_append_getElem hi, List.append_assoc]
  rfl
/-- Element by element into a row of the same length. -/
theorem copy_ends {α β : Type} (l : Nat → List β → Int → Option (List β)) (conv : α → β) (x0 : List α) (x3 : List β) (h3 : x0.length = x3.length)
    (hstep : ∀ (i : Nat) (a : α) (y : List β), x0[i]? = some a → i < x0.length → y.length = x0.length → ∃ K, ∀ k, K ≤ k → l (k + 1) y (i : Int) = l k (y.set i (conv a)) ((i + 1 : Nat) : Int))
    (hend : ∀ k y, y.length = x0.length → l (k + 1) y (x0.length : Int) = some y) : Ev (fun k => l k x3 0) (x0.map conv) := by
  have h := Ev.loop0 (fun k (s : List β × Int) => l k s.1 s.2) (fun i => ((x0.map conv).take i ++ x3.drop i, (i : Int))) x0.length (x0.map conv) ?_ ?_
  · simpa using h
  · intro i hi
    obtain ⟨a, ha⟩ := some_at hi
    obtain ⟨K, hK⟩ := hstep i a ((x0.map conv).take i ++ x3.drop i) ha hi (by simp; omega)
    refine ⟨K, fun k hk => ?_⟩
    have := hK k hk
    rw [take_set (x0.map conv) x3 i (conv a) (by simp [ha]) (by simpa using h3)] at this
    exact this
  · refine Ev.last ⟨0, fun k _ => ?_⟩
    have := hend k ((x0.map conv).take x0.length ++ x3.drop x0.length) (by simp; omega)
    simp only [this]
    rw [List.take_of_length_le (by simp), List.drop_of_length_le (by omega), List.append_nil]
/-- A check of each element. -/
theorem each_ends {ρ : Type} (l : Nat → Int → Option ρ) (n : Nat) (r : ρ) (hstep : ∀ i : Nat, i < n → ∃ K, ∀ k, K ≤ k → l (k + 1) (i : Int) = l k ((i + 1 : Nat) : Int)) (hend : ∀ k, l (k + 1) (n : Int) = some r) : Ev (fun k => l k 0) r :=
  Ev.loop0 l (fun i => (i : Int)) n r hstep (Ev.last ⟨0, fun k _ => hend k⟩)
/-- A check that stops at the first that fails. -/
theorem all_loop {α : Type} (l : Nat → Int → Option Bool) (xs : List α) (p : α → Bool) (hstep : ∀ (i : Nat) (a : α), xs[i]? = some a → i < xs.length → ∃ K, ∀ k, K ≤ k → l (k + 1) (i : Int) = if p a = true then l k ((i + 1 : Nat) : Int) else some false)
    (hend : ∀ k, l (k + 1) (xs.length : Int) = some true) : Ev (fun k => l k 0) (xs.all p) := by
  have key : ∀ (rest done : List α), done ++ rest = xs → Ev (fun k => l k (done.length : Int)) (rest.all p) := by
    intro rest
    induction rest with
    | nil =>
      intro done hd
      have : xs.length = done.length := by rw [← hd, List.append_nil]
      refine Ev.last ⟨0, fun k _ => ?_⟩
      show l (k + 1) (done.length : Int) = some true
      rw [← this]
      exact hend k
    | cons a rest ih =>
      intro done hd
      have hlen : done.length + (rest.length + 1) = xs.length := by rw [← hd, List.length_append, List.length_cons]
      obtain ⟨K, hK⟩ := hstep done.length a (by rw [← hd]; simp) (by omega)
      cases hp : p a with
      | true =>
        have h1 := ih (done ++ [a]) (by rw [← hd]; simp)
        rw [List.length_append, List.length_singleton] at h1
        rw [List.all_cons, hp, Bool.true_and]
        refine Ev.step ⟨K, fun k hk => ?_⟩ h1
        have := hK k hk
        rw [hp, if_pos rfl] at this
        exact this
      | false =>
        rw [List.all_cons, hp, Bool.false_and]
        refine Ev.last ⟨K, fun k hk => ?_⟩
        have := hK k hk
        rw [hp, if_neg (by simp)] at this
        exact this
  exact key xs [] rfl
/-- Elements counted upwards are written over a row (f: what is written for a count). -/
def ups {β : Type} (f : Int → β) (m : Int) (n : Nat) : List β := (List.range n).map fun (i : Nat) => f (m + i)
theorem ups_length {β : Type} (f : Int → β) (m : Int) (n : Nat) : (ups f m n).length = n := by simp [ups]
theorem ups_at {β : Type} (f : Int → β) (m : Int) {n i : Nat} (h : i < n) : (ups f m n)[i]? = some (f (m + i)) := by simp [ups, h]
theorem mark_ends {β : Type} (l : Nat → List β → Int → Int → Option (Int × List β)) (f : Int → β) (x : List β) (m : Int) (h0 : 0 ≤ m) (hm : m + x.length ≤ 4611686018427387904)
    (hstep : ∀ (k i : Nat) (y : List β) (c : Int), i < x.length → y.length = x.length → l (k + 1) y c (i : Int) = l k (y.set i (f c)) (wrap64 (c + 1)) (wrap64 ((i : Int) + 1)))
    (hend : ∀ (k : Nat) (y : List β) (c : Int), y.length = x.length → l (k + 1) y c (x.length : Int) = some (c, y)) : Ev (fun k => l k x m 0) (m + x.length, ups f m x.length) := by
  have h := Ev.loop0 (fun k (s : List β × Int × Int) => l k s.1 s.2.1 s.2.2) (fun i => ((ups f m x.length).take i ++ x.drop i, m + i, (i : Int))) x.length (m + x.length, ups f m x.length) ?_ ?_
  · simpa using h
  · intro i hi
    refine ⟨0, fun k _ => ?_⟩
    have := hstep k i ((ups f m x.length).take i ++ x.drop i) (m + i) hi (by simp [ups_length]; omega)
    rw [take_set (ups f m x.length) x i _ (ups_at f m hi) (ups_length f m _), w64s hi (by omega), w64 (by omega) (by omega)] at this
    refine this.trans ?_
    show l k _ (m + i + 1) _ = l k _ (m + ((i + 1 : Nat) : Int)) _
    rw [show m + (i : Int) + 1 = m + ((i + 1 : Nat) : Int) from by omega]
  · refine Ev.last ⟨0, fun k _ => ?_⟩
    have := hend k ((ups f m x.length).take x.length ++ x.drop x.length) (m + x.length) (by simp [ups_length])
    simp only [this]
    rw [List.take_of_length_le (by simp [ups_length]), List.drop_of_length_le (by omega), List.append_nil]
theorem held_ends (l : Nat → Int → Int → Option Int) (n : Nat) (m : Int) (h0 : 0 ≤ m) (hm : m + n ≤ 4611686018427387904)
    (hstep : ∀ (k i : Nat), i < n → l (k + 1) (m + i) (i : Int) = l k (wrap64 (m + i + 1)) (wrap64 ((i : Int) + 1)))
    (hend : ∀ (k : Nat), l (k + 1) (m + n) (n : Int) = some (m + n)) : Ev (fun k => l k m 0) (m + n) := by
  have h := Ev.loop0 (fun k (s : Int × Int) => l k s.1 s.2) (fun i => (m + i, (i : Int))) n (m + n) ?_ ?_
  · simpa using h
  · intro i hi
    refine ⟨0, fun k _ => ?_⟩
    have := hstep k i hi
    rw [w64s hi (by omega), w64 (by omega) (by omega)] at this
    refine this.trans ?_
    show l k (m + i + 1) _ = l k (m + ((i + 1 : Nat) : Int)) _
    rw [show m + (i : Int) + 1 = m + ((i + 1 : Nat) : Int) from by omega]
  · exact Ev.last ⟨0, fun k _ => hend k⟩
end Go.Proofs.Ytgfadfahbhcllaa.P
namespace Go.Proofs.Ytgfadfahbhcllaa.P
open Go.RowKit Go.Proofs.YtgfadfahbhcllaaW.PrintWords Go.Proofs.Ytgfadfahbhcllaa.Q
set_option linter.unusedVariables false
set_option linter.unusedSimpArgs false
/-- The n lowest bytes of x, lowest first. -/
def leB (n : Nat) (x : Int) : List Int := (List.range n).map fun i => x / 2 ^ (8 * i) % 256
theorem leB_length (n : Nat) (x : Int) : (leB n x).length = n := by unfold leB; rw [List.length_map, List.length_range]
theorem leB_succ (n : Nat) (x : Int) : leB (n + 1) x = leB n x ++ [x / 2 ^ (8 * n) % 256] := by unfold leB; rw [List.range_succ, List.map_append]; rfl
theorem splice_set {l m : List Int} {o : Nat} (v : Int) (h : o + m.length < l.length) : (splice l o m).set (o + m.length) v = splice l o (m ++ [v]) := by
  unfold splice
  have ht : (l.take o).length = o := by rw [List.length_take]; omega
  rw [List.set_append_right _ _ (by rw [ht]; omega), ht, Nat.add_sub_cancel_left, List.set_append_right _ _ (Nat.le_refl _), Nat.sub_self, List.drop_eq_getElem_cons h, List.set_cons_zero, List.length_append, List.length_singleton, Nat.add_assoc, List.append_assoc]
  rfl
theorem splice_nil {l : List Int} {o : Nat} : splice l o [] = l := by unfold splice; simp
theorem shr_byte {x : Int} (h0 : 0 ≤ x) (i : Nat) (hi : i < 8) : (shr .u64 x (wrap64 (8 * (i : Int)))) % 256 = x / 2 ^ (8 * i) % 256 := by
  have e : wrap64 (8 * (i : Int)) = ((8 * i : Nat) : Int) := by rw [w64 (n := 8 * (i : Int)) (by omega) (by omega)]; omega
  rw [e]
  have hh := shr_small (k := .u64) (x := x) (y := ((8 * i : Nat) : Int)) (j := shr .u64 x ((8 * i : Nat) : Int)) rfl (by show ((8 * i : Nat) : Int) ≤ 64; omega)
  rw [← hh, Int.toNat_natCast]
theorem put_ev (l : List Int) (a n : Nat) (x : Int) (h0 : 0 ≤ x) (hn : n ≤ 8) (ha : a + n ≤ l.length) (hl : l.length ≤ 4611686018427387904) : Ev (fun k => impl_put.f k l a n x) (splice l a (leB n x)) := by
  simp only [impl_put.f]
  have h := Ev.loop0 (fun k (s : List Int × Int) => impl_put.l0 k s.1 a x n s.2) (fun i => (splice l a (leB i x), (i : Int))) n (splice l a (leB n x)) ?_ ?_
  · have e : splice l a (leB 0 x) = l := splice_nil
    simp only [e] at h
    exact h
  · intro i hi
    refine ⟨0, fun k _ => ?_⟩
    have e1 : wrap64 (8 * (i : Int)) = 8 * (i : Int) := w64 (n := 8 * (i : Int)) (by omega) (by omega)
    have e2 : wrap64 ((a : Int) + (i : Int)) = ((a + i : Nat) : Int) := by rw [w64 (n := (a : Int) + (i : Int)) (by omega) (by omega)]; omega
    have hs : (splice l a (leB i x)).length = l.length := length_splice _ _ _ (by rw [leB_length]; omega)
    have e3 := shr_byte h0 i (by omega)
    simp only [impl_put.l0]
    rw [e2, e3]
    rw [if_pos (by omega), if_pos (by rw [e1]; omega), if_pos (by omega), if_pos (by rw [hs]; omega), Int.toNat_natCast, w64s hi (by omega)]
    have := splice_set (l := l) (m := leB i x) (o := a) (x / 2 ^ (8 * i) % 256) (by rw [leB_length]; omega)
    rw [leB_length] at this
    rw [this, leB_succ]
  · refine Ev.last ⟨0, fun k _ => ?_⟩
    simp only [impl_put.l0]
    rw [if_neg (by omega)]
end Go.Proofs.Ytgfadfahbhcllaa.P
namespace Go.Proofs.Ytgfadfahbhcllaa.Q
open Go.RowKit Go.Proofs.YtgfadfahbhcllaaW.PrintWords Go.Proofs.YtgfadfahbhcllaaW.PrintLast Go.Proofs.YtgfadfahbhcllaaW.PrintMore Go.Proofs.Ytgfadfahbhcllaa.LK
set_option linter.unusedVariables false
theorem bytesV_inj {l m : List Int} (h : bytesV l = bytesV m) : l = m := by
  unfold bytesV at h
  exact (List.map_inj_right (fun x y hxy => by injection hxy)).1 h
/-- put into an array's slice. -/
theorem put_box {g T : Nat} {l : List Int} (a n : Nat) {x : Int} {w0 w : World} (hB : Below w0.heap.size w0 w) (hg : w0.heap.size ≤ g) (hb : w.heap[g]? = some (.cells (bytesV l).toArray T (0, 0))) (h0 : 0 ≤ x) (hn : n ≤ 8) (ha : a + n ≤ l.length) (hl : l.length ≤ 4611686018427387904) (hp : 0 < l.length) :
    Calls Try.prog 88 #[.slice (some ⟨g, 0, none⟩) l.length l.length, .int .i64 a, .int .i64 n, .int .u64 x] w fun e w' => e = .returned (.tuple #[]) ∧ w'.heap[g]? = some (.cells (bytesV (splice l a (P.leB n x))).toArray T (0, 0)) ∧ Stp (fun k => k = g) w w' := by
  obtain ⟨k, hk⟩ := (P.put_ev l a n x h0 hn ha hl).ex
  have hs : (splice l a (P.leB n x)).length = l.length := length_splice _ _ _ (by rw [P.leB_length]; omega)
  have hR := R_of_block (base := w0.heap.size) (tl := []) (by rw [List.append_nil]; exact hb) hg (by rw [List.length_nil]; omega)
  rw [List.length_nil, Nat.add_zero] at hR
  refine (impl_put.callsE k _ _ l a n x _ w0 w hB hR hk).mono ?_
  rintro e w' ⟨rfl, hR', hB', hK⟩
  obtain ⟨B, tl, e1, e2, e3, e4, e5, e6, e7, e8⟩ := R_block hR' (by rw [hs]; exact hp)
  injection e1 with e1
  injection e1 with e1
  subst e1
  have : tl = [] := List.eq_nil_of_length_eq_zero (by omega)
  subst this
  rw [List.append_nil] at e7
  exact ⟨rfl, e7, hB'.os.trans hB.os.symm, hB'.tape.trans hB.tape.symm, hB'.output.trans hB.output.symm, hK.1, fun i hi hne => hK.2 i hi (fun he => hne he)⟩
/-- copy of a string into a block, in a plain region. -/
theorem copy_str {P : Program} {ops : Array Oper} {o : Oper} {rest : List Oper} {a : Act} {W : World} {Q : Exit → Act → World → Prop} (hgd : o.guard = none) (d x : Operand) (dT sT : TypeId)
    (ho : o.op = .call { callee := .builtin .copy, args := #[d, x], argTypes := #[dT, sT] }) (elem : TypeId) (hu : P.underlying dT = some (.slice elem)) (hz : ∀ w, (Go.sizeOf elem).run P w = .ok 1 w)
    (g off dLen dCap : Nat) (hd : a.eval d = .slice (some ⟨g, off, none⟩) dLen dCap) (s : ByteArray) (hx : a.eval x = .string s) (hle : s.size ≤ dLen)
    (cur : List Value) (t : TypeId) (hg : W.heap[g]? = some (.cells cur.toArray t (0, 0))) (m : List Int) (hm : (s.data.toList.map fun x => Value.int .u8 (x.toNat : Int)) = bytesV m) (hs : s.size = m.length) (hfit : off + m.length ≤ cur.length)
    (h : ∀ w', w'.heap[g]? = some (.cells (splice cur off (bytesV m)).toArray t (0, 0)) → Stp (fun k => k = g) W w' → wpList P ops Q rest (a.put o.dst (goInt s.size)) w') :
    wpList P ops Q (o :: rest) a W := by
  refine wpList_plain hgd fun K hK => ?_
  have hrun := run_copy_string (P := P) W dT sT o.type elem g off dLen dCap s hu hz hle (fun j hj => by rw [blk_cell hg (off + j)]; simp; omega) (fun j hj => blk_frozen hg (off + j))
  rw [hm] at hrun
  obtain ⟨cur', h3, _, h5⟩ := setCells_row (bytesV m) off W cur.toArray hg (by rw [bytesV_length]; simpa using hfit)
  obtain ⟨s1, s2, s3, s4⟩ := setCells_same g (bytesV m) off W
  unfold Oper.wp
  simp [execOp, ho, resolve, invoke, builtin, hd, hx, hrun, Result.andThen]
  refine hK _ _ (h _ ?_ ⟨s1, s2, s3, Nat.le_of_eq s4.symm, fun i _ hi => setCells_far (bytesV m) off i hi⟩)
  have e : cur'.toList = splice cur off (bytesV m) := by
    unfold splice
    rw [← List.append_assoc]
    first | exact h5 | simpa using h5
  rw [← e]
  exact h3
end Go.Proofs.Ytgfadfahbhcllaa.Q
namespace Go.Proofs.Ytgfadfahbhcllaa.Q
open Go.RowKit Go.Proofs.YtgfadfahbhcllaaW.PrintWords Go.Proofs.YtgfadfahbhcllaaW.PrintLast Go.Proofs.Ytgfadfahbhcllaa.LK Go.Proofs.YtgfadfahbhcllaaW.PrintMore
attribute [local go_sem] max2_int min2_int max_two min_two max_three min_three max_four min_four   -- for this text's walks alone
set_option linter.unusedVariables false
set_option linter.unusedSimpArgs false

/-! ### impl_Crc32: function 89 -/
mutual
def impl_Crc32.l0 : Nat → Int → List Int → Int → Int → Option (Int)
  | 0, _, _, _, _ => none
  | k + 1, x3, x6, x7, x8 => if x8 < x7 then (if 0 ≤ x8 then (if x8 < (x6.length : Int) then (impl_Crc32.l1 k (Go.bits .xor .u32 x3 ((rd x6 x8) % 4294967296)) x6 x7 x8 0) else (none)) else (none)) else (some (Go.bits .xor .u32 (4294967295) x3))
def impl_Crc32.l1 : Nat → Int → List Int → Int → Int → Int → Option (Int)
  | 0, _, _, _, _, _ => none
  | k + 1, x3, x6, x7, x8, x16 => if x16 < 8 then (impl_Crc32.l1 k (Go.bits .xor .u32 (x3 / 2) (Go.bits .and .u32 3988292384 ((-(Go.bits .and .u32 x3 1)) % 4294967296))) x6 x7 x8 (wrap64 (x16 + 1))) else (impl_Crc32.l0 k x3 x6 x7 (wrap64 (x8 + 1)))
end
def impl_Crc32.f (k : Nat) (l0 : List Int) : Option (Int) := impl_Crc32.l0 k 4294967295 l0 (l0.length : Int) 0
theorem impl_Crc32.mono_l : ∀ k, (∀ y0 y1 y2 y3, LeO (impl_Crc32.l0 k y0 y1 y2 y3) (impl_Crc32.l0 (k + 1) y0 y1 y2 y3)) ∧ (∀ y0 y1 y2 y3 y4, LeO (impl_Crc32.l1 k y0 y1 y2 y3 y4) (impl_Crc32.l1 (k + 1) y0 y1 y2 y3 y4))
  | 0 => ⟨fun _ _ _ _ r h => by simp [impl_Crc32.l0] at h, fun _ _ _ _ _ r h => by simp [impl_Crc32.l1] at h⟩
  | k + 1 => by
    obtain ⟨ih0, ih1⟩ := impl_Crc32.mono_l k
    refine ⟨?_, ?_⟩
    · intro y0 y1 y2 y3
      unfold impl_Crc32.l0
      repeat' first
      | (with_reducible exact ih0 _ _ _ _)
      | (with_reducible exact ih1 _ _ _ _ _)
      | (with_reducible exact LeO.refl _)
      | (with_reducible exact LeO.none _)
      | (with_reducible refine LeO.ite ?_ ?_)
      | (with_reducible refine LeO.bind ?_ (fun _ => ?_))
      | exact ih0 _ _ _ _
      | exact ih1 _ _ _ _ _
      | exact LeO.none _
      | refine LeO.ite ?_ ?_
      | refine LeO.bind ?_ (fun _ => ?_)
    · intro y0 y1 y2 y3 y4
      unfold impl_Crc32.l1
      repeat' first
      | (with_reducible exact ih0 _ _ _ _)
      | (with_reducible exact ih1 _ _ _ _ _)
      | (with_reducible exact LeO.refl _)
      | (with_reducible exact LeO.none _)
      | (with_reducible refine LeO.ite ?_ ?_)
      | (with_reducible refine LeO.bind ?_ (fun _ => ?_))
      | exact ih0 _ _ _ _
      | exact ih1 _ _ _ _ _
      | exact LeO.none _
      | refine LeO.ite ?_ ?_
      | refine LeO.bind ?_ (fun _ => ?_)
theorem impl_Crc32.mono : ∀ a0 k, LeO (impl_Crc32.f k a0) (impl_Crc32.f (k + 1) a0) := by
  intro a0 k
  obtain ⟨ih0, ih1⟩ := impl_Crc32.mono_l k
  unfold impl_Crc32.f
  repeat' first
      | (with_reducible exact ih0 _ _ _ _)
      | (with_reducible exact ih1 _ _ _ _ _)
      | (with_reducible exact LeO.refl _)
      | (with_reducible exact LeO.none _)
      | (with_reducible refine LeO.ite ?_ ?_)
      | (with_reducible refine LeO.bind ?_ (fun _ => ?_))
      | exact ih0 _ _ _ _
      | exact ih1 _ _ _ _ _
      | exact LeO.none _
      | refine LeO.ite ?_ ?_
      | refine LeO.bind ?_ (fun _ => ?_)
set_option maxHeartbeats 8000000 in
set_option maxRecDepth 100000 in
theorem impl_Crc32.calls (k : Nat) (A0 : Option Addr) (c0 : Nat) (l0 : List Int) (r : Int) (w : World) (hr0 : Kd.C (Kd.int .u8) w A0 l0.length l0) (hc0 : l0.length ≤ c0) (h : impl_Crc32.f k l0 = some r) :
    Calls Try.prog 89 #[.slice A0 l0.length c0] w fun e w' => e = .returned (.int .u32 r) ∧ Drawn0 w w' := by
  have HR0 := Aside0.mk hr0
  have HC0 := Aside0.mk hc0
  clear hr0 hc0
  have H : (impl_Crc32.l0 k 4294967295 l0 (l0.length : Int) 0) = some r := h
  clear h
  have H' := Aside0.mk H
  clear H
  go_enter Try.func89, Try.ntmps89
  go_wp2
  go_loopg [3, 8] k (fun kq v3 v8 w' => ∃ (x3_1 : Int) (x8_1 : Int), v3 = .int .u32 x3_1 ∧ v8 = .int .i64 x8_1 ∧ Aside0 (impl_Crc32.l0 kq x3_1 l0 (l0.length : Int) x8_1 = some r) ∧ Aside0 (kq ≤ k) ∧ Drawn0 w w')
  case atStart => exact ⟨(4294967295), (0), (by first | rfl | (simp; done) | (simp [*]; done)), (by first | rfl | (simp; done) | (simp [*]; done)), H', ⟨Nat.le_refl _⟩, by repeat (first | exact Drawn0.refl _ | apply Drawn0.step)⟩
  case round =>
    clear H'
    obtain ⟨x3_1, x8_1, rfl, rfl, HA, HK1, ⟨m1, rfl⟩⟩ := hrel
    cases gk with
    | zero => exact absurd HA.out (by simp [impl_Crc32.l0])
    | succ k1 =>
      have H := HA.out
      clear HA
      simp only [impl_Crc32.l0] at H
      by_cases c2 : x8_1 < (l0.length : Int)
      · rw [if_pos c2] at H
        have c2b0 : decide (x8_1 < (l0.length : Int)) = true := decide_eq_true c2
        clear c2
        by_cases c3 : 0 ≤ x8_1
        · rw [if_pos c3] at H
          have c3b0 : decide (0 ≤ x8_1) = true := decide_eq_true c3
          clear c3
          by_cases c4 : x8_1 < (l0.length : Int)
          · rw [if_pos c4] at H
            have c4b0 : decide (x8_1 < (l0.length : Int)) = true := decide_eq_true c4
            clear c4
            have H' := Aside0.mk H
            clear H
            have p101 : 0 ≤ (x8_1 : Int) := of_decide_eq_true (by first | (with_reducible assumption) | assumption)
            have q101 : x8_1 < (l0.length : Int) := of_decide_eq_true (by first | (with_reducible assumption) | assumption)
            obtain ⟨ad101, e101, hx101_0⟩ := Kd.at_int HR0.out x8_1 p101 q101
            cases e101
            replace p101 := eq_true p101
            replace q101 := eq_true q101
            go_wp2
            go_loopg [3, 16] k1 (fun kq v3 v16 w' => ∃ (x3_2 : Int) (x16_2 : Int), v3 = .int .u32 x3_2 ∧ v16 = .int .i64 x16_2 ∧ Aside0 (impl_Crc32.l1 kq x3_2 l0 (l0.length : Int) x8_1 x16_2 = some r) ∧ Aside0 (kq ≤ k1) ∧ Drawn0 w w')
            case atStart => exact ⟨(Go.bits .xor .u32 x3_1 ((rd l0 x8_1) % 4294967296)), (0), (by first | rfl | (simp; done) | (simp [*]; done)), (by first | rfl | (simp; done) | (simp [*]; done)), H', ⟨Nat.le_refl _⟩, by repeat (first | exact Drawn0.refl _ | apply Drawn0.step)⟩
            case round =>
              clear H'
              try clear p1
              try clear q1
              try clear hx1
              try clear c2
              try clear c2b0
              try clear p2
              try clear c3
              try clear c3b0
              try clear c4
              try clear c4b0
              try clear hx101_0
              try clear p101
              try clear q101
              obtain ⟨x3_2, x16_2, rfl, rfl, HA, HK2, ⟨m2, rfl⟩⟩ := hrel
              cases gk with
              | zero => exact absurd HA.out (by simp [impl_Crc32.l1])
              | succ k2 =>
                have H := HA.out
                clear HA
                simp only [impl_Crc32.l1] at H
                by_cases c5 : x16_2 < 8
                · rw [if_pos c5] at H
                  have c5b0 : decide (x16_2 < 8) = true := decide_eq_true c5
                  clear c5
                  have H' := Aside0.mk H
                  clear H
                  go_wp2
                  go_roundg k2
                  case measure => have := HK1.out; have := HK2.out; omega
                  case rel => exact ⟨(Go.bits .xor .u32 (x3_2 / 2) (Go.bits .and .u32 3988292384 ((-(Go.bits .and .u32 x3_2 1)) % 4294967296))), (wrap64 (x16_2 + 1)), (by first | rfl | (simp; done) | (simp [*]; done)), (by first | rfl | (simp; done) | (simp [*]; done)), H', ⟨by have := HK1.out; have := HK2.out; omega⟩, by repeat (first | exact Drawn0.refl _ | apply Drawn0.step)⟩
                · rw [if_neg c5] at H
                  have c5b0 : decide (x16_2 < 8) = false := decide_eq_false c5
                  clear c5
                  have H' := Aside0.mk H
                  clear H
                  go_wp2
                  go_roundg k2
                  case measure => have := HK1.out; have := HK2.out; omega
                  case rel => exact ⟨(x3_2), (wrap64 (x8_1 + 1)), (by first | rfl | (simp; done) | (simp [*]; done)), (by first | rfl | (simp; done) | (simp [*]; done)), H', ⟨by have := HK1.out; have := HK2.out; omega⟩, by repeat (first | exact Drawn0.refl _ | apply Drawn0.step)⟩
          · rw [if_neg c4] at H
            exact absurd H (by simp)
        · rw [if_neg c3] at H
          exact absurd H (by simp)
      · rw [if_neg c2] at H
        have c2b0 : decide (x8_1 < (l0.length : Int)) = false := decide_eq_false c2
        clear c2
        obtain rfl := Option.some.inj H
        go_wp2
        go_ret
        exact ⟨by first | rfl | (simp; done) | (simp [*]; done), by repeat (first | exact Drawn0.refl _ | apply Drawn0.step)⟩

end Go.Proofs.Ytgfadfahbhcllaa.Q
namespace Go.Proofs.Ytgfadfahbhcllaa.P
open Go.RowKit Go.Proofs.YtgfadfahbhcllaaW.PrintWords Go.Proofs.Ytgfadfahbhcllaa.Q
set_option linter.unusedVariables false
set_option linter.unusedSimpArgs false

def U32 (x : Int) : Prop := 0 ≤ x ∧ x ≤ 4294967295
theorem u32_wrap (n : Int) (h : U32 n) : IntKind.u32.wrap n = n := by rw [IntKind.wrap_u32]; unfold U32 at h; omega
theorem bits_u32 (op : BinOp) (x y : Int) : U32 (Go.bits op .u32 x y) := by
  unfold Go.bits U32
  rw [IntKind.wrap_u32]
  omega
theorem xor32 (a b : Nat) (ha : a < 4294967296) (hb : b < 4294967296) : Go.bits .xor .u32 (a : Int) (b : Int) = ((a ^^^ b : Nat) : Int) := by
  have h : a ^^^ b < 2 ^ 32 := Nat.xor_lt_two_pow (by simpa using ha) (by simpa using hb)
  unfold Go.bits
  simp only [BitVec.ofInt_natCast, BitVec.toNat_xor, BitVec.toNat_ofNat]
  rw [show IntKind.u32.bits = 32 from rfl, Nat.mod_eq_of_lt (by simpa using ha), Nat.mod_eq_of_lt (by simpa using hb)]
  exact u32_wrap _ ⟨by omega, by omega⟩
theorem and32 (a b : Nat) (ha : a < 4294967296) (hb : b < 4294967296) : Go.bits .and .u32 (a : Int) (b : Int) = ((a &&& b : Nat) : Int) := by
  have h : a &&& b < 2 ^ 32 := Nat.and_lt_two_pow _ (by simpa using hb)
  unfold Go.bits
  simp only [BitVec.ofInt_natCast, BitVec.toNat_and, BitVec.toNat_ofNat]
  rw [show IntKind.u32.bits = 32 from rfl, Nat.mod_eq_of_lt (by simpa using ha), Nat.mod_eq_of_lt (by simpa using hb)]
  exact u32_wrap _ ⟨by omega, by omega⟩
theorem xor32_comm (x y : Int) (hx : U32 x) (hy : U32 y) : Go.bits .xor .u32 x y = Go.bits .xor .u32 y x := by
  obtain ⟨a, rfl⟩ := Int.eq_ofNat_of_zero_le hx.1
  obtain ⟨b, rfl⟩ := Int.eq_ofNat_of_zero_le hy.1
  have h1 := hx.2
  have h2 := hy.2
  rw [xor32 a b (by omega) (by omega), xor32 b a (by omega) (by omega), Nat.xor_comm]
/-- One bit of the checksum. -/
def bit (x : Int) : Int := if x % 2 = 1 then Go.bits .xor .u32 (x / 2) 3988292384 else x / 2
theorem bit_range {x : Int} (h : U32 x) : U32 (bit x) := by
  unfold bit
  split
  · exact bits_u32 _ _ _
  · unfold U32 at *
    omega
theorem bit_spec {x : Int} (h : U32 x) : (if Int.tmod x 2 = 1 then Go.bits .xor .u32 ((Int.tdiv x 2) % 4294967296) 3988292384 else (Int.tdiv x 2) % 4294967296) = bit x := by
  unfold U32 at h
  have e1 : Int.tmod x 2 = x % 2 := Int.tmod_eq_emod_of_nonneg h.1
  have e2 : Int.tdiv x 2 = x / 2 := Int.tdiv_eq_ediv_of_nonneg h.1
  have e3 : (x / 2) % 4294967296 = x / 2 := by omega
  rw [e1, e2, e3]
  rfl
theorem bit_impl {x : Int} (h : U32 x) : Go.bits .xor .u32 (x / 2) (Go.bits .and .u32 3988292384 ((-(Go.bits .and .u32 x 1)) % 4294967296)) = bit x := by
  obtain ⟨n, rfl⟩ := Int.eq_ofNat_of_zero_le h.1
  have h1 := h.2
  have e : Go.bits .and .u32 (n : Int) 1 = ((n % 2 : Nat) : Int) := by
    have := and32 n 1 (by omega) (by omega)
    rw [Nat.and_one_is_mod] at this
    exact this
  unfold bit
  rw [e]
  rcases Nat.mod_two_eq_zero_or_one n with h2 | h2
  · rw [h2, if_neg (by omega)]
    rw [show (-((0 : Nat) : Int)) % 4294967296 = 0 from by decide, show Go.bits .and .u32 3988292384 0 = 0 from by decide]
    have := xor32 (n / 2) 0 (by omega) (by omega)
    rw [Nat.xor_zero] at this
    exact this
  · rw [h2, if_pos (by omega)]
    rw [show (-((1 : Nat) : Int)) % 4294967296 = 4294967295 from by decide, show Go.bits .and .u32 3988292384 4294967295 = 3988292384 from by decide]
def bitN : Nat → Int → Int
  | 0, x => x
  | n + 1, x => bitN n (bit x)
theorem bitN_range : ∀ n {x : Int}, U32 x → U32 (bitN n x)
  | 0, _, h => h
  | n + 1, _, h => bitN_range n (bit_range h)
def crcByte (c b : Int) : Int := bitN 8 (Go.bits .xor .u32 c (b % 4294967296))
def crcOf (l : List Int) (c : Int) : Int := l.foldl crcByte c
theorem crcOf_range : ∀ (l : List Int) {c : Int}, U32 c → U32 (crcOf l c)
  | [], _, h => h
  | b :: l, _, _ => crcOf_range l (bitN_range 8 (bits_u32 _ _ _))
def crc32 (l : List Int) : Int := Go.bits .xor .u32 (crcOf l 4294967295) 4294967295
theorem crc32_range (l : List Int) : U32 (crc32 l) := bits_u32 _ _ _
theorem spec_inner (l : List Int) (i4 : Int) {r : Int} : ∀ (j i : Nat) (x : Int), i + j = 8 → U32 x → Ev (fun k => spec_Crc32.l0 k l (bitN j x) (wrap64 (i4 + 1))) r → Ev (fun k => spec_Crc32.l1 k l x i4 (i : Int)) r
  | 0, i, x, h, _, e => by
    refine Ev.step ⟨0, fun k _ => ?_⟩ e
    simp only [spec_Crc32.l1]
    rw [if_neg (by omega)]
    rfl
  | j + 1, i, x, h, hx, e => by
    refine Ev.step ⟨0, fun k _ => ?_⟩ (spec_inner l i4 j (i + 1) (bit x) (by omega) (bit_range hx) e)
    simp only [spec_Crc32.l1]
    rw [if_pos (by omega), w64s (i := i) (n := 8) (by omega) (by omega), ← bit_spec hx]
    split <;> rfl
theorem spec_Crc32_ev (l : List Int) (h : l.length ≤ 4611686018427387904) : Ev (fun k => spec_Crc32.f k l) (crc32 l) := by
  have key : ∀ (rest done : List Int) (c : Int), done ++ rest = l → U32 c → Ev (fun k => spec_Crc32.l0 k l c (done.length : Int)) (Go.bits .xor .u32 (crcOf rest c) 4294967295) := by
    intro rest
    induction rest with
    | nil =>
      intro done c hl hc
      refine Ev.last ⟨0, fun k _ => ?_⟩
      have : l.length = done.length := by rw [← hl, List.append_nil]
      simp only [spec_Crc32.l0]
      rw [if_neg (by omega)]
      rfl
    | cons b rest ih =>
      intro done c hl hc
      have hlen : done.length + (rest.length + 1) = l.length := by rw [← hl, List.length_append, List.length_cons]
      have hat : l[done.length]? = some b := by rw [← hl]; simp
      have h1 := ih (done ++ [b]) (crcByte c b) (by rw [← hl]; simp) (bitN_range 8 (bits_u32 _ _ _))
      rw [List.length_append, List.length_singleton] at h1
      refine Ev.step ⟨0, fun k _ => ?_⟩ (spec_inner l (done.length : Int) 8 0 (Go.bits .xor .u32 c (b % 4294967296)) rfl (bits_u32 _ _ _) ?_)
      · simp only [spec_Crc32.l0]
        rw [if_pos (by omega), if_pos (by omega), rd_at hat]
        rfl
      · rw [w64s (i := done.length) (n := l.length) (by omega) (by omega)]
        exact h1
  exact key l [] 4294967295 rfl ⟨by decide, by decide⟩
theorem impl_inner (l : List Int) (n i4 : Int) {r : Int} : ∀ (j i : Nat) (x : Int), i + j = 8 → U32 x → Ev (fun k => impl_Crc32.l0 k (bitN j x) l n (wrap64 (i4 + 1))) r → Ev (fun k => impl_Crc32.l1 k x l n i4 (i : Int)) r
  | 0, i, x, h, _, e => by
    refine Ev.step ⟨0, fun k _ => ?_⟩ e
    simp only [impl_Crc32.l1]
    rw [if_neg (by omega)]
    rfl
  | j + 1, i, x, h, hx, e => by
    refine Ev.step ⟨0, fun k _ => ?_⟩ (impl_inner l n i4 j (i + 1) (bit x) (by omega) (bit_range hx) e)
    simp only [impl_Crc32.l1]
    rw [if_pos (by omega), w64s (i := i) (n := 8) (by omega) (by omega), bit_impl hx]
theorem impl_Crc32_ev (l : List Int) (h : l.length ≤ 4611686018427387904) : Ev (fun k => impl_Crc32.f k l) (crc32 l) := by
  have key : ∀ (rest done : List Int) (c : Int), done ++ rest = l → U32 c → Ev (fun k => impl_Crc32.l0 k c l (l.length : Int) (done.length : Int)) (Go.bits .xor .u32 4294967295 (crcOf rest c)) := by
    intro rest
    induction rest with
    | nil =>
      intro done c hl hc
      refine Ev.last ⟨0, fun k _ => ?_⟩
      have : l.length = done.length := by rw [← hl, List.append_nil]
      simp only [impl_Crc32.l0]
      rw [if_neg (by omega)]
      rfl
    | cons b rest ih =>
      intro done c hl hc
      have hlen : done.length + (rest.length + 1) = l.length := by rw [← hl, List.length_append, List.length_cons]
      have hat : l[done.length]? = some b := by rw [← hl]; simp
      have h1 := ih (done ++ [b]) (crcByte c b) (by rw [← hl]; simp) (bitN_range 8 (bits_u32 _ _ _))
      rw [List.length_append, List.length_singleton] at h1
      refine Ev.step ⟨0, fun k _ => ?_⟩ (impl_inner l (l.length : Int) (done.length : Int) 8 0 (Go.bits .xor .u32 c (b % 4294967296)) rfl (bits_u32 _ _ _) ?_)
      · simp only [impl_Crc32.l0]
        rw [if_pos (by omega), if_pos (by omega), if_pos (by omega), rd_at hat]
        rfl
      · rw [w64s (i := done.length) (n := l.length) (by omega) (by omega)]
        exact h1
  have h1 := key l [] 4294967295 rfl ⟨by decide, by decide⟩
  rw [xor32_comm _ _ ⟨by decide, by decide⟩ (crcOf_range l ⟨by decide, by decide⟩)] at h1
  exact h1
end Go.Proofs.Ytgfadfahbhcllaa.P
namespace Go.Proofs.Ytgfadfahbhcllaa.Q
open Go.RowKit Go.Proofs.YtgfadfahbhcllaaW.PrintWords Go.Proofs.YtgfadfahbhcllaaW.PrintLast Go.Proofs.Ytgfadfahbhcllaa.LK Go.Proofs.YtgfadfahbhcllaaW.PrintMore
attribute [local go_sem] max2_int min2_int max_two min_two max_three min_three max_four min_four   -- for this text's walks alone
set_option linter.unusedVariables false
set_option linter.unusedSimpArgs false

/-! ### impl_Frame_good: function 51 -/
def impl_Frame_good.f (a0_0 : Int) (a0_1 : Int) (a0_2 : Int) (a0_3 : Int) : Option (Bool) := if a0_1 ≥ 1 then (some (decide (a0_1 ≤ 3))) else (some false)
set_option maxHeartbeats 8000000 in
set_option maxRecDepth 100000 in
theorem impl_Frame_good.calls (a0_0 : Int) (a0_1 : Int) (a0_2 : Int) (a0_3 : Int) (r : Bool) (w : World) (h : impl_Frame_good.f a0_0 a0_1 a0_2 a0_3 = some r) :
    Calls Try.prog 51 #[.agg #[.int .u32 a0_0, .int .i64 a0_1, .int .u32 a0_2, .int .u32 a0_3]] w fun e w' => e = .returned (.bool r) ∧ Below w.heap.size w w' := by
  have hu27 := Try.underlying27
  have HB := Aside0.mk (Below.refl w.heap.size w)
  have H : (if a0_1 ≥ 1 then (some (decide (a0_1 ≤ 3))) else (some false)) = some r := h
  clear h
  by_cases c2 : a0_1 ≥ 1
  · rw [if_pos c2] at H
    have c2b0 : decide (1 ≤ a0_1) = true := decide_eq_true c2
    clear c2
    obtain rfl := Option.some.inj H
    go_enter Try.func51, Try.ntmps51
    go_wp2_with (first | ((with_reducible refine gate_dst (N := 1) rfl ?_); refine box_event ?hg (N := 1) ?hd (cs := #[.int .u32 a0_0, .int .i64 a0_1, .int .u32 a0_2, .int .u32 a0_3]) (t := 27) ?hr ?_; (case hd => rfl); (case hg => rfl); (case hr => first | (go_simp; done) | (go_simp; rfl)); intro gb101 hg w3 hbox hb; have n0_ := Aside0.mk (below_step (by repeat (first | (with_reducible first | exact HB.out | apply below_alloc | apply pw_below_drewN | apply below_drew1) | exact HB.out)) hb); have n1_ := Aside0.mk (hbox); have n2_ := Aside0.mk ((by rw [hg]; exact (below_size (by repeat (first | (with_reducible first | exact HB.out | apply below_alloc | apply pw_below_drewN | apply below_drew1) | exact HB.out))) : w.heap.size ≤ gb101)); have n3_ := Aside0.mk ((by rw [hg]; exact (below_size (by repeat (first | (with_reducible first | exact HB.out | apply below_alloc | apply pw_below_drewN | apply below_drew1) | exact HB.out))) : w.heap.size ≤ gb101)); clear HB; have HB := n0_; have BK101 := n1_; have GW101 := n2_; have GE101 := n3_; clear n0_ n1_ n2_ n3_; clear hb hbox hg; have hcz4_0 : w3.cell? ⟨gb101, 0, none⟩ = some (.int .u32 a0_0) := (blk_cell BK101.out 0).trans rfl; have hcz4_1 : w3.cell? ⟨gb101, 1, none⟩ = some (.int .i64 a0_1) := (blk_cell BK101.out 1).trans rfl; have hcz4_2 : w3.cell? ⟨gb101, 2, none⟩ = some (.int .u32 a0_2) := (blk_cell BK101.out 2).trans rfl; have hcz4_3 : w3.cell? ⟨gb101, 3, none⟩ = some (.int .u32 a0_3) := (blk_cell BK101.out 3).trans rfl; have hfz4_0 := blk_frozen BK101.out 0; have hfz4_1 := blk_frozen BK101.out 1; have hfz4_2 := blk_frozen BK101.out 2; have hfz4_3 := blk_frozen BK101.out 3))
    go_ret
    exact ⟨by first | rfl | (simp [errW_none, errW_some] <;> rfl) | (simp [*, errW_none, errW_some] <;> rfl), by repeat (first | (with_reducible first | exact HB.out | apply below_alloc | apply pw_below_drewN | apply below_drew1 | refine below_set ?_ GE101.out) | exact HB.out)⟩
  · rw [if_neg c2] at H
    have c2b0 : decide (1 ≤ a0_1) = false := decide_eq_false c2
    clear c2
    obtain rfl := Option.some.inj H
    go_enter Try.func51, Try.ntmps51
    go_wp2_with (first | ((with_reducible refine gate_dst (N := 1) rfl ?_); refine box_event ?hg (N := 1) ?hd (cs := #[.int .u32 a0_0, .int .i64 a0_1, .int .u32 a0_2, .int .u32 a0_3]) (t := 27) ?hr ?_; (case hd => rfl); (case hg => rfl); (case hr => first | (go_simp; done) | (go_simp; rfl)); intro gb101 hg w5 hbox hb; have n0_ := Aside0.mk (below_step (by repeat (first | (with_reducible first | exact HB.out | apply below_alloc | apply pw_below_drewN | apply below_drew1) | exact HB.out)) hb); have n1_ := Aside0.mk (hbox); have n2_ := Aside0.mk ((by rw [hg]; exact (below_size (by repeat (first | (with_reducible first | exact HB.out | apply below_alloc | apply pw_below_drewN | apply below_drew1) | exact HB.out))) : w.heap.size ≤ gb101)); have n3_ := Aside0.mk ((by rw [hg]; exact (below_size (by repeat (first | (with_reducible first | exact HB.out | apply below_alloc | apply pw_below_drewN | apply below_drew1) | exact HB.out))) : w.heap.size ≤ gb101)); clear HB; have HB := n0_; have BK101 := n1_; have GW101 := n2_; have GE101 := n3_; clear n0_ n1_ n2_ n3_; clear hb hbox hg; have hcz6_0 : w5.cell? ⟨gb101, 0, none⟩ = some (.int .u32 a0_0) := (blk_cell BK101.out 0).trans rfl; have hcz6_1 : w5.cell? ⟨gb101, 1, none⟩ = some (.int .i64 a0_1) := (blk_cell BK101.out 1).trans rfl; have hcz6_2 : w5.cell? ⟨gb101, 2, none⟩ = some (.int .u32 a0_2) := (blk_cell BK101.out 2).trans rfl; have hcz6_3 : w5.cell? ⟨gb101, 3, none⟩ = some (.int .u32 a0_3) := (blk_cell BK101.out 3).trans rfl; have hfz6_0 := blk_frozen BK101.out 0; have hfz6_1 := blk_frozen BK101.out 1; have hfz6_2 := blk_frozen BK101.out 2; have hfz6_3 := blk_frozen BK101.out 3))
    go_ret
    exact ⟨by first | rfl | (simp [errW_none, errW_some] <;> rfl) | (simp [*, errW_none, errW_some] <;> rfl), by repeat (first | (with_reducible first | exact HB.out | apply below_alloc | apply pw_below_drewN | apply below_drew1 | refine below_set ?_ GE101.out) | exact HB.out)⟩

end Go.Proofs.Ytgfadfahbhcllaa.Q
namespace Go.Proofs.Ytgfadfahbhcllaa.Q
open Go.RowKit Go.Proofs.YtgfadfahbhcllaaW.PrintWords Go.Proofs.YtgfadfahbhcllaaW.PrintLast Go.Proofs.YtgfadfahbhcllaaW.PrintMore Go.Proofs.Ytgfadfahbhcllaa.LK
set_option linter.unusedVariables false
set_option linter.unusedSimpArgs false
/-- The first 56 bytes of a frame's sector, and the rest. -/
def frameHead (q kd a b : Int) : List Int := P.leB 4 q ++ ([74, 49, kd % 256, 0] ++ (P.leB 4 a ++ (P.leB 4 b ++ List.replicate 40 0)))
def frameCode (q kd a b : Int) : List Int := frameHead q kd a b ++ (P.leB 4 (P.crc32 (frameHead q kd a b)) ++ P.leB 4 q)
theorem frameHead_length (q kd a b : Int) : (frameHead q kd a b).length = 56 := rfl
theorem frameCode_length (q kd a b : Int) : (frameCode q kd a b).length = 64 := rfl
def fc0 : List Int := List.replicate 64 0
def fc1 (q : Int) : List Int := splice fc0 0 (P.leB 4 q)
def fc2 (q : Int) : List Int := splice (fc1 q) 4 [74, 49]
def fc3 (q kd : Int) : List Int := (fc2 q).set 6 (kd % 256)
def fc4 (q kd a : Int) : List Int := splice (fc3 q kd) 8 (P.leB 4 a)
def fc5 (q kd a b : Int) : List Int := splice (fc4 q kd a) 12 (P.leB 4 b)
def fc6 (q kd a b c : Int) : List Int := splice (fc5 q kd a b) 56 (P.leB 4 c)
def fc7 (q kd a b c : Int) : List Int := splice (fc6 q kd a b c) 60 (P.leB 4 q)
theorem fc5_head (q kd a b : Int) : (fc5 q kd a b).take 56 = frameHead q kd a b := rfl
theorem fc7_code (q kd a b : Int) : fc7 q kd a b (P.crc32 (frameHead q kd a b)) = frameCode q kd a b := rfl
theorem fc0_v : bytesV fc0 = List.replicate 64 (Value.int .u8 0) := rfl
theorem bytesV_set (l : List Int) (i : Nat) (x : Int) : (bytesV l).set i (.int .u8 x) = bytesV (l.set i x) := by unfold bytesV; exact List.map_set.symm
theorem set_seg {l : List Int} {i : Nat} {x : Int} (h : i < l.length) : (bytesV l).take i ++ [.int .u8 x] ++ (bytesV l).drop (i + 1) = bytesV (l.set i x) := by
  rw [← bytesV_set, List.set_eq_take_append_cons_drop, if_pos (by rw [bytesV_length]; exact h), List.append_assoc]
  rfl
set_option maxHeartbeats 8000000 in
set_option maxRecDepth 100000 in
theorem code_calls {q kd a b : Int} {w : World} (hq : 0 ≤ q ∧ q ≤ 4294967295) (ha : 0 ≤ a ∧ a ≤ 4294967295) (hb : 0 ≤ b ∧ b ≤ 4294967295) :
    Calls Try.prog 52 #[.agg #[.int .u32 q, .int .i64 kd, .int .u32 a, .int .u32 b]] w fun e w' => e = .returned (.agg (bytesV (frameCode q kd a b)).toArray) ∧ Below w.heap.size w w' := by
  have jq : IntKind.u64.wrap q = q := by rw [IntKind.wrap_u64]; omega
  have ja : IntKind.u64.wrap a = a := by rw [IntKind.wrap_u64]; omega
  have jb : IntKind.u64.wrap b = b := by rw [IntKind.wrap_u64]; omega
  have jk : IntKind.u8.wrap kd = kd % 256 := by rw [IntKind.wrap_u8]
  have hcr := P.crc32_range (frameHead q kd a b)
  obtain ⟨c, hc⟩ : ∃ c, c = P.crc32 (frameHead q kd a b) := ⟨_, rfl⟩
  rw [← hc] at hcr
  unfold P.U32 at hcr
  have jc : IntKind.u64.wrap c = c := by rw [IntKind.wrap_u64]; omega
  obtain ⟨kc, hkc⟩ := (P.impl_Crc32_ev (frameHead q kd a b) (by rw [frameHead_length]; decide)).ex
  rw [← hc] at hkc
  have HKC := Aside0.mk hkc
  have HC := Aside0.mk hc
  have HCr := Aside0.mk hcr
  have HQ := Aside0.mk hq
  have HA := Aside0.mk ha
  have HBb := Aside0.mk hb
  have H0 := Aside0.mk (Bx.refl w)
  clear hq ha hb hkc hc hcr
  go_enter Try.func52, Try.ntmps52
  go_wp2_with (first | ((with_reducible refine gate_dst (N := 1) rfl ?_); refine Aside0.out ?_))
  refine Aside0.mk ?_
  refine mk ?hw1 (N := 1) ?hd1 (cs := #[.int .u32 q, .int .i64 kd, .int .u32 a, .int .u32 b]) (t := 27) ?hr1 ?_
  case hd1 => rfl
  case hw1 => rfl
  case hr1 => first | (go_simp; done) | (go_simp; rfl)
  intro g1 hg1_ w101 hb1 hB1
  have H102 := Aside0.mk (H0.out.new hg1_ hb1 hB1)
  clear hg1_ hb1 hB1 H0
  go_wp2_with (first | ((with_reducible refine gate_dst (N := 2) rfl ?_); refine Aside0.out ?_))
  refine Aside0.mk ?_
  refine mk ?hw3 (N := 2) ?hd3 (cs := (bytesV fc0).toArray) (t := 79) ?hr3 ?_
  case hd3 => rfl
  case hw3 => rfl
  case hr3 => first | (go_simp; done) | (go_simp; rfl)
  intro g2 hg2_ w103 hb3 hB3
  have H104 := Aside0.mk (H102.out.new hg2_ hb3 hB3)
  clear hg2_ hb3 hB3 H102
  go_wp2_with (first | ((with_reducible refine gate_dst (N := 3) rfl ?_); refine Aside0.out ?_))
  refine Aside0.mk ?_
  refine mk ?hw5 (N := 3) ?hd5 (cs := (bytesV fc0).toArray) (t := 79) ?hr5 ?_
  case hd5 => rfl
  case hw5 => rfl
  case hr5 => first | (go_simp; done) | (go_simp; rfl)
  intro g3 hg3_ w105 hb5 hB5
  have H106 := Aside0.mk (H104.out.new hg3_ hb5 hB5)
  clear hg3_ hb5 hB5 H104
  try go_wp2
  have H108 := Aside0.mk H106.out.drew
  refine start_ (n := 5) (S := fun w' => w'.cell? ⟨g1, 0, none⟩ = some (.int .u32 q)) (ds := [4]) #[false, false, false, false, false] (by kernel_rfl) rfl rfl ((blk_cell H108.out.gt2 0).trans rfl) (fun hHeld => ?_)
  clear H106
  generalize w105.drew = w107 at H108 hHeld ⊢
  refine pure_ (i := 0) (N := some 4) (v := ?_) (a' := ?_) #[true, false, false, false, false] rfl rfl (by kernel_rfl) (fun _ _ _ h => h) (Or.inl ⟨by rfl, ?_⟩) ?_ ?_
  rotate_left
  · intro w'
    go_simp
    with_reducible rfl
  rotate_left
  · simp only [Act.put, List.setIfInBounds_toArray, List.set_cons_zero, List.set_cons_succ, i64_w, i32_w]
    rfl
  refine pure_ (i := 1) (N := some 5) (v := ?_) (a' := ?_) #[true, true, false, false, false] rfl rfl (by kernel_rfl) (fun _ _ _ h => h) (Or.inl ⟨by rfl, ?_⟩) ?_ ?_
  rotate_left
  · intro w'
    go_simp
    with_reducible rfl
  rotate_left
  · simp only [Act.put, List.setIfInBounds_toArray, List.set_cons_zero, List.set_cons_succ, i64_w, i32_w]
    rfl
  refine take_ (i := 2) (N := some 6) (v := ?_) (a' := ?_) #[true, true, true, false, false] rfl rfl (by kernel_rfl) (fun _ _ _ h => h) (Or.inl ⟨by rfl, ?_⟩) hHeld ?_ ?_
  rotate_left
  · rintro w' s0
    go_simp
    with_reducible rfl
  rotate_left
  · simp only [Act.put, List.setIfInBounds_toArray, List.set_cons_zero, List.set_cons_succ, i64_w, i32_w]
    rfl
  refine pure_ (i := 3) (N := some 7) (v := ?_) (a' := ?_) #[true, true, true, true, false] rfl rfl (by kernel_rfl) (fun _ _ _ h => h) (Or.inl ⟨by rfl, ?_⟩) ?_ ?_
  rotate_left
  · intro w'
    go_simp
    with_reducible rfl
  rotate_left
  · simp only [Act.put, List.setIfInBounds_toArray, List.set_cons_zero, List.set_cons_succ, i64_w, i32_w]
    rfl
  refine last_ (i := 4) (N := some 8) #[true, true, true, true, true] rfl rfl (by kernel_rfl) (by decide) (fun K hK => ?_)
  refine goes_ Try.func88 (by kernel_rfl) rfl #[.slice (some ⟨g3, 0, none⟩) 64 64, .int .i64 0, .int .i64 4, .int .u64 q] (by rfl) rfl rfl (by (try simp only [List.map_toArray, List.map_cons, List.map_nil]); first | done | rfl) ?_
  refine (put_box (l := fc0) 0 4 H108.out.below (H108.out.at_ _ (List.mem_cons_self ..)).1 H108.out.gt0 (by have := HQ.out; omega) (by decide) (by show 0 + 4 ≤ 64; decide) (by show 64 ≤ 4611686018427387904; decide) (by show 0 < 64; decide)).mono ?_
  rintro e w109 ⟨rfl, hb9, hS9⟩
  refine ⟨_, rfl, ?_⟩
  have H110 := Aside0.mk (H108.out.wr0 (cs' := (bytesV (fc1 q)).toArray) hb9 hS9)
  clear hb9 hS9 H108
  refine hK.out _ _ ?_
  clear hK K
  refine done_ (by kernel_rfl) ?_
  try dsimp only
  go_wp2_with (first | ((with_reducible refine gate_builtin (b := .copy) (xs := #[.tmp 9, .const (.string ⟨#[74, 49]⟩)]) rfl ?_); refine Aside0.out ?_))
  refine Aside0.mk ?_
  obtain ⟨i5, hi5, _, hsz5, _⟩ := info_parts info5
  refine copy_str rfl (.tmp 9) _ 25 _ rfl 5 Try.underlying25 (fun w_ => by simp [sizeOf, typeInfo, hi5, hsz5, Result.andThen]) g3 4 60 60 rfl _ rfl (by decide) (bytesV (fc1 q)) 79 H110.out.gt0 [74, 49] rfl rfl (by rw [bytesV_length]; show 6 ≤ 64; decide) ?_
  intro w111 hb11 hS11
  rw [show splice (bytesV (fc1 q)) 4 (bytesV [74, 49]) = bytesV (fc2 q) from rfl] at hb11
  clear hi5 hsz5
  have H112 := Aside0.mk (H110.out.wr0 (cs' := (bytesV (fc2 q)).toArray) hb11 hS11)
  clear hb11 hS11 H110
  have hk1 : w111.cell? ⟨g1, 1, none⟩ = some (.int .i64 kd) := (blk_cell H112.out.gt2 1).trans rfl
  go_wp2_with (first | ((with_reducible refine gate_store (t := 5) (p := 14) rfl ?_); refine Aside0.out ?_))
  refine Aside0.mk ?_
  refine st (o' := 6) (u := .int .u8 (kd % 256)) (seg := [.int .u8 (kd % 256)]) ?hw13 ?hN13 rfl ?hp13 ?hx13 rfl H112.out.gt0 (by kernel_rfl) (by rw [List.size_toArray, bytesV_length]; show 7 ≤ 64; decide) (by simp [Value.oneCell']) ?_
  case hw13 => rfl
  case hN13 => rfl
  case hp13 => rfl
  case hx13 => rfl
  intro w113 hb13 hS13
  replace hb13 := hb13.trans (congrArg (fun z : List Value => some (Obj.cells z.toArray 79 (0, 0))) (set_seg (l := fc2 q) (i := 6) (x := kd % 256) (by show 6 < 64; decide)))
  clear hk1
  have H114 := Aside0.mk (H112.out.wr0 (cs' := (bytesV (fc3 q kd)).toArray) hb13 hS13)
  clear hb13 hS13 H112
  try go_wp2
  have H116 := Aside0.mk H114.out.drew
  refine start_ (n := 5) (S := fun w' => w'.cell? ⟨g1, 2, none⟩ = some (.int .u32 a)) (ds := [4]) #[false, false, false, false, false] (by kernel_rfl) rfl rfl ((blk_cell H116.out.gt2 2).trans rfl) (fun hHeld => ?_)
  clear H114
  generalize w113.drew = w115 at H116 hHeld ⊢
  refine pure_ (i := 0) (N := some 15) (v := ?_) (a' := ?_) #[true, false, false, false, false] rfl rfl (by kernel_rfl) (fun _ _ _ h => h) (Or.inl ⟨by rfl, ?_⟩) ?_ ?_
  rotate_left
  · intro w'
    go_simp
    with_reducible rfl
  rotate_left
  · simp only [Act.put, List.setIfInBounds_toArray, List.set_cons_zero, List.set_cons_succ, i64_w, i32_w]
    rfl
  refine pure_ (i := 1) (N := some 16) (v := ?_) (a' := ?_) #[true, true, false, false, false] rfl rfl (by kernel_rfl) (fun _ _ _ h => h) (Or.inl ⟨by rfl, ?_⟩) ?_ ?_
  rotate_left
  · intro w'
    go_simp
    with_reducible rfl
  rotate_left
  · simp only [Act.put, List.setIfInBounds_toArray, List.set_cons_zero, List.set_cons_succ, i64_w, i32_w]
    rfl
  refine take_ (i := 2) (N := some 17) (v := ?_) (a' := ?_) #[true, true, true, false, false] rfl rfl (by kernel_rfl) (fun _ _ _ h => h) (Or.inl ⟨by rfl, ?_⟩) hHeld ?_ ?_
  rotate_left
  · rintro w' s0
    go_simp
    with_reducible rfl
  rotate_left
  · simp only [Act.put, List.setIfInBounds_toArray, List.set_cons_zero, List.set_cons_succ, i64_w, i32_w]
    rfl
  refine pure_ (i := 3) (N := some 18) (v := ?_) (a' := ?_) #[true, true, true, true, false] rfl rfl (by kernel_rfl) (fun _ _ _ h => h) (Or.inl ⟨by rfl, ?_⟩) ?_ ?_
  rotate_left
  · intro w'
    go_simp
    with_reducible rfl
  rotate_left
  · simp only [Act.put, List.setIfInBounds_toArray, List.set_cons_zero, List.set_cons_succ, i64_w, i32_w]
    rfl
  refine last_ (i := 4) (N := some 19) #[true, true, true, true, true] rfl rfl (by kernel_rfl) (by decide) (fun K hK => ?_)
  refine goes_ Try.func88 (by kernel_rfl) rfl #[.slice (some ⟨g3, 0, none⟩) 64 64, .int .i64 8, .int .i64 4, .int .u64 a] (by rfl) rfl rfl (by (try simp only [List.map_toArray, List.map_cons, List.map_nil]); first | done | rfl) ?_
  refine (put_box (l := fc3 q kd) 8 4 H116.out.below (H116.out.at_ _ (List.mem_cons_self ..)).1 H116.out.gt0 (by have := HA.out; omega) (by decide) (by show 8 + 4 ≤ 64; decide) (by show 64 ≤ 4611686018427387904; decide) (by show 0 < 64; decide)).mono ?_
  rintro e w117 ⟨rfl, hb17, hS17⟩
  refine ⟨_, rfl, ?_⟩
  have H118 := Aside0.mk (H116.out.wr0 (cs' := (bytesV (fc4 q kd a)).toArray) hb17 hS17)
  clear hb17 hS17 H116
  refine hK.out _ _ ?_
  clear hK K
  refine done_ (by kernel_rfl) ?_
  try dsimp only
  try go_wp2
  have H120 := Aside0.mk H118.out.drew
  refine start_ (n := 5) (S := fun w' => w'.cell? ⟨g1, 3, none⟩ = some (.int .u32 b)) (ds := [4]) #[false, false, false, false, false] (by kernel_rfl) rfl rfl ((blk_cell H120.out.gt2 3).trans rfl) (fun hHeld => ?_)
  clear H118
  generalize w117.drew = w119 at H120 hHeld ⊢
  refine pure_ (i := 0) (N := some 20) (v := ?_) (a' := ?_) #[true, false, false, false, false] rfl rfl (by kernel_rfl) (fun _ _ _ h => h) (Or.inl ⟨by rfl, ?_⟩) ?_ ?_
  rotate_left
  · intro w'
    go_simp
    with_reducible rfl
  rotate_left
  · simp only [Act.put, List.setIfInBounds_toArray, List.set_cons_zero, List.set_cons_succ, i64_w, i32_w]
    rfl
  refine pure_ (i := 1) (N := some 21) (v := ?_) (a' := ?_) #[true, true, false, false, false] rfl rfl (by kernel_rfl) (fun _ _ _ h => h) (Or.inl ⟨by rfl, ?_⟩) ?_ ?_
  rotate_left
  · intro w'
    go_simp
    with_reducible rfl
  rotate_left
  · simp only [Act.put, List.setIfInBounds_toArray, List.set_cons_zero, List.set_cons_succ, i64_w, i32_w]
    rfl
  refine take_ (i := 2) (N := some 22) (v := ?_) (a' := ?_) #[true, true, true, false, false] rfl rfl (by kernel_rfl) (fun _ _ _ h => h) (Or.inl ⟨by rfl, ?_⟩) hHeld ?_ ?_
  rotate_left
  · rintro w' s0
    go_simp
    with_reducible rfl
  rotate_left
  · simp only [Act.put, List.setIfInBounds_toArray, List.set_cons_zero, List.set_cons_succ, i64_w, i32_w]
    rfl
  refine pure_ (i := 3) (N := some 23) (v := ?_) (a' := ?_) #[true, true, true, true, false] rfl rfl (by kernel_rfl) (fun _ _ _ h => h) (Or.inl ⟨by rfl, ?_⟩) ?_ ?_
  rotate_left
  · intro w'
    go_simp
    with_reducible rfl
  rotate_left
  · simp only [Act.put, List.setIfInBounds_toArray, List.set_cons_zero, List.set_cons_succ, i64_w, i32_w]
    rfl
  refine last_ (i := 4) (N := some 24) #[true, true, true, true, true] rfl rfl (by kernel_rfl) (by decide) (fun K hK => ?_)
  refine goes_ Try.func88 (by kernel_rfl) rfl #[.slice (some ⟨g3, 0, none⟩) 64 64, .int .i64 12, .int .i64 4, .int .u64 b] (by rfl) rfl rfl (by (try simp only [List.map_toArray, List.map_cons, List.map_nil]); first | done | rfl) ?_
  refine (put_box (l := fc4 q kd a) 12 4 H120.out.below (H120.out.at_ _ (List.mem_cons_self ..)).1 H120.out.gt0 (by have := HBb.out; omega) (by decide) (by show 12 + 4 ≤ 64; decide) (by show 64 ≤ 4611686018427387904; decide) (by show 0 < 64; decide)).mono ?_
  rintro e w121 ⟨rfl, hb21, hS21⟩
  refine ⟨_, rfl, ?_⟩
  have H122 := Aside0.mk (H120.out.wr0 (cs' := (bytesV (fc5 q kd a b)).toArray) hb21 hS21)
  clear hb21 hS21 H120
  refine hK.out _ _ ?_
  clear hK K
  refine done_ (by kernel_rfl) ?_
  try dsimp only
  try go_wp2
  have H124 := Aside0.mk H122.out.drew
  refine start_ (n := 5) (S := fun w' => True) (ds := [4]) #[false, false, false, false, false] (by kernel_rfl) rfl rfl trivial (fun hHeld => ?_)
  clear H122
  generalize w121.drew = w123 at H124 hHeld ⊢
  refine pure_ (i := 0) (N := some 25) (v := ?_) (a' := ?_) #[true, false, false, false, false] rfl rfl (by kernel_rfl) (fun _ _ _ h => h) (Or.inl ⟨by rfl, ?_⟩) ?_ ?_
  rotate_left
  · intro w'
    go_simp
    with_reducible rfl
  rotate_left
  · simp only [Act.put, List.setIfInBounds_toArray, List.set_cons_zero, List.set_cons_succ, i64_w, i32_w]
    rfl
  refine pure_ (i := 1) (N := some 26) (v := ?_) (a' := ?_) #[true, true, false, false, false] rfl rfl (by kernel_rfl) (fun _ _ _ h => h) (Or.inl ⟨by rfl, ?_⟩) ?_ ?_
  rotate_left
  · intro w'
    go_simp
    with_reducible rfl
  rotate_left
  · simp only [Act.put, List.setIfInBounds_toArray, List.set_cons_zero, List.set_cons_succ, i64_w, i32_w]
    rfl
  refine one_ (i := 2) (N := some 27) #[true, true, true, false, false] rfl rfl (by kernel_rfl) (by decide) (fun K hK => ?_)
  refine goes_ Try.func89 (by kernel_rfl) rfl #[.slice (some ⟨g3, 0, none⟩) 56 64] (by rfl) rfl rfl (by (try simp only [List.map_toArray, List.map_cons, List.map_nil]); first | done | rfl) ?_
  have hCh : Kd.C (Kd.int .u8) w123 (some ⟨g3, 0, none⟩) (frameHead q kd a b).length (frameHead q kd a b) := by
    have h1 := Kd.reads_of_C (enc := Value.int .u8) (d := (0 : Int)) (h1 := fun _ => rfl) (Kd.R_reads' (R_arr (base := 0) (l := fc5 q kd a b) H124.out.gt0 (Nat.zero_le _) (by show 64 ≤ 9223372036854775807; decide))).2.2
    have h2 := h1.take_ 56 (by show 56 ≤ 64; decide)
    rw [fc5_head] at h2
    exact Kd.C_of_reads (h1 := fun _ => rfl) h2
  refine (impl_Crc32.calls kc _ 64 (frameHead q kd a b) c _ hCh (by show 56 ≤ 64; decide) HKC.out).mono ?_
  rintro e w125 ⟨rfl, hd_⟩
  refine ⟨_, rfl, ?_⟩
  have hb_ := hd_.below
  clear hd_ hCh
  have H126 := Aside0.mk (H124.out.step hb_)
  clear hb_ H124
  refine hK.out _ _ trivial (fun hHeld => ?_)
  clear hK K
  refine norm_ (a' := ?_) ?_ ?_
  rotate_left
  · show Act.put _ (some 27) _ = _
    simp only [Act.put, List.setIfInBounds_toArray, List.set_cons_zero, List.set_cons_succ, i64_w, i32_w]
    rfl
  refine pure_ (i := 3) (N := some 28) (v := ?_) (a' := ?_) #[true, true, true, true, false] rfl rfl (by kernel_rfl) (fun _ _ _ h => h) (Or.inl ⟨by rfl, ?_⟩) ?_ ?_
  rotate_left
  · intro w'
    go_simp
    with_reducible rfl
  rotate_left
  · simp only [Act.put, List.setIfInBounds_toArray, List.set_cons_zero, List.set_cons_succ, i64_w, i32_w]
    rfl
  refine last_ (i := 4) (N := some 29) #[true, true, true, true, true] rfl rfl (by kernel_rfl) (by decide) (fun K hK => ?_)
  refine goes_ Try.func88 (by kernel_rfl) rfl #[.slice (some ⟨g3, 0, none⟩) 64 64, .int .i64 56, .int .i64 4, .int .u64 c] (by rfl) rfl rfl (by (try simp only [List.map_toArray, List.map_cons, List.map_nil]); first | done | rfl) ?_
  refine (put_box (l := fc5 q kd a b) 56 4 H126.out.below (H126.out.at_ _ (List.mem_cons_self ..)).1 H126.out.gt0 (by have := HCr.out; omega) (by decide) (by show 56 + 4 ≤ 64; decide) (by show 64 ≤ 4611686018427387904; decide) (by show 0 < 64; decide)).mono ?_
  rintro e w127 ⟨rfl, hb27, hS27⟩
  refine ⟨_, rfl, ?_⟩
  have H128 := Aside0.mk (H126.out.wr0 (cs' := (bytesV (fc6 q kd a b c)).toArray) hb27 hS27)
  clear hb27 hS27 H126
  refine hK.out _ _ ?_
  clear hK K
  refine done_ (by kernel_rfl) ?_
  try dsimp only
  try go_wp2
  have H130 := Aside0.mk H128.out.drew
  refine start_ (n := 5) (S := fun w' => w'.cell? ⟨g1, 0, none⟩ = some (.int .u32 q)) (ds := [4]) #[false, false, false, false, false] (by kernel_rfl) rfl rfl ((blk_cell H130.out.gt2 0).trans rfl) (fun hHeld => ?_)
  clear H128
  generalize w127.drew = w129 at H130 hHeld ⊢
  refine pure_ (i := 0) (N := some 30) (v := ?_) (a' := ?_) #[true, false, false, false, false] rfl rfl (by kernel_rfl) (fun _ _ _ h => h) (Or.inl ⟨by rfl, ?_⟩) ?_ ?_
  rotate_left
  · intro w'
    go_simp
    with_reducible rfl
  rotate_left
  · simp only [Act.put, List.setIfInBounds_toArray, List.set_cons_zero, List.set_cons_succ, i64_w, i32_w]
    rfl
  refine pure_ (i := 1) (N := some 31) (v := ?_) (a' := ?_) #[true, true, false, false, false] rfl rfl (by kernel_rfl) (fun _ _ _ h => h) (Or.inl ⟨by rfl, ?_⟩) ?_ ?_
  rotate_left
  · intro w'
    go_simp
    with_reducible rfl
  rotate_left
  · simp only [Act.put, List.setIfInBounds_toArray, List.set_cons_zero, List.set_cons_succ, i64_w, i32_w]
    rfl
  refine take_ (i := 2) (N := some 32) (v := ?_) (a' := ?_) #[true, true, true, false, false] rfl rfl (by kernel_rfl) (fun _ _ _ h => h) (Or.inl ⟨by rfl, ?_⟩) hHeld ?_ ?_
  rotate_left
  · rintro w' s0
    go_simp
    with_reducible rfl
  rotate_left
  · simp only [Act.put, List.setIfInBounds_toArray, List.set_cons_zero, List.set_cons_succ, i64_w, i32_w]
    rfl
  refine pure_ (i := 3) (N := some 33) (v := ?_) (a' := ?_) #[true, true, true, true, false] rfl rfl (by kernel_rfl) (fun _ _ _ h => h) (Or.inl ⟨by rfl, ?_⟩) ?_ ?_
  rotate_left
  · intro w'
    go_simp
    with_reducible rfl
  rotate_left
  · simp only [Act.put, List.setIfInBounds_toArray, List.set_cons_zero, List.set_cons_succ, i64_w, i32_w]
    rfl
  refine last_ (i := 4) (N := some 34) #[true, true, true, true, true] rfl rfl (by kernel_rfl) (by decide) (fun K hK => ?_)
  refine goes_ Try.func88 (by kernel_rfl) rfl #[.slice (some ⟨g3, 0, none⟩) 64 64, .int .i64 60, .int .i64 4, .int .u64 q] (by rfl) rfl rfl (by (try simp only [List.map_toArray, List.map_cons, List.map_nil]); first | done | rfl) ?_
  refine (put_box (l := fc6 q kd a b c) 60 4 H130.out.below (H130.out.at_ _ (List.mem_cons_self ..)).1 H130.out.gt0 (by have := HQ.out; omega) (by decide) (by show 60 + 4 ≤ 64; decide) (by show 64 ≤ 4611686018427387904; decide) (by show 0 < 64; decide)).mono ?_
  rintro e w131 ⟨rfl, hb31, hS31⟩
  refine ⟨_, rfl, ?_⟩
  have H132 := Aside0.mk (H130.out.wr0 (cs' := (bytesV (fc7 q kd a b c)).toArray) hb31 hS31)
  clear hb31 hS31 H130
  refine hK.out _ _ ?_
  clear hK K
  refine done_ (by kernel_rfl) ?_
  try dsimp only
  go_wp2_with (first | ((with_reducible refine gate_dst (N := 35) rfl ?_); refine Aside0.out ?_))
  refine Aside0.mk ?_
  refine ld ?hw33 rfl ?hx33 H132.out.gt0 Try.underlying79 rfl (by rw [List.size_toArray, bytesV_length, show (fc7 q kd a b c).length = 64 from rfl]; kernel_rfl) ?_
  case hw33 => rfl
  case hx33 => rfl
  go_wp2_with (first | ((with_reducible refine gate_store (t := 79) (p := 2) rfl ?_); refine Aside0.out ?_))
  refine Aside0.mk ?_
  refine st_all ?hw34 ?hN34 rfl ?hp34 (cs := (bytesV (fc7 q kd a b c)).toArray) ?hx34 H132.out.gt1 (by rw [List.size_toArray, bytesV_length, show (fc7 q kd a b c).length = 64 from rfl]; kernel_rfl) (by rw [List.size_toArray, List.size_toArray, bytesV_length, bytesV_length]; rfl) (bytesV_one _) ?_
  case hw34 => rfl
  case hN34 => rfl
  case hp34 => rfl
  case hx34 => rfl
  intro w134 hb34 hS34
  have H135 := Aside0.mk (H132.out.wr1 (cs' := (bytesV (fc7 q kd a b c)).toArray) hb34 hS34)
  clear hb34 hS34 H132
  go_wp2
  refine bodyPost_ret (results_cell_row rfl _ _ g2 79 (bytesV (fc7 q kd a b c)).toArray (0, 0) _ rfl H135.out.gt1 Try.underlying79 rfl (by rw [List.size_toArray, bytesV_length, show (fc7 q kd a b c).length = 64 from rfl]; kernel_rfl)) rfl ?_
  exact ⟨by rw [HC.out, fc7_code], H135.out.below⟩
/-- What EncodeFrame answers. -/
def impl_EncodeFrame.f (a0_0 : Int) (a0_1 : Int) (a0_2 : Int) (a0_3 : Int) : Option (List Int) :=
  if (0 ≤ a0_0 ∧ a0_0 ≤ 4294967295) ∧ (0 ≤ a0_2 ∧ a0_2 ≤ 4294967295) ∧ (0 ≤ a0_3 ∧ a0_3 ≤ 4294967295) then some (if 1 ≤ a0_1 ∧ a0_1 ≤ 3 then frameCode a0_0 a0_1 a0_2 a0_3 else []) else none
set_option maxHeartbeats 8000000 in
set_option maxRecDepth 100000 in
theorem impl_EncodeFrame.calls (a0_0 : Int) (a0_1 : Int) (a0_2 : Int) (a0_3 : Int) (r : List Int) (w : World) (h : impl_EncodeFrame.f a0_0 a0_1 a0_2 a0_3 = some r) :
    Calls Try.prog 13 #[.agg #[.int .u32 a0_0, .int .i64 a0_1, .int .u32 a0_2, .int .u32 a0_3]] w fun e w' => ∃ v0_ : Value, e = .returned (v0_) ∧ Kd.R (Kd.int .u8) 79 w' w.heap.size (fun _ => True) v0_ r ∧ Below w.heap.size w w' := by
  unfold impl_EncodeFrame.f at h
  by_cases hsz : (0 ≤ a0_0 ∧ a0_0 ≤ 4294967295) ∧ (0 ≤ a0_2 ∧ a0_2 ≤ 4294967295) ∧ (0 ≤ a0_3 ∧ a0_3 ≤ 4294967295)
  case neg => rw [if_neg hsz] at h; cases h
  rw [if_pos hsz] at h
  have h := Option.some.inj h
  have HSz := Aside0.mk hsz
  have H := Aside0.mk h
  have H0 := Aside0.mk (Bx.refl w)
  have hgd : impl_Frame_good.f a0_0 a0_1 a0_2 a0_3 = some (decide (1 ≤ a0_1 ∧ a0_1 ≤ 3)) := by
    unfold impl_Frame_good.f
    by_cases c1 : a0_1 ≥ 1
    · rw [if_pos c1]; congr 1; apply decide_eq_decide.2; omega
    · rw [if_neg c1, decide_eq_false (by omega)]
  have HGd := Aside0.mk hgd
  clear hsz h hgd
  go_enter Try.func13, Try.ntmps13
  go_wp2_with (first | ((with_reducible refine gate_dst (N := 1) rfl ?_); refine Aside0.out ?_))
  refine Aside0.mk ?_
  refine mk ?hw1 (N := 1) ?hd1 (cs := #[.int .u32 a0_0, .int .i64 a0_1, .int .u32 a0_2, .int .u32 a0_3]) (t := 27) ?hr1 ?_
  case hd1 => rfl
  case hw1 => rfl
  case hr1 => first | (go_simp; done) | (go_simp; rfl)
  intro g1 hg1_ w101 hb1 hB1
  have H102 := Aside0.mk (H0.out.new hg1_ hb1 hB1)
  clear hg1_ hb1 hB1 H0
  go_wp2_with (first | ((with_reducible refine gate_dst (N := 4) rfl ?_); refine Aside0.out ?_))
  refine Aside0.mk ?_
  refine ld ?hw3 rfl ?hx3 H102.out.gt0 Try.underlying27 rfl (by kernel_rfl) ?_
  case hw3 => rfl
  case hx3 => rfl
  go_wp2_with (first | ((with_reducible refine gate_callee (f := 51) rfl ?_); refine Aside0.out ?_))
  refine Aside0.mk ?_
  refine goesW (some 5) rfl ?hw4 Try.func51 (by kernel_rfl) rfl #[.agg #[.int .u32 a0_0, .int .i64 a0_1, .int .u32 a0_2, .int .u32 a0_3]] rfl (by (try simp only [List.map_toArray, List.map_cons, List.map_nil]); first | done | rfl) ?_
  case hw4 => rfl
  refine (impl_Frame_good.calls a0_0 a0_1 a0_2 a0_3 _ _ HGd.out).mono ?_
  rintro e w104 ⟨rfl, hb_⟩
  refine ⟨_, rfl, ?_⟩
  have H105 := Aside0.mk (H102.out.step hb_)
  clear hb_ H102
  by_cases hk : 1 ≤ a0_1 ∧ a0_1 ≤ 3
  · rw [decide_eq_true hk]
    have h := H.out
    rw [if_pos hk] at h
    subst h
    clear hk H
    go_wp2_with (first | ((with_reducible refine gate_dst (N := 7) rfl ?_); refine Aside0.out ?_))
    refine Aside0.mk ?_
    refine ld ?hw6 rfl ?hx6 H105.out.gt0 Try.underlying27 rfl (by kernel_rfl) ?_
    case hw6 => rfl
    case hx6 => rfl
    go_wp2_with (first | ((with_reducible refine gate_callee (f := 52) rfl ?_); refine Aside0.out ?_))
    refine Aside0.mk ?_
    refine goesW (some 8) rfl ?hw7 Try.func52 (by kernel_rfl) rfl #[.agg #[.int .u32 a0_0, .int .i64 a0_1, .int .u32 a0_2, .int .u32 a0_3]] rfl (by (try simp only [List.map_toArray, List.map_cons, List.map_nil]); first | done | rfl) ?_
    case hw7 => rfl
    refine (code_calls HSz.out.1 HSz.out.2.1 HSz.out.2.2).mono ?_
    rintro e w107 ⟨rfl, hb_⟩
    refine ⟨_, rfl, ?_⟩
    have H108 := Aside0.mk (H105.out.step hb_)
    clear hb_ H105
    go_wp2_with (first | ((with_reducible refine gate_dst (N := 3) rfl ?_); refine Aside0.out ?_))
    refine Aside0.mk ?_
    refine mk ?hw9 (N := 3) ?hd9 (cs := (bytesV fc0).toArray) (t := 79) ?hr9 ?_
    case hd9 => rfl
    case hw9 => rfl
    case hr9 => first | (go_simp; done) | (go_simp; rfl)
    intro g3 hg3_ w109 hb9 hB9
    have H110 := Aside0.mk (H108.out.new hg3_ hb9 hB9)
    clear hg3_ hb9 hB9 H108
    go_wp2_with (first | ((with_reducible refine gate_store (t := 79) (p := 3) rfl ?_); refine Aside0.out ?_))
    refine Aside0.mk ?_
    refine st_all ?hw11 ?hN11 rfl ?hp11 (cs := (bytesV (frameCode a0_0 a0_1 a0_2 a0_3)).toArray) ?hx11 H110.out.gt0 (by rw [List.size_toArray, bytesV_length, frameCode_length]; kernel_rfl) (by rw [List.size_toArray, List.size_toArray, bytesV_length, bytesV_length]; rfl) (bytesV_one _) ?_
    case hw11 => rfl
    case hN11 => rfl
    case hp11 => rfl
    case hx11 => rfl
    intro w111 hb11 hS11
    have H112 := Aside0.mk (H110.out.wr0 (cs' := (bytesV (frameCode a0_0 a0_1 a0_2 a0_3)).toArray) hb11 hS11)
    clear hb11 hS11 H110
    go_wp2
    go_ret
    exact ⟨_, rfl, R_arr (l := frameCode a0_0 a0_1 a0_2 a0_3) H112.out.gt0 (H112.out.at_ _ (List.mem_cons_self ..)).1 (by rw [frameCode_length]; decide), H112.out.below⟩
  · rw [decide_eq_false hk]
    have h := H.out
    rw [if_neg hk] at h
    subst h
    go_wp2
    go_ret
    exact ⟨_, rfl, Kd.R_nil _ _ _ _ _, H105.out.below⟩
end Go.Proofs.Ytgfadfahbhcllaa.Q
namespace Go.Proofs.Ytgfadfahbhcllaa.Q
open Go.RowKit Go.Proofs.YtgfadfahbhcllaaW.PrintWords Go.Proofs.YtgfadfahbhcllaaW.PrintLast Go.Proofs.Ytgfadfahbhcllaa.LK Go.Proofs.YtgfadfahbhcllaaW.PrintMore
attribute [local go_sem] max2_int min2_int max_two min_two max_three min_three max_four min_four   -- for this text's walks alone
set_option linter.unusedVariables false
set_option linter.unusedSimpArgs false

/-! ### spec_l1Zeros: function 49 -/
def spec_l1Zeros.l0 : Nat → Int → List Int → Int → Option (List Int)
  | 0, _, _, _ => none
  | k + 1, x0, x3, x4 => if x4 < x0 then (if x3.length < 140737488355328 then (spec_l1Zeros.l0 k x0 (x3 ++ [0]) (wrap64 (x4 + 1))) else (none)) else (some x3)
def spec_l1Zeros.f (k : Nat) (a0 : Int) : Option (List Int) := spec_l1Zeros.l0 k a0 (([] : List Int)) 0
theorem spec_l1Zeros.mono_l : ∀ k, (∀ y0 y1 y2, LeO (spec_l1Zeros.l0 k y0 y1 y2) (spec_l1Zeros.l0 (k + 1) y0 y1 y2))
  | 0 => fun _ _ _ r h => by simp [spec_l1Zeros.l0] at h
  | k + 1 => by
    have ih0 := spec_l1Zeros.mono_l k
    · intro y0 y1 y2
      unfold spec_l1Zeros.l0
      repeat' first
      | (with_reducible exact ih0 _ _ _)
      | (with_reducible exact LeO.refl _)
      | (with_reducible exact LeO.none _)
      | (with_reducible refine LeO.ite ?_ ?_)
      | (with_reducible refine LeO.bind ?_ (fun _ => ?_))
      | exact ih0 _ _ _
      | exact LeO.none _
      | refine LeO.ite ?_ ?_
      | refine LeO.bind ?_ (fun _ => ?_)
theorem spec_l1Zeros.mono : ∀ a0 k, LeO (spec_l1Zeros.f k a0) (spec_l1Zeros.f (k + 1) a0) := by
  intro a0 k
  have ih0 := spec_l1Zeros.mono_l k
  unfold spec_l1Zeros.f
  repeat' first
      | (with_reducible exact ih0 _ _ _)
      | (with_reducible exact LeO.refl _)
      | (with_reducible exact LeO.none _)
      | (with_reducible refine LeO.ite ?_ ?_)
      | (with_reducible refine LeO.bind ?_ (fun _ => ?_))
      | exact ih0 _ _ _
      | exact LeO.none _
      | refine LeO.ite ?_ ?_
      | refine LeO.bind ?_ (fun _ => ?_)
set_option maxHeartbeats 8000000 in
set_option maxRecDepth 100000 in
theorem spec_l1Zeros.calls (k : Nat) (a0 : Int) (r : List Int) (w : World) (h : spec_l1Zeros.f k a0 = some r) :
    Calls Try.prog 49 #[.int .i64 a0] w fun e w' => ∃ v0_ : Value, e = .returned (v0_) ∧ Kd.R (Kd.int .u8) 5 w' w.heap.size (fun _ => True) v0_ r ∧ Below w.heap.size w w' := by
  have HB := Aside0.mk (Below.refl w.heap.size w)
  have H : (spec_l1Zeros.l0 k a0 (([] : List Int)) 0) = some r := h
  clear h
  obtain ⟨y101, hy101⟩ : ∃ y_ : List Int, y_ = (([] : List Int)) := ⟨_, rfl⟩
  replace H : (spec_l1Zeros.l0 k a0 y101 0) = some r := by first | (rw [hy101]; with_reducible exact H) | (have H2_ := (Option.bind_some _ _).symm.trans H; rw [hy101]; with_reducible exact H2_) | (have H2_ := (Option.bind_some _ _).symm.trans H; with_reducible exact H2_) | with_reducible exact H | (rw [hy101]; exact H) | exact H
  have Ny101 := Aside0.mk hy101
  clear hy101
  have H' := Aside0.mk H
  clear H
  go_enter Try.func49, Try.ntmps49
  go_wp2_with (first | ((with_reducible refine gate_dst (N := 5) rfl ?_); refine Kd.R_lit (Kd.int .u8) _ 5 ?hg (N := 5) ?hd (xs := ([] : List Int)) (inner := []) (ok := fun _ => True) (okp := fun _ => True) ?hr ?hp (fun _ hk => hk) trivial (Below.refl _ _) (Nat.le_refl _) (by simp) ?_; (case hd => rfl); (case hg => rfl); (case hr => first | (go_simp; done) | (go_simp; rfl)); (case hp => exact (Reps.none _ _)); intro v102 w2 ho3 hb hg_ hnew_; clear hg_ hnew_; (first | rw [← Ny101.out] at ho3 | (simp only [Int.reduceToNat] at ho3; rw [← Ny101.out] at ho3)); have n0_ := Aside0.mk (Kd.R_lower ho3 (below_size (by repeat (first | (with_reducible first | exact HB.out | apply below_alloc | apply pw_below_drewN | apply below_drew1) | exact HB.out)))); have n1_ := Aside0.mk (below_step (by repeat (first | (with_reducible first | exact HB.out | apply below_alloc | apply pw_below_drewN | apply below_drew1) | exact HB.out)) hb); clear HB; have HO103 := n0_; have HB := n1_; clear n0_ n1_; clear hb ho3))
  go_loopg [3, 4] k (fun kq v3 v4 w' => ∃ (x3_1 : List Int) (x4_1 : Int), v4 = .int .i64 x4_1 ∧ Aside0 (spec_l1Zeros.l0 kq a0 x3_1 x4_1 = some r) ∧ Aside0 (kq ≤ k) ∧ Aside0 (Kd.R (Kd.int .u8) 5 w' w.heap.size (fun _ => True) v3 x3_1) ∧ Aside0 (Below w.heap.size w w'))
  case atStart => exact ⟨(y101), (0), (by first | rfl | (simp; done) | (simp [*]; done)), H', ⟨Nat.le_refl _⟩, ⟨by (with_reducible repeat (first | apply Kd.R_alloc | apply Kd.R_drewN | apply Kd.R_drew)); exact HO103.out⟩, ⟨by repeat (first | (with_reducible first | exact HB.out | apply below_alloc | apply pw_below_drewN | apply below_drew1) | exact HB.out)⟩⟩
  case round =>
    clear H'
    try clear p2
    obtain ⟨x3_1, x4_1, rfl, HA, HK1, HO_3, HB⟩ := hrel
    cases gk with
    | zero => exact absurd HA.out (by simp [spec_l1Zeros.l0])
    | succ k1 =>
      have H := HA.out
      clear HA
      simp only [spec_l1Zeros.l0] at H
      by_cases c4 : x4_1 < a0
      · rw [if_pos c4] at H
        have c4b0 : decide (x4_1 < a0) = true := decide_eq_true c4
        clear c4
        by_cases c5 : x3_1.length < 140737488355328
        · rw [if_pos c5] at H
          have LMc5 := Aside0.mk c5
          clear c5
          obtain ⟨y104, hy104⟩ : ∃ y_ : List Int, y_ = (x3_1 ++ [0]) := ⟨_, rfl⟩
          replace H : (spec_l1Zeros.l0 k1 a0 y104 (wrap64 (x4_1 + 1))) = some r := by first | (rw [hy104]; with_reducible exact H) | (have H2_ := (Option.bind_some _ _).symm.trans H; rw [hy104]; with_reducible exact H2_) | (have H2_ := (Option.bind_some _ _).symm.trans H; with_reducible exact H2_) | with_reducible exact H | (rw [hy104]; exact H) | exact H
          have Ny104 := Aside0.mk hy104
          clear hy104
          have H' := Aside0.mk H
          clear H
          go_wp2_with (first | ((with_reducible refine gate_builtin (b := .append) (xs := #[.tmp 11, .tmp 12]) rfl ?_); at_builtin; refine Kd.R_append (Kd.int .u8) (w0 := w) w.heap.size rfl (.tmp 11) (.tmp 12) 25 5 (.int .u8 0) 1 rfl Try.underlying25 info5 rfl (by decide) (by omega) u3 x3_1 0 [.int .u8 0] (fun _ => True) (fun _ => False) rfl rfl ?aP (fun _ hk => hk.elim) ?aF ?aO ?aB ?aS ?aL ?_; (case aP => exact rfl); (case aB => exact (by repeat (first | (with_reducible first | exact HB.out | apply below_alloc | apply pw_below_drewN | apply below_drew1) | exact HB.out))); (case aF => exact (fun _ _ => trivial)); (case aO => exact (by (with_reducible repeat (first | apply Kd.R_alloc | apply Kd.R_drewN | apply Kd.R_drew)); exact HO_3.out)); (case aS => exact (below_size (by repeat (first | (with_reducible first | exact HB.out | apply below_alloc | apply pw_below_drewN | apply below_drew1) | exact HB.out)))); (case aL => have := LMc5.out; omega); intro v105 w6 ho hb hg hat; rw [← Ny104.out] at ho; have n0_ := Aside0.mk (hb); have n1_ := Aside0.mk (ho); clear HB; clear HO_3; have HB := n0_; have HO106 := n1_; clear n0_ n1_; clear ho hb hg hat))
          go_roundg k1
          case measure => have := HK1.out; omega
          case rel => exact ⟨(y104), (wrap64 (x4_1 + 1)), (by first | rfl | (simp; done) | (simp [*]; done)), H', ⟨by have := HK1.out; omega⟩, ⟨by (with_reducible repeat (first | apply Kd.R_alloc | apply Kd.R_drewN | apply Kd.R_drew)); exact HO106.out⟩, ⟨by repeat (first | (with_reducible first | exact HB.out | apply below_alloc | apply pw_below_drewN | apply below_drew1) | exact HB.out)⟩⟩
        · rw [if_neg c5] at H
          exact absurd H (by simp)
      · rw [if_neg c4] at H
        have c4b0 : decide (x4_1 < a0) = false := decide_eq_false c4
        clear c4
        obtain rfl := Option.some.inj H
        go_wp2
        go_ret
        exact ⟨_, by first | rfl | (simp [errW_none, errW_some] <;> rfl) | (simp [*, errW_none, errW_some] <;> rfl), by (with_reducible repeat (first | apply Kd.R_alloc | apply Kd.R_drewN | apply Kd.R_drew)); exact HO_3.out, by repeat (first | (with_reducible first | exact HB.out | apply below_alloc | apply pw_below_drewN | apply below_drew1) | exact HB.out)⟩

end Go.Proofs.Ytgfadfahbhcllaa.Q
namespace Go.Proofs.Ytgfadfahbhcllaa.P
open Go.RowKit Go.Proofs.YtgfadfahbhcllaaW.PrintWords Go.Proofs.YtgfadfahbhcllaaW.PrintMore Go.Proofs.Ytgfadfahbhcllaa.Q
set_option linter.unusedVariables false
set_option linter.unusedSimpArgs false
theorem four_is (x : Int) (h : 0 ≤ x ∧ x ≤ 4294967295) : spec_l2Four.f x = some (leB 4 x) := by
  unfold spec_l2Four.f
  show some _ = some [x / 2 ^ (8 * 0) % 256, x / 2 ^ (8 * 1) % 256, x / 2 ^ (8 * 2) % 256, x / 2 ^ (8 * 3) % 256]
  rw [Int.tmod_eq_emod_of_nonneg h.1, Int.tdiv_eq_ediv_of_nonneg h.1, Int.tdiv_eq_ediv_of_nonneg h.1, Int.tdiv_eq_ediv_of_nonneg h.1]
  congr 1
  simp only [List.cons.injEq, and_true]
  refine ⟨?_, ?_, ?_, ?_⟩
  · show x % 256 % 256 = x / 1 % 256; omega
  · show x / 256 % 4294967296 % 256 = x / 256 % 256; omega
  · show x / 65536 % 4294967296 % 256 = x / 65536 % 256; omega
  · show x / 16777216 % 4294967296 % 256 = x / 16777216 % 256; omega
theorem zeros_ev (n : Nat) (h : n ≤ 1048576) : Ev (fun k => spec_l1Zeros.f k n) (List.replicate n 0) := by
  simp only [spec_l1Zeros.f]
  have h1 := Ev.loop0 (fun k (s : List Int × Int) => spec_l1Zeros.l0 k n s.1 s.2) (fun i => (List.replicate i 0, (i : Int))) n (List.replicate n 0) ?_ ?_
  · exact h1
  · intro i hi
    refine ⟨0, fun k _ => ?_⟩
    simp only [spec_l1Zeros.l0]
    rw [if_pos (by omega), if_pos (by rw [List.length_replicate]; omega), w64s hi (by omega), List.replicate_succ']
  · refine Ev.last ⟨0, fun k _ => ?_⟩
    simp only [spec_l1Zeros.l0]
    rw [if_neg (by omega)]
theorem cat_ev (ls : List (List Int)) (hl : ls.length ≤ 1048576) (h : ls.flatten.length ≤ 1048576) : Ev (fun k => spec_l2Cat.f k ls) ls.flatten := by
  simp only [spec_l2Cat.f]
  have h1 := Ev.loop0 (fun k (s : List Int × Int) => spec_l2Cat.l0 k ls s.1 s.2) (fun i => ((ls.take i).flatten, (i : Int))) ls.length ls.flatten ?_ ?_
  · exact h1
  · intro i hi
    refine ⟨0, fun k _ => ?_⟩
    obtain ⟨p, hp⟩ := some_at hi
    have e : ls.getD (i : Int).toNat [] = p := by
      rw [Int.toNat_natCast, List.getD_eq_getElem?_getD, hp]
      rfl
    have e2 : (ls.take (i + 1)).flatten = (ls.take i).flatten ++ p := by
      rw [List.take_add_one, hp]
      simp
    have e3 : (ls.take (i + 1)).flatten.length ≤ ls.flatten.length := by
      conv => rhs; rw [← List.take_append_drop (i + 1) ls]
      rw [List.flatten_append, List.length_append]
      omega
    rw [e2, List.length_append] at e3
    simp only [spec_l2Cat.l0]
    first | unfold rd_L1 | unfold rd_L2 | unfold rd_L3 | unfold rd_L4 | unfold rd_L5 | unfold rd_L8 | unfold rd_L14
    rw [e, if_pos (by omega), if_pos (by omega), if_pos (by omega), w64s hi (by omega), e2]
  · refine Ev.last ⟨0, fun k _ => ?_⟩
    simp only [spec_l2Cat.l0]
    rw [if_neg (by omega), List.take_length]
end Go.Proofs.Ytgfadfahbhcllaa.P
namespace Go.Proofs.Ytgfadfahbhcllaa.Q
open Go.RowKit Go.Proofs.YtgfadfahbhcllaaW.PrintWords Go.Proofs.YtgfadfahbhcllaaW.PrintLast Go.Proofs.YtgfadfahbhcllaaW.PrintMore Go.Proofs.Ytgfadfahbhcllaa.LK
set_option linter.unusedVariables false
theorem C_cells {k : IntKind} {w w' : World} {A : Option Addr} {n : Nat} {xs : List Int} (h : Kd.C (Kd.int k) w A n xs) (hc : ∀ a v, w.cell? a = some v → w'.cell? a = some v) : Kd.C (Kd.int k) w' A n xs := by
  obtain ⟨h1, h2, h3⟩ := Kd.reads_of_C (enc := Value.int k) (d := (0 : Int)) (h1 := fun _ => rfl) h
  refine Kd.C_of_reads (h1 := fun _ => rfl) (d := (0 : Int)) ⟨h1, h2, fun hp => ?_⟩
  obtain ⟨ad, e, hj⟩ := h3 hp
  exact ⟨ad, e, fun j hjn => hc _ _ (hj j hjn)⟩
theorem cells_of_blocks {w w' : World} (hb : ∀ k, k < w.heap.size → w'.heap[k]? = w.heap[k]?) : ∀ a v, w.cell? a = some v → w'.cell? a = some v := fun a v h => by
  have hlt := World.block_lt_of_cell? w a h
  rw [World.cell?_of_block (hb _ hlt)]
  exact h
theorem cells_of_mark {w w' : World} {g : Nat} {cs : Array Value} {e : Nat} {fr fr' : Nat × Nat} (hS : Stp (fun k => k = g) w w') (h1 : w.heap[g]? = some (.cells cs e fr)) (h2 : w'.heap[g]? = some (.cells cs e fr')) : ∀ a v, w.cell? a = some v → w'.cell? a = some v := fun a v h => by
  have hlt := World.block_lt_of_cell? w a h
  by_cases hg : a.block = g
  · rw [← h]
    unfold World.cell?
    rw [hg, h1, h2]
  · rw [World.cell?_of_block (hS.block _ hlt hg)]
    exact h
/-- A row of bytes that is read. -/
def RdP (w : World) (v : Value) (xs : List Int) : Prop := ∃ A c, v = .slice A xs.length c ∧ xs.length ≤ c ∧ Kd.C (Kd.int .u8) w A xs.length xs
theorem RdP.cells {w w' : World} {v : Value} {xs : List Int} (h : RdP w v xs) (hc : ∀ a v, w.cell? a = some v → w'.cell? a = some v) : RdP w' v xs := by
  obtain ⟨A, c, e, hl, hC⟩ := h
  exact ⟨A, c, e, hl, C_cells hC hc⟩
theorem RdP.below {w w' : World} {v : Value} {xs : List Int} (h : RdP w v xs) (hb : Below w.heap.size w w') : RdP w' v xs := h.cells (cells_of_blocks (fun k hk => hb.block k hk))
theorem RdP.of_R {e base : Nat} {ok : Nat → Prop} {w : World} {v : Value} {xs : List Int} (h : Kd.R (Kd.int .u8) e w base ok v xs) : RdP w v xs := by
  obtain ⟨A, c, rfl⟩ := Kd.R_slice h
  have h2 := Kd.R_reads' h
  exact ⟨A, c, rfl, h2.2.1, h2.2.2⟩
theorem RdP.FK {w : World} {A : Option Addr} {c : Nat} {xs : List Int} (hl : xs.length ≤ c) (h : Kd.C (Kd.int .u8) w A xs.length xs) : Kd.FK (Kd.slice 5 (Kd.int .u8)) w (fun _ => True) xs [.slice A xs.length c] :=
  Kd.FK_slice_mk hl (fun W' hW => C_cells h (cells_of_blocks (fun k hk => hW k trivial hk)))
/-- A literal's row of bytes, marked or not. -/
def LitP (base : Nat) (w : World) (v : Value) (xs : List Int) : Prop := ∃ g c tl fr, v = .slice (some ⟨g, 0, none⟩) xs.length c ∧ xs.length ≤ c ∧ c ≤ 9223372036854775807 ∧ base ≤ g ∧ w.heap[g]? = some (.cells (bytesV xs ++ tl).toArray 5 fr)
theorem LitP.below {base : Nat} {w w' : World} {v : Value} {xs : List Int} (h : LitP base w v xs) (hb : Below w.heap.size w w') : LitP base w' v xs := by
  obtain ⟨g, c, tl, fr, e, hl, hm, hg, hh⟩ := h
  exact ⟨g, c, tl, fr, e, hl, hm, hg, (hb.block g (blk_lt hh)).trans hh⟩
theorem LitP.of_R {base base' : Nat} {ok : Nat → Prop} {w : World} {v : Value} {xs : List Int} (h : Kd.R (Kd.int .u8) 5 w base ok v xs) (hp : 0 < xs.length) (hb : base' ≤ base) : LitP base' w v xs := by
  obtain ⟨A, c, rfl⟩ := Kd.R_slice h
  obtain ⟨B, tl, rfl, _, e, h1, _, _, h2, h3⟩ := R_block h hp
  exact ⟨B, c, tl, _, rfl, by omega, h3, by omega, h2⟩
theorem LitP.rd {base : Nat} {w : World} {v : Value} {xs : List Int} (h : LitP base w v xs) : RdP w v xs := by
  obtain ⟨g, c, tl, fr, rfl, hl, hm, hg, hh⟩ := h
  refine ⟨_, c, rfl, hl, Kd.C_of_reads (h1 := fun _ => rfl) (d := (0 : Int)) ⟨rfl, by omega, fun _ => ⟨_, rfl, fun j hj => ?_⟩⟩⟩
  have hj' : j < xs.length := hj
  have e1 : (Addr.mk g 0 none).add j = ⟨g, j, none⟩ := by
    unfold Addr.add
    by_cases h0 : j = 0
    · rw [if_pos h0, h0]
    · rw [if_neg h0, Nat.zero_add]
  rw [e1, cell_of_row w g j _ _ _ hh]
  unfold bytesV
  simp [List.getD_eq_getElem?_getD, List.getElem?_append_left, hj']
theorem LitP.mark {base : Nat} {w w' : World} {v : Value} {xs : List Int} (h : LitP base w v xs) {g : Nat} {cs : Array Value} {e : Nat} {fr fr' : Nat × Nat} (hS : Stp (fun k => k = g) w w') (h1 : w.heap[g]? = some (.cells cs e fr)) (h2 : w'.heap[g]? = some (.cells cs e fr')) : LitP base w' v xs := by
  obtain ⟨g', c, tl, fr2, ev, hl, hm, hg, hh⟩ := h
  by_cases hgg : g' = g
  · subst hgg
    rw [h1] at hh
    injection hh with hh
    injection hh with e1 e2 e3
    subst e1 e2
    exact ⟨g', c, tl, fr', ev, hl, hm, hg, h2⟩
  · exact ⟨g', c, tl, fr2, ev, hl, hm, hg, (hS.block g' (blk_lt hh) hgg).trans hh⟩
/-- A conversion of a slice of bytes to its own type marks its row. -/
theorem conv_mark {P : Program} {t e : TypeId} (ht : P.underlying t = some (.slice e)) (he : P.underlying e = some (.int .u8)) {w : World} {g n c : Nat} {cs : Array Value} {q : Nat} {fr : Nat × Nat} (hg : w.heap[g]? = some (.cells cs q fr)) :
    ∃ w', (convert t t (.slice (some ⟨g, 0, none⟩) n c)).run P w = .ok (.slice (some ⟨g, 0, none⟩) n c) w' ∧ Stp (fun k => k = g) w w' ∧ ∃ fr', w'.heap[g]? = some (.cells cs q fr') := by
  have hsh : w.shape? g = some (q, cs.size) := by unfold World.shape?; rw [hg]
  refine ⟨w.freeze ⟨g, cs.size, none⟩ 1, ?_, ?_, ?_⟩
  · simp [convert, run_underlying ht, run_underlying he, markStringish, hsh]
  · unfold World.freeze
    rw [if_neg (by decide)]
    exact ⟨rfl, rfl, rfl, by simp, fun i _ hn => by show (w.heap.modify g _)[i]? = _; rw [Array.getElem?_modify, if_neg (fun h => hn h.symm)]⟩
  · unfold World.freeze
    rw [if_neg (by decide)]
    obtain ⟨lo, hi⟩ := fr
    refine ⟨if lo == hi then (cs.size, cs.size + 1) else (min lo cs.size, max hi (cs.size + 1)), ?_⟩
    show (w.heap.modify g _)[g]? = _
    rw [Array.getElem?_modify, if_pos rfl, hg]
    rfl
theorem Bx_mark {w0 W W' : World} {l : List (Nat × Array Value × Nat)} {g : Nat} {cs : Array Value} {e : Nat} {fr : Nat × Nat} (h : Bx w0 l W) (hS : Stp (fun k => k = g) W W') (hg : w0.heap.size ≤ g) (h1 : W.heap[g]? = some (.cells cs e fr)) (ht : ∀ b ∈ l, b.2.2 ≠ e) : Bx w0 l W' :=
  h.stp hS (fun k hk => by rw [hk]; exact hg) (fun b hb he => by
    have h2 := (h.at_ b hb).2
    have h3 : b.1 = g := he
    rw [h3, h1] at h2
    injection h2 with h2
    injection h2 with _ h2 _
    exact ht b hb h2.symm)
/-- A row of rows of bytes that is read. -/
def RowsP (w : World) (v : Value) (xss : List (List Int)) : Prop := ∃ A c, v = .slice A xss.length c ∧ xss.length ≤ c ∧ Kd.C (Kd.slice 5 (Kd.int .u8)) w A xss.length xss
theorem RowsP.below {w w' : World} {v : Value} {xss : List (List Int)} (h : RowsP w v xss) (hb : Below w.heap.size w w') : RowsP w' v xss := by
  obtain ⟨A, c, e, hl, hC⟩ := h
  exact ⟨A, c, e, hl, Kd.C_below hC hb⟩
theorem RowsP.of_N {e base : Nat} {ok : Nat → Prop} {w : World} {v : Value} {xss : List (List Int)} (h : Kd.N (Kd.slice 5 (Kd.int .u8)) e w base ok v xss) : RowsP w v xss := by
  obtain ⟨A, c, rfl⟩ := Kd.N_slice h
  have h2 := Kd.N_reads' h
  exact ⟨A, c, rfl, h2.2.1, h2.2.2⟩
end Go.Proofs.Ytgfadfahbhcllaa.Q
