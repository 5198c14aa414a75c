/- Part 2 of 9 of the proof that the law FnSnap returns true at every input. No further condition. -/
import Derived.Laws.CopyOwn
import Derived.Lib.LazyBuf
import Derived.Laws.BitsLemmas
import Derived.ChangeKeysEq
import Derived.Laws.StructEq
import Derived.Test.YtgfadfahbhcllaaMFnSnap1
section
namespace Go.Proofs.Ytgfadfahbhcllaa.Q
open Go.RowKit Go.Proofs.YtgfadfahbhcllaaW.PrintWords Go.Proofs.YtgfadfahbhcllaaW.PrintLast Go.Proofs.Ytgfadfahbhcllaa.LK Go.Proofs.YtgfadfahbhcllaaW.PrintMore
attribute [local go_sem] max2_int min2_int max_two min_two max_three min_three max_four min_four
set_option linter.unusedVariables false
set_option linter.unusedSimpArgs false
set_option maxHeartbeats 8000000 in
set_option maxRecDepth 100000 in
theorem impl_put.callsE {e_ : Nat} (k : Nat) (P0_ : Nat → Prop) (u9000_ : Value) (l0 : List Int) (a1 : Int) (a2 : Int) (a3 : Int) (r : List Int) (w0 w : World) (hB : Below w0.heap.size w0 w) (ho0 : Kd.R (Kd.int .u8) e_ w w0.heap.size P0_ u9000_ l0) (h : impl_put.f k l0 a1 a2 a3 = some r) :
  Calls Try.prog 88 #[u9000_, .int .i64 a1, .int .i64 a2, .int .u64 a3] w fun e w' => e = .returned (.tuple #[]) ∧ Kd.R (Kd.int .u8) e_ w' w0.heap.size (fun k_ => (P0_ k_ ∨ w.heap.size ≤ k_)) u9000_ r ∧ Below w0.heap.size w0 w' ∧ Kept w w' (fun k_ => P0_ k_) := by
 have HO0 := Aside0.mk (show Kd.R (Kd.int .u8) e_ w w0.heap.size (fun k_ => (P0_ k_ ∨ w.heap.size ≤ k_)) u9000_ l0 from Kd.R_mono ho0 (fun k_ hk => (.inl hk)))
 have HK := Aside0.mk (Kept.refl w (fun k_ => P0_ k_))
 have HW0 := Aside0.mk hB.size
 have HB := Aside0.mk hB
 clear hB
 have H : (impl_put.l0 k l0 a1 a3 a2 0) = some r := h
 clear h
 have H' := Aside0.mk H
 clear H
 go_enter Try.func88, Try.ntmps88
 go_wp2
 go_loopg [10] k (fun kq v10 w' => ∃ (x0_1 : List Int) (x10_1 : Int), v10 = .int .i64 x10_1 ∧ Aside0 (impl_put.l0 kq x0_1 a1 a3 a2 x10_1 = some r) ∧ Aside0 (kq ≤ k) ∧ Aside0 (Kd.R (Kd.int .u8) e_ w' w0.heap.size (fun k_ => (P0_ k_ ∨ w.heap.size ≤ k_)) u9000_ x0_1) ∧ Aside0 (Kept w w' (fun k_ => P0_ k_)) ∧ Aside0 (Below w0.heap.size w0 w'))
 case atStart => exact ⟨(l0), (0), (by first | rfl | (simp; done) | (simp [*]; done)), H', ⟨Nat.le_refl _⟩, ⟨by (with_reducible repeat (first | apply Kd.R_alloc | apply Kd.R_drewN | apply Kd.R_drew)); exact HO0.out⟩, ⟨by repeat (first | (with_reducible first | exact HK.out | apply Kept.alloc | apply Kept.drewN | apply Kept.drew) | exact HK.out)⟩, ⟨by repeat (first | (with_reducible first | exact HB.out | apply below_alloc | apply pw_below_drewN | apply below_drew1) | exact HB.out)⟩⟩
 case round =>
  clear H'
  try clear p2
  obtain ⟨x0_1, x10_1, rfl, HA, HK1, HO_0, HK, HB⟩ := hrel
  cases gk with
  | zero => exact absurd HA.out (by simp [impl_put.l0])
  | succ k1 =>
   have H := HA.out
   clear HA
   simp only [impl_put.l0] at H
   by_cases c5 : x10_1 < a2
   ·rw [if_pos c5] at H
    have c5b0 : decide (x10_1 < a2) = true := decide_eq_true c5
    clear c5
    obtain ⟨ji6, hji6⟩ : ∃ j_ : Int, (wrap64 (8 * x10_1)) = j_ := ⟨_, rfl⟩
    replace H : (if 0 ≤ (ji6) then (if 0 ≤ (wrap64 (a1 + x10_1)) then (if (wrap64 (a1 + x10_1)) < (x0_1.length : Int) then (impl_put.l0 k1 (x0_1.set ((wrap64 (a1 + x10_1)) : Int).toNat ((shr .u64 a3 (ji6)) % 256)) a1 a3 a2 (wrap64 (x10_1 + 1))) else (none)) else (none)) else (none)) = some r := by first | (rw [hji6] at H; exact H) | (simp only [hji6] at H ⊢; exact H)
    have hji6w : (IntKind.i64.wrap (8 * x10_1)) = ji6 := (i64_w _).trans hji6
    by_cases c7 : 0 ≤ (ji6)
    ·rw [if_pos c7] at H
     have c7b0 := eq_true c7
     have c7b1 : decide (0 ≤ (ji6)) = true := decide_eq_true c7
     clear c7
     obtain ⟨ji8, hji8⟩ : ∃ j_ : Int, (shr .u64 a3 (ji6)) = j_ := ⟨_, rfl⟩
     replace H : (if 0 ≤ (wrap64 (a1 + x10_1)) then (if (wrap64 (a1 + x10_1)) < (x0_1.length : Int) then (impl_put.l0 k1 (x0_1.set ((wrap64 (a1 + x10_1)) : Int).toNat ((ji8) % 256)) a1 a3 a2 (wrap64 (x10_1 + 1))) else (none)) else (none)) = some r := by first | (rw [hji8] at H; exact H) | (simp only [hji8] at H ⊢; exact H)
     have hji8_ : (a3 / 2 ^ min (ji6).toNat 64) = ji8 := hji8
     have hji8z : (ji6) ≤ 64 → (a3 / 2 ^ (ji6).toNat) = ji8 := shr_small hji8
     obtain ⟨ji9, hji9⟩ : ∃ j_ : Int, (wrap64 (a1 + x10_1)) = j_ := ⟨_, rfl⟩
     replace H : (if 0 ≤ (ji9) then (if (ji9) < (x0_1.length : Int) then (impl_put.l0 k1 (x0_1.set ((ji9) : Int).toNat ((ji8) % 256)) a1 a3 a2 (wrap64 (x10_1 + 1))) else (none)) else (none)) = some r := by first | (rw [hji9] at H; exact H) | (simp only [hji9] at H ⊢; exact H)
     have hji9w : (IntKind.i64.wrap (a1 + x10_1)) = ji9 := (i64_w _).trans hji9
     by_cases c10 : 0 ≤ (ji9)
     ·rw [if_pos c10] at H
      have c10b0 : decide (0 ≤ (ji9)) = true := decide_eq_true c10
      clear c10
      by_cases c11 : (ji9) < (x0_1.length : Int)
      ·rw [if_pos c11] at H
       have c11b0 : decide ((ji9) < (x0_1.length : Int)) = true := decide_eq_true c11
       clear c11
       obtain ⟨y101, hy101⟩ : ∃ y_ : List Int, y_ = (x0_1.set ((ji9) : Int).toNat ((ji8) % 256)) := ⟨_, rfl⟩
       replace H : (impl_put.l0 k1 y101 a1 a3 a2 (wrap64 (x10_1 + 1))) = some r := by first | (rw [hy101]; with_reducible exact H) | (have H2_ := (Option.bind_some _ _).symm.trans H; rw [hy101]; with_reducible exact H2_) | (have H2_ := (Option.bind_some _ _).symm.trans H; with_reducible exact H2_) | with_reducible exact H | (rw [hy101]; exact H) | exact H
       have Ny101 := Aside0.mk hy101
       clear hy101
       have H' := Aside0.mk H
       clear H
       have p12 : 0 ≤ ((ji9) : Int) := of_decide_eq_true (by first | (with_reducible assumption) | assumption)
       have q12 : ((ji9) : Int) < ((x0_1.length : Int) : Int) := of_decide_eq_true (by first | (with_reducible assumption) | assumption)
       obtain ⟨go12, co12, eo12, gb12, gl12, cl12, HG12⟩ := Kd.R_form HO_0.out (by omega)
       (first | cases eo12 | (injection eo12 with ea_ en_ ec_; (first | subst ea_ | (injection ea_ with ea_; subst ea_)); subst ec_; clear en_))
       have GB12 := Aside0.mk gb12
       have GG12 := Aside0.mk HG12
       clear gb12 gl12 HG12
       have HMgo12 := Aside0.mk (show (P0_ go12 ∨ w.heap.size ≤ go12) from (HO_0.out.1 _ rfl))
       obtain ⟨hx12_0, hf12_0⟩ := Kd.R_celln 0 HO_0.out ((ji9) : Int) p12 q12
       replace p12 := eq_true p12
       replace q12 := eq_true q12
       have HP13 := Kd.R_putg HO_0.out ((ji9) : Int) ((ji8) % 256)
       go_wp2_with (first | ((with_reducible refine gate_store (t := 5) (p := 22) rfl ?_); refine store_event (t := 5) (p := 22) (v := ?vo_w14) (w1 := (wr.setCell ⟨go12, ((ji9) : Int).toNat, none⟩ (.int .u8 ((ji8) % 256)))) ?hg ?ho ?hn ?hr ?_; (case ho => rfl); (case hg => rfl); (case hn => rfl); (case hr => first | (go_simp; done) | (go_simp; rfl)); intro w14 hw; have hg : wr.grownBy w14 (some go12) := (by rw [hw]; exact HP13.2); have hp_ : Kd.R (Kd.int .u8) e_ w14 w0.heap.size (fun k_ => (P0_ k_ ∨ w.heap.size ≤ k_)) (.slice (some ⟨go12, 0, none⟩) x0_1.length co12) y101 := (by rw [hw, Ny101.out]; exact HP13.1); clear HP13; have n0_ := Aside0.mk (hp_); have n1_ := Aside0.mk ((by rw [hw]; exact below_set (HB.out) GB12.out : Below w0.heap.size w0 w14)); have n2_ := Aside0.mk (Kept.of_grown (S := (fun k_ => P0_ k_)) hg (by repeat (first | (with_reducible first | exact HK.out | apply Kept.alloc | apply Kept.drewN | apply Kept.drew) | exact HK.out)) (fun k_ e_ => (HO_0.out.1 k_ e_))); clear HO_0; clear HB; clear HK; have HO_0 := n0_; have HB := n1_; have HK := n2_; clear n0_ n1_ n2_; clear hg hw hp_))
       go_roundg k1
       case measure => have := HK1.out; omega
       case rel => exact ⟨(y101), (wrap64 (x10_1 + 1)), (by first | rfl | (simp; done) | (simp [*]; done)), H', ⟨by have := HK1.out; omega⟩, ⟨by (with_reducible repeat (first | apply Kd.R_alloc | apply Kd.R_drewN | apply Kd.R_drew)); exact HO_0.out⟩, ⟨by repeat (first | (with_reducible first | exact HK.out | apply Kept.alloc | apply Kept.drewN | apply Kept.drew) | exact HK.out)⟩, ⟨by repeat (first | (with_reducible first | exact HB.out | apply below_alloc | apply pw_below_drewN | apply below_drew1) | exact HB.out)⟩⟩
      ·rw [if_neg c11] at H
       exact absurd H (by simp)
     ·rw [if_neg c10] at H
      exact absurd H (by simp)
    ·rw [if_neg c7] at H
     exact absurd H (by simp)
   ·rw [if_neg c5] at H
    have c5b0 : decide (x10_1 < a2) = false := decide_eq_false c5
    clear c5
    obtain rfl := Option.some.inj H
    go_wp2
    first | go_end0 | ((try simp only [Exit.inBlock, Exit.then]); refine bodyPost_ret (results_none rfl _ _ _) rfl ?_)
    exact ⟨by first | rfl | (simp [errW_none, errW_some] <;> rfl) | (simp [*, errW_none, errW_some] <;> rfl), by (with_reducible repeat (first | apply Kd.R_alloc | apply Kd.R_drewN | apply Kd.R_drew)); exact HO_0.out, by repeat (first | (with_reducible first | exact HB.out | apply below_alloc | apply pw_below_drewN | apply below_drew1) | exact HB.out), by repeat (first | (with_reducible first | exact HK.out | apply Kept.alloc | apply Kept.drewN | apply Kept.drew) | exact HK.out)⟩
end Go.Proofs.Ytgfadfahbhcllaa.Q
end
section
namespace Go.Proofs.Ytgfadfahbhcllaa.LK
open Go.RowKit Go.Proofs.YtgfadfahbhcllaaW.PrintWords Go.Proofs.YtgfadfahbhcllaaW.PrintLast
set_option linter.unusedVariables false
structure Bx (w0 : World) (l : List (Nat × Array Value × Nat)) (W : World) : Prop where
 below : Below w0.heap.size w0 W
 at_ : ∀ b ∈ l, w0.heap.size ≤ b.1 ∧ W.heap[b.1]? = some (.cells b.2.1 b.2.2 (0, 0))
 once : (l.map (·.1)).Nodup
section
variable {w0 W W' : World} {l l1 l2 : List (Nat × Array Value × Nat)} {g t : Nat} {cs cs' : Array Value}
theorem Bx.refl (w : World) : Bx w [] w := ⟨Below.refl _ _, by simp, by simp⟩
theorem Bx.new (h : Bx w0 l W) (hg : g = W.heap.size) (hb : W'.heap[g]? = some (.cells cs t (0, 0))) (hs : Below W.heap.size W W') : Bx w0 ((g, cs, t) :: l) W' := by
 refine ⟨below_step h.below hs, fun b hm => ?_, ?_⟩
 ·rcases List.mem_cons.1 hm with rfl | hm
  ·exact ⟨hg ▸ h.below.size, hb⟩
  ·have h1 := h.at_ b hm
   exact ⟨h1.1, (hs.block _ (blk_lt h1.2)).trans h1.2⟩
 ·rw [List.map_cons, List.nodup_cons]
  refine ⟨fun hm => ?_, h.once⟩
  obtain ⟨b, hb1, hb2⟩ := List.mem_map.1 hm
  have h2 : b.1 = g := hb2
  have := blk_lt (h.at_ b hb1).2
  omega
theorem Bx.step (h : Bx w0 l W) (hs : Below W.heap.size W W') : Bx w0 l W' :=
 ⟨below_step h.below hs, fun b hm => ⟨(h.at_ b hm).1, (hs.block _ (blk_lt (h.at_ b hm).2)).trans (h.at_ b hm).2⟩, h.once⟩
theorem Bx.drew (h : Bx w0 l W) : Bx w0 l W.drew := ⟨below_drew1 h.below, h.at_, h.once⟩
theorem Bx.stp {S : Nat → Prop} (h : Bx w0 l W) (hs : Stp S W W') (h0 : ∀ k, S k → w0.heap.size ≤ k) (hl : ∀ b ∈ l, ¬ S b.1) : Bx w0 l W' :=
 ⟨⟨hs.os.trans h.below.os, hs.tape.trans h.below.tape, hs.output.trans h.below.output, Nat.le_trans h.below.size hs.size, fun i hi => (hs.block i (Nat.lt_of_lt_of_le hi h.below.size) (fun hk => by have := h0 i hk; omega)).trans (h.below.block i hi)⟩,
  fun b hm => ⟨(h.at_ b hm).1, (hs.block _ (blk_lt (h.at_ b hm).2) (hl b hm)).trans (h.at_ b hm).2⟩, h.once⟩
theorem Bx.write' (h : Bx w0 (l1 ++ (g, cs, t) :: l2) W) (hb : W'.heap[g]? = some (.cells cs' t (0, 0))) (hs : Stp (fun k => k = g) W W') : Bx w0 (l1 ++ (g, cs', t) :: l2) W' := by
 have hg := h.at_ (g, cs, t) (by simp)
 have hone : ∀ b ∈ l1 ++ l2, b.1 ≠ g := by
  intro b hm
  have h1 := h.once
  rw [List.map_append, List.map_cons] at h1
  have h2 := (List.perm_middle (a := g) (l₁ := l1.map (·.1)) (l₂ := l2.map (·.1))).nodup_iff.1 h1
  rw [List.nodup_cons, ← List.map_append] at h2
  exact fun he => h2.1 (List.mem_map.2 ⟨b, hm, he⟩)
 refine ⟨⟨hs.os.trans h.below.os, hs.tape.trans h.below.tape, hs.output.trans h.below.output, Nat.le_trans h.below.size hs.size, fun i hi => (hs.block i (Nat.lt_of_lt_of_le hi h.below.size) (fun hk => by have := hg.1; have h3 : i = g := hk; simp only at this; omega)).trans (h.below.block i hi)⟩, fun b hm => ?_, ?_⟩
 ·rcases List.mem_append.1 hm with hm | hm
  ·have h1 := h.at_ b (List.mem_append_left _ hm)
   exact ⟨h1.1, (hs.block _ (blk_lt h1.2) (hone b (List.mem_append_left _ hm))).trans h1.2⟩
  ·rcases List.mem_cons.1 hm with rfl | hm
   ·exact ⟨hg.1, hb⟩
   ·have h1 := h.at_ b (List.mem_append_right _ (List.mem_cons_of_mem _ hm))
    exact ⟨h1.1, (hs.block _ (blk_lt h1.2) (hone b (List.mem_append_right _ hm))).trans h1.2⟩
 ·have h1 := h.once
  rw [List.map_append, List.map_cons] at h1 ⊢
  exact h1
theorem Bx.wr0 {l : List (Nat × Array Value × Nat)} (h : Bx w0 ((g, cs, t) :: l) W) (hb : W'.heap[g]? = some (.cells cs' t (0, 0))) (hs : Stp (fun k => k = g) W W') : Bx w0 ((g, cs', t) :: l) W' := Bx.write' (l1 := []) h hb hs
theorem Bx.wr1 {l : List (Nat × Array Value × Nat)} {a : Nat × Array Value × Nat} (h : Bx w0 (a :: (g, cs, t) :: l) W) (hb : W'.heap[g]? = some (.cells cs' t (0, 0))) (hs : Stp (fun k => k = g) W W') : Bx w0 (a :: (g, cs', t) :: l) W' := Bx.write' (l1 := [a]) h hb hs
theorem Bx.wr2 {l : List (Nat × Array Value × Nat)} {a b : Nat × Array Value × Nat} (h : Bx w0 (a :: b :: (g, cs, t) :: l) W) (hb : W'.heap[g]? = some (.cells cs' t (0, 0))) (hs : Stp (fun k => k = g) W W') : Bx w0 (a :: b :: (g, cs', t) :: l) W' := Bx.write' (l1 := [a, b]) h hb hs
theorem Bx.gt0 (h : Bx w0 ((g, cs, t) :: l) W) : W.heap[g]? = some (.cells cs t (0, 0)) := (h.at_ (g, cs, t) (by simp)).2
theorem Bx.gt1 {a : Nat × Array Value × Nat} (h : Bx w0 (a :: (g, cs, t) :: l) W) : W.heap[g]? = some (.cells cs t (0, 0)) := (h.at_ (g, cs, t) (by simp)).2
theorem Bx.gt2 {a b : Nat × Array Value × Nat} (h : Bx w0 (a :: b :: (g, cs, t) :: l) W) : W.heap[g]? = some (.cells cs t (0, 0)) := (h.at_ (g, cs, t) (by simp)).2
theorem Bx.gt3 {a b c : Nat × Array Value × Nat} (h : Bx w0 (a :: b :: c :: (g, cs, t) :: l) W) : W.heap[g]? = some (.cells cs t (0, 0)) := (h.at_ (g, cs, t) (by simp)).2
variable {α : Type} {d : Kd α} {e b : Nat} {ok : Nat → Prop} {v : Value} {xs : List α}
theorem R_other (h : d.R e W b ok v xs) (hb : W.heap[g]? = some (.cells cs t (0, 0))) (ht : ∀ q, q ∈ e :: d.E → q ≠ t) (hs : Stp (fun k => k = g) W W') : d.R e W' b ok v xs :=
 Kd.R_mono (Kd.R_step (Kd.R_types h hb ht) (fun k hk hlt => hs.block k hlt (fun he => hk.2 he))) (fun _ hk => hk.1)
end
end Go.Proofs.Ytgfadfahbhcllaa.LK
end
section
namespace Go.Proofs.Ytgfadfahbhcllaa.Q
open Go.RowKit Go.Proofs.YtgfadfahbhcllaaW.PrintWords Go.Proofs.YtgfadfahbhcllaaW.PrintLast Go.Proofs.YtgfadfahbhcllaaW.PrintMore Go.Proofs.Ytgfadfahbhcllaa.LK
set_option linter.unusedVariables false
set_option linter.unusedSimpArgs false
def bytesV (l : List Int) : List Value := l.map (Value.int .u8)
theorem bytesV_length (l : List Int) : (bytesV l).length = l.length := by unfold bytesV; exact List.length_map ..
theorem bytesV_one (l : List Int) : ∀ v ∈ bytesV l, v.oneCell' = true := by
 intro v hv
 unfold bytesV at hv
 obtain ⟨x, _, rfl⟩ := List.mem_map.1 hv
 rfl
theorem R_arr {w : World} {base g t : Nat} {l : List Int} (hb : w.heap[g]? = some (.cells (bytesV l).toArray t (0, 0))) (hg : base ≤ g) (hl : l.length ≤ 9223372036854775807) : Kd.R (Kd.int .u8) t w base (fun _ => True) (.slice (some ⟨g, 0, none⟩) l.length l.length) l := by
 refine ⟨fun _ _ => trivial, bytesV l, ⟨?_, .inr ⟨g, l.length, (bytesV l).toArray, rfl, hg, hb, Nat.le_refl _, by unfold maxLen; exact hl, ?_, ?_⟩⟩, ?_⟩
 ·rw [bytesV_length]; exact (Nat.mul_one _).symm
 ·rw [List.size_toArray, bytesV_length]; exact (Nat.mul_one _).symm
 ·show (bytesV l).take (l.length * 1) = bytesV l
  rw [Nat.mul_one, List.take_of_length_le (by rw [bytesV_length]; exact Nat.le_refl _)]
 ·refine ⟨by rw [bytesV_length]; exact (Nat.mul_one _).symm, fun j p hj => ?_⟩
  show ((bytesV l).drop (j * 1)).take 1 = [.int .u8 p]
  obtain ⟨hj1, rfl⟩ := List.getElem?_eq_some_iff.1 hj
  unfold bytesV
  rw [Nat.mul_one, ← List.map_drop, ← List.map_take, List.drop_eq_getElem_cons hj1]
  rfl
theorem R_block {w : World} {base e n c : Nat} {ok : Nat → Prop} {A : Option Addr} {l : List Int} (h : Kd.R (Kd.int .u8) e w base ok (.slice A n c) l) (hp : 0 < l.length) :
  ∃ (B : Nat) (tl : List Value), A = some ⟨B, 0, none⟩ ∧ n = l.length ∧ c = l.length + tl.length ∧ base ≤ B ∧ ok B ∧ B < w.heap.size ∧ w.heap[B]? = some (.cells (bytesV l ++ tl).toArray e (0, 0)) ∧ c ≤ 9223372036854775807 := by
 obtain ⟨h0, inner, ⟨hn, ho⟩, hl, hi⟩ := h
 have ei : inner = bytesV l := by
  refine List.ext_getElem? (fun j => ?_)
  by_cases hj : j < l.length
  ·have h1 := hi j l[j] (List.getElem?_eq_getElem hj)
   have h2 : (inner.drop (j * 1)).take 1 = [.int .u8 l[j]] := h1
   rw [Nat.mul_one] at h2
   have h3 : j < inner.length := by rw [hl]; show j < l.length * 1; omega
   rw [List.drop_eq_getElem_cons h3, List.take_succ_cons, List.take_zero] at h2
   injection h2 with h2 _
   rw [List.getElem?_eq_getElem h3, h2]
   unfold bytesV
   rw [List.getElem?_map, List.getElem?_eq_getElem hj]
   rfl
  ·rw [List.getElem?_eq_none (by rw [hl]; show l.length * 1 ≤ j; omega), List.getElem?_eq_none (by rw [bytesV_length]; omega)]
 rcases ho with ⟨ho, he⟩ | ⟨g, cap, cur, ho, hg, hh, hc, hm, hsz, htk⟩
 ·omega
 ·injection ho with a1 a2 a3
  subst a1 a2 a3
  have hs2 : cur.size = c := by rw [hsz]; exact Nat.mul_one _
  have e2 : cur.toList = bytesV l ++ cur.toList.drop l.length := by
   rw [← ei, ← htk]
   rw [show l.length * (Kd.int .u8).sz = l.length from Nat.mul_one _]
   exact (List.take_append_drop _ _).symm
  refine ⟨g, cur.toList.drop l.length, rfl, rfl, ?_, hg, h0 g rfl, blk_lt hh, ?_, hm⟩
  ·show c = l.length + (cur.toList.drop l.length).length
   have h9 : cur.toList.length = cur.size := rfl
   rw [List.length_drop]; omega
  ·rw [← e2]; exact hh
theorem R_of_block {w : World} {base B e : Nat} {l : List Int} {tl : List Value} (hb : w.heap[B]? = some (.cells (bytesV l ++ tl).toArray e (0, 0))) (hg : base ≤ B) (hm : l.length + tl.length ≤ 9223372036854775807) :
  Kd.R (Kd.int .u8) e w base (fun k => k = B) (.slice (some ⟨B, 0, none⟩) l.length (l.length + tl.length)) l := by
 refine ⟨fun k hk => ?_, bytesV l, ⟨?_, .inr ⟨B, l.length + tl.length, (bytesV l ++ tl).toArray, rfl, hg, hb, Nat.le_add_right _ _, hm, ?_, ?_⟩⟩, ?_⟩
 ·have : some B = some k := hk
  injection this with this
  exact this.symm
 ·rw [bytesV_length]; exact (Nat.mul_one _).symm
 ·rw [List.size_toArray, List.length_append, bytesV_length]; exact (Nat.mul_one _).symm
 ·show (bytesV l ++ tl).take (l.length * 1) = bytesV l
  rw [Nat.mul_one, List.take_append_of_le_length (by rw [bytesV_length]; exact Nat.le_refl _), List.take_of_length_le (by rw [bytesV_length]; exact Nat.le_refl _)]
 ·refine ⟨by rw [bytesV_length]; exact (Nat.mul_one _).symm, fun j p hj => ?_⟩
  show ((bytesV l).drop (j * 1)).take 1 = [.int .u8 p]
  obtain ⟨hj1, rfl⟩ := List.getElem?_eq_some_iff.1 hj
  unfold bytesV
  rw [Nat.mul_one, ← List.map_drop, ← List.map_take, List.drop_eq_getElem_cons hj1]
  rfl
section
variable {P : Program} {ops : Array Oper} {o : Oper} {rest : List Oper} {a : Act} {W : World} {Q : Exit → Act → World → Prop} {K : Act → World → Prop}
theorem st_step {T g t : Nat} {p x : Operand} {cur cs : Array Value} (hw : Region.wanted o (yielded ops a.tmps) = true) (hN : o.dst = none) (ho : o.op = .store T p x)
  (hp : a.eval p = .pointer (some ⟨g, 0, none⟩)) (hx : a.eval x = .agg cs) (hh : W.heap[g]? = some (.cells cur t (0, 0))) (ht : (P.info? T).map (·.size) = some cs.size) (hsz : cs.size = cur.size) (h1 : ∀ q ∈ cs.toList, q.oneCell' = true)
  (h : ∀ w1, w1.heap[g]? = some (.cells cs t (0, 0)) → Stp (fun k => k = g) W w1 → K a w1) : if Region.wanted o (yielded ops a.tmps) = true then Oper.wp P o a W K Q else K (a.put none undef) W := by
 rw [if_pos hw]
 obtain ⟨cur', h3, _, h5⟩ := setCells_row cs.toList 0 W cur hh (by simp; omega)
 obtain ⟨s1, s2, s3, s4⟩ := setCells_same g cs.toList 0 W
 have hr := run_store_run (P := P) (o := 0) T (.agg cs) cs.toList hh rfl (by simpa using ht) (by simp; omega) h1
 unfold Oper.wp execOp
 simp only [ho, hp, hx, Sem.run_bind, Sem.run_pure, Result.andThen_ok, hr]
 show K (a.put o.dst undef) _
 rw [hN]
 refine h _ ?_ ⟨s1, s2, s3, Nat.le_of_eq s4.symm, fun i _ hi => setCells_far cs.toList 0 i hi⟩
 have e : cur' = cs := by
  apply Array.toList_inj.1
  rw [List.take_zero, List.nil_append, List.drop_of_length_le (by simp; omega), List.append_nil] at h5
  exact h5
 rw [e] at h3
 exact h3
end
end Go.Proofs.Ytgfadfahbhcllaa.Q
end
section
namespace Go.Proofs.Ytgfadfahbhcllaa.P
open Go.RowKit Go.Proofs.YtgfadfahbhcllaaW.PrintWords
def Ev {α : Type} (f : Nat → Option α) (a : α) : Prop := ∃ K, ∀ k, K ≤ k → f k = some a
section
variable {α β γ : Type} {f g : Nat → Option α} {a : α} {b : β}
theorem Ev.ex (h : Ev f a) : ∃ k, f k = some a := by
 obtain ⟨K, h⟩ := h
 exact ⟨K, h K (Nat.le_refl _)⟩
theorem Ev.const {o : Option α} (h : o = some a) : Ev (fun _ => o) a := ⟨0, fun _ _ => h⟩
theorem Ev.bind {g : Nat → α → Option β} (h : Ev f a) (h2 : Ev (fun k => g k a) b) : Ev (fun k => (f k).bind (g k)) b := by
 obtain ⟨K, h⟩ := h
 obtain ⟨K2, h2⟩ := h2
 exact ⟨max K K2, fun k hk => by show (f k).bind (g k) = some b; rw [h k (by omega)]; exact h2 k (by omega)⟩
theorem Ev.pos {c : Prop} [Decidable c] (hc : c) (h : Ev f a) : Ev (fun k => if c then f k else g k) a := by
 obtain ⟨K, h⟩ := h
 exact ⟨K, fun k hk => (if_pos hc).trans (h k hk)⟩
theorem Ev.neg {c : Prop} [Decidable c] (hc : ¬ c) (h : Ev g a) : Ev (fun k => if c then f k else g k) a := by
 obtain ⟨K, h⟩ := h
 exact ⟨K, fun k hk => (if_neg hc).trans (h k hk)⟩
theorem Ev.step (h : ∃ K, ∀ k, K ≤ k → f (k + 1) = g k) (e : Ev g a) : Ev f a := by
 obtain ⟨K, h⟩ := h
 obtain ⟨K2, e⟩ := e
 refine ⟨max K K2 + 1, fun k hk => ?_⟩
 obtain ⟨j, rfl⟩ : ∃ j, k = j + 1 := ⟨k - 1, by omega⟩
 rw [h j (by omega)]
 exact e j (by omega)
theorem Ev.last (h : ∃ K, ∀ k, K ≤ k → f (k + 1) = some a) : Ev f a := Ev.step (g := fun _ => some a) h (Ev.const rfl)
theorem Ev.congr (h : ∀ k, f k = g k) (e : Ev g a) : Ev f a := by
 obtain ⟨K, e⟩ := e
 exact ⟨K, fun k hk => (h k).trans (e k hk)⟩
theorem Ev.loop {σ ρ : Type} (l : Nat → σ → Option ρ) (st : Nat → σ) (n : Nat) (r : ρ) (hstep : ∀ i, i < n → ∃ K, ∀ k, K ≤ k → l (k + 1) (st i) = l k (st (i + 1)))
  (hend : Ev (fun k => l k (st n)) r) : ∀ j i, i + j = n → Ev (fun k => l k (st i)) r
 | 0, i, h => by
  obtain rfl : i = n := by omega
  exact hend
 | j + 1, i, h => Ev.step (hstep i (by omega)) (Ev.loop l st n r hstep hend j (i + 1) (by omega))
theorem Ev.loop0 {σ ρ : Type} (l : Nat → σ → Option ρ) (st : Nat → σ) (n : Nat) (r : ρ) (hstep : ∀ i, i < n → ∃ K, ∀ k, K ≤ k → l (k + 1) (st i) = l k (st (i + 1)))
  (hend : Ev (fun k => l k (st n)) r) : Ev (fun k => l k (st 0)) r := Ev.loop l st n r hstep hend n 0 (by omega)
end
theorem w64 {n : Int} (h : -9223372036854775808 ≤ n) (h2 : n ≤ 9223372036854775807) : wrap64 n = n := by unfold wrap64; omega
theorem w64s {i n : Nat} (h : i < n) (hn : n ≤ 4611686018427387904) : wrap64 ((i : Int) + 1) = ((i + 1 : Nat) : Int) := by rw [w64 (by omega) (by omega)]; rfl
theorem rd_at {xs : List Int} {i : Nat} {a : Int} (h : xs[i]? = some a) : rd xs (i : Int) = a := by
 unfold rd
 rw [Int.toNat_natCast, List.getD_eq_getElem?_getD, h]
 rfl
theorem some_at {α : Type} {xs : List α} {i : Nat} (h : i < xs.length) : ∃ a, xs[i]? = some a := ⟨xs[i], List.getElem?_eq_getElem h⟩
theorem take_set {α : Type} (L x : List α) (i : Nat) (a : α) (h : L[i]? = some a) (h3 : L.length = x.length) : (L.take i ++ x.drop i).set i a = L.take (i + 1) ++ x.drop (i + 1) := by
 obtain ⟨hi, rfl⟩ := List.getElem?_eq_some_iff.1 h
 have hl : (L.take i).length = i := by simp; omega
 rw [List.set_append_right _ _ (by omega), hl, Nat.sub_self, List.drop_eq_getElem_cons (by omega : i < x.length), List.set_cons_zero, List.take_succ_eq_append_getElem hi, List.append_assoc]
 rfl
theorem each_ends {ρ : Type} (l : Nat → Int → Option ρ) (n : Nat) (r : ρ) (hstep : ∀ i : Nat, i < n → ∃ K, ∀ k, K ≤ k → l (k + 1) (i : Int) = l k ((i + 1 : Nat) : Int)) (hend : ∀ k, l (k + 1) (n : Int) = some r) : Ev (fun k => l k 0) r :=
 Ev.loop0 l (fun i => (i : Int)) n r hstep (Ev.last ⟨0, fun k _ => hend k⟩)
end Go.Proofs.Ytgfadfahbhcllaa.P
end
section
namespace Go.Proofs.Ytgfadfahbhcllaa.P
open Go.RowKit Go.Proofs.YtgfadfahbhcllaaW.PrintWords Go.Proofs.Ytgfadfahbhcllaa.Q
set_option linter.unusedVariables false
set_option linter.unusedSimpArgs false
def leB (n : Nat) (x : Int) : List Int := (List.range n).map fun i => x / 2 ^ (8 * i) % 256
theorem leB_length (n : Nat) (x : Int) : (leB n x).length = n := by unfold leB; rw [List.length_map, List.length_range]
theorem leB_succ (n : Nat) (x : Int) : leB (n + 1) x = leB n x ++ [x / 2 ^ (8 * n) % 256] := by unfold leB; rw [List.range_succ, List.map_append]; rfl
theorem splice_set {l m : List Int} {o : Nat} (v : Int) (h : o + m.length < l.length) : (splice l o m).set (o + m.length) v = splice l o (m ++ [v]) := by
 unfold splice
 have ht : (l.take o).length = o := by rw [List.length_take]; omega
 rw [List.set_append_right _ _ (by rw [ht]; omega), ht, Nat.add_sub_cancel_left, List.set_append_right _ _ (Nat.le_refl _), Nat.sub_self, List.drop_eq_getElem_cons h, List.set_cons_zero, List.length_append, List.length_singleton, Nat.add_assoc, List.append_assoc]
 rfl
theorem splice_nil {l : List Int} {o : Nat} : splice l o [] = l := by unfold splice; simp
theorem shr_byte {x : Int} (h0 : 0 ≤ x) (i : Nat) (hi : i < 8) : (shr .u64 x (wrap64 (8 * (i : Int)))) % 256 = x / 2 ^ (8 * i) % 256 := by
 have e : wrap64 (8 * (i : Int)) = ((8 * i : Nat) : Int) := by rw [w64 (n := 8 * (i : Int)) (by omega) (by omega)]; omega
 rw [e]
 have hh := shr_small (k := .u64) (x := x) (y := ((8 * i : Nat) : Int)) (j := shr .u64 x ((8 * i : Nat) : Int)) rfl (by show ((8 * i : Nat) : Int) ≤ 64; omega)
 rw [← hh, Int.toNat_natCast]
theorem put_ev (l : List Int) (a n : Nat) (x : Int) (h0 : 0 ≤ x) (hn : n ≤ 8) (ha : a + n ≤ l.length) (hl : l.length ≤ 4611686018427387904) : Ev (fun k => impl_put.f k l a n x) (splice l a (leB n x)) := by
 simp only [impl_put.f]
 have h := Ev.loop0 (fun k (s : List Int × Int) => impl_put.l0 k s.1 a x n s.2) (fun i => (splice l a (leB i x), (i : Int))) n (splice l a (leB n x)) ?_ ?_
 ·have e : splice l a (leB 0 x) = l := splice_nil
  simp only [e] at h
  exact h
 ·intro i hi
  refine ⟨0, fun k _ => ?_⟩
  have e1 : wrap64 (8 * (i : Int)) = 8 * (i : Int) := w64 (n := 8 * (i : Int)) (by omega) (by omega)
  have e2 : wrap64 ((a : Int) + (i : Int)) = ((a + i : Nat) : Int) := by rw [w64 (n := (a : Int) + (i : Int)) (by omega) (by omega)]; omega
  have hs : (splice l a (leB i x)).length = l.length := length_splice _ _ _ (by rw [leB_length]; omega)
  have e3 := shr_byte h0 i (by omega)
  simp only [impl_put.l0]
  rw [e2, e3]
  rw [if_pos (by omega), if_pos (by rw [e1]; omega), if_pos (by omega), if_pos (by rw [hs]; omega), Int.toNat_natCast, w64s hi (by omega)]
  have := splice_set (l := l) (m := leB i x) (o := a) (x / 2 ^ (8 * i) % 256) (by rw [leB_length]; omega)
  rw [leB_length] at this
  rw [this, leB_succ]
 ·refine Ev.last ⟨0, fun k _ => ?_⟩
  simp only [impl_put.l0]
  rw [if_neg (by omega)]
end Go.Proofs.Ytgfadfahbhcllaa.P
namespace Go.Proofs.Ytgfadfahbhcllaa.Q
open Go.RowKit Go.Proofs.YtgfadfahbhcllaaW.PrintWords Go.Proofs.YtgfadfahbhcllaaW.PrintLast Go.Proofs.YtgfadfahbhcllaaW.PrintMore Go.Proofs.Ytgfadfahbhcllaa.LK
set_option linter.unusedVariables false
theorem put_box {g T : Nat} {l : List Int} (a n : Nat) {x : Int} {w0 w : World} (hB : Below w0.heap.size w0 w) (hg : w0.heap.size ≤ g) (hb : w.heap[g]? = some (.cells (bytesV l).toArray T (0, 0))) (h0 : 0 ≤ x) (hn : n ≤ 8) (ha : a + n ≤ l.length) (hl : l.length ≤ 4611686018427387904) (hp : 0 < l.length) :
  Calls Try.prog 88 #[.slice (some ⟨g, 0, none⟩) l.length l.length, .int .i64 a, .int .i64 n, .int .u64 x] w fun e w' => e = .returned (.tuple #[]) ∧ w'.heap[g]? = some (.cells (bytesV (splice l a (P.leB n x))).toArray T (0, 0)) ∧ Stp (fun k => k = g) w w' := by
 obtain ⟨k, hk⟩ := (P.put_ev l a n x h0 hn ha hl).ex
 have hs : (splice l a (P.leB n x)).length = l.length := length_splice _ _ _ (by rw [P.leB_length]; omega)
 have hR := R_of_block (base := w0.heap.size) (tl := []) (by rw [List.append_nil]; exact hb) hg (by rw [List.length_nil]; omega)
 rw [List.length_nil, Nat.add_zero] at hR
 refine (impl_put.callsE k _ _ l a n x _ w0 w hB hR hk).mono ?_
 rintro e w' ⟨rfl, hR', hB', hK⟩
 obtain ⟨B, tl, e1, e2, e3, e4, e5, e6, e7, e8⟩ := R_block hR' (by rw [hs]; exact hp)
 injection e1 with e1
 injection e1 with e1
 subst e1
 have : tl = [] := List.eq_nil_of_length_eq_zero (by omega)
 subst this
 rw [List.append_nil] at e7
 exact ⟨rfl, e7, hB'.os.trans hB.os.symm, hB'.tape.trans hB.tape.symm, hB'.output.trans hB.output.symm, hK.1, fun i hi hne => hK.2 i hi (fun he => hne he)⟩
theorem copy_str {P : Program} {ops : Array Oper} {o : Oper} {rest : List Oper} {a : Act} {W : World} {Q : Exit → Act → World → Prop} (hgd : o.guard = none) (d x : Operand) (dT sT : TypeId)
  (ho : o.op = .call { callee := .builtin .copy, args := #[d, x], argTypes := #[dT, sT] }) (elem : TypeId) (hu : P.underlying dT = some (.slice elem)) (hz : ∀ w, (Go.sizeOf elem).run P w = .ok 1 w)
  (g off dLen dCap : Nat) (hd : a.eval d = .slice (some ⟨g, off, none⟩) dLen dCap) (s : ByteArray) (hx : a.eval x = .string s) (hle : s.size ≤ dLen)
  (cur : List Value) (t : TypeId) (hg : W.heap[g]? = some (.cells cur.toArray t (0, 0))) (m : List Int) (hm : (s.data.toList.map fun x => Value.int .u8 (x.toNat : Int)) = bytesV m) (hs : s.size = m.length) (hfit : off + m.length ≤ cur.length)
  (h : ∀ w', w'.heap[g]? = some (.cells (splice cur off (bytesV m)).toArray t (0, 0)) → Stp (fun k => k = g) W w' → wpList P ops Q rest (a.put o.dst (goInt s.size)) w') :
  wpList P ops Q (o :: rest) a W := by
 refine wpList_plain hgd fun K hK => ?_
 have hrun := run_copy_string (P := P) W dT sT o.type elem g off dLen dCap s hu hz hle (fun j hj => by rw [blk_cell hg (off + j)]; simp; omega) (fun j hj => blk_frozen hg (off + j))
 rw [hm] at hrun
 obtain ⟨cur', h3, _, h5⟩ := setCells_row (bytesV m) off W cur.toArray hg (by rw [bytesV_length]; simpa using hfit)
 obtain ⟨s1, s2, s3, s4⟩ := setCells_same g (bytesV m) off W
 unfold Oper.wp
 simp [execOp, ho, resolve, invoke, builtin, hd, hx, hrun, Result.andThen]
 refine hK _ _ (h _ ?_ ⟨s1, s2, s3, Nat.le_of_eq s4.symm, fun i _ hi => setCells_far (bytesV m) off i hi⟩)
 have e : cur'.toList = splice cur off (bytesV m) := by
  unfold splice
  rw [← List.append_assoc]
  first | exact h5 | simpa using h5
 rw [← e]
 exact h3
end Go.Proofs.Ytgfadfahbhcllaa.Q
end
section
namespace Go.Proofs.Ytgfadfahbhcllaa.Q
open Go.RowKit Go.Proofs.YtgfadfahbhcllaaW.PrintWords Go.Proofs.YtgfadfahbhcllaaW.PrintLast Go.Proofs.Ytgfadfahbhcllaa.LK Go.Proofs.YtgfadfahbhcllaaW.PrintMore
attribute [local go_sem] max2_int min2_int max_two min_two max_three min_three max_four min_four
set_option linter.unusedVariables false
set_option linter.unusedSimpArgs false
mutual
def spec_Crc32.l0 : Nat → List Int → Int → Int → Option (Int)
 | 0, _, _, _ => none
 | k + 1, x0, x3, x4 => if x4 < (x0.length : Int) then (if 0 ≤ x4 then (spec_Crc32.l1 k x0 (Go.bits .xor .u32 x3 ((rd x0 x4) % 4294967296)) x4 0) else (none)) else (some (Go.bits .xor .u32 x3 4294967295))
def spec_Crc32.l1 : Nat → List Int → Int → Int → Int → Option (Int)
 | 0, _, _, _, _ => none
 | k + 1, x0, x3, x4, x5 => if x5 < 8 then (if (Int.tmod x3 2) = 1 then (spec_Crc32.l1 k x0 (Go.bits .xor .u32 ((Int.tdiv x3 2) % 4294967296) 3988292384) x4 (wrap64 (x5 + 1))) else (spec_Crc32.l1 k x0 ((Int.tdiv x3 2) % 4294967296) x4 (wrap64 (x5 + 1)))) else (spec_Crc32.l0 k x0 x3 (wrap64 (x4 + 1)))
end
def spec_Crc32.f (k : Nat) (l0 : List Int) : Option (Int) := spec_Crc32.l0 k l0 4294967295 0
set_option maxHeartbeats 8000000 in
set_option maxRecDepth 100000 in
theorem spec_Crc32.calls (k : Nat) (A0 : Option Addr) (c0 : Nat) (l0 : List Int) (r : Int) (w : World) (hr0 : Kd.C (Kd.int .u8) w A0 l0.length l0) (hc0 : l0.length ≤ c0) (h : spec_Crc32.f k l0 = some r) :
  Calls Try.prog 50 #[.slice A0 l0.length c0] w fun e w' => e = .returned (.int .u32 r) ∧ Drawn0 w w' := by
 have HR0 := Aside0.mk hr0
 have HC0 := Aside0.mk hc0
 clear hr0 hc0
 have H : (spec_Crc32.l0 k l0 4294967295 0) = some r := h
 clear h
 have H' := Aside0.mk H
 clear H
 go_enter Try.func50, Try.ntmps50
 go_wp2
 go_loopg [3, 4] k (fun kq v3 v4 w' => ∃ (x3_1 : Int) (x4_1 : Int), v3 = .int .u32 x3_1 ∧ v4 = .int .i64 x4_1 ∧ Aside0 (spec_Crc32.l0 kq l0 x3_1 x4_1 = some r) ∧ Aside0 (kq ≤ k) ∧ Drawn0 w w')
 case atStart => exact ⟨(4294967295), (0), (by first | rfl | (simp; done) | (simp [*]; done)), (by first | rfl | (simp; done) | (simp [*]; done)), H', ⟨Nat.le_refl _⟩, by repeat (first | exact Drawn0.refl _ | apply Drawn0.step)⟩
 case round =>
  clear H'
  obtain ⟨x3_1, x4_1, rfl, rfl, HA, HK1, ⟨m1, rfl⟩⟩ := hrel
  cases gk with
  | zero => exact absurd HA.out (by simp [spec_Crc32.l0])
  | succ k1 =>
   have H := HA.out
   clear HA
   simp only [spec_Crc32.l0] at H
   by_cases c2 : x4_1 < (l0.length : Int)
   ·rw [if_pos c2] at H
    have c2b0 : decide (x4_1 < (l0.length : Int)) = true := decide_eq_true c2
    clear c2
    by_cases c3 : 0 ≤ x4_1
    ·rw [if_pos c3] at H
     have c3b0 : decide (0 ≤ x4_1) = true := decide_eq_true c3
     clear c3
     have H' := Aside0.mk H
     clear H
     have p101 : 0 ≤ (x4_1 : Int) := of_decide_eq_true (by first | (with_reducible assumption) | assumption)
     have q101 : x4_1 < (l0.length : Int) := of_decide_eq_true (by first | (with_reducible assumption) | assumption)
     obtain ⟨ad101, e101, hx101_0⟩ := Kd.at_int HR0.out x4_1 p101 q101
     cases e101
     replace p101 := eq_true p101
     replace q101 := eq_true q101
     go_wp2
     go_loopg [3, 5] k1 (fun kq v3 v5 w' => ∃ (x3_2 : Int) (x5_2 : Int), v3 = .int .u32 x3_2 ∧ v5 = .int .i64 x5_2 ∧ Aside0 (spec_Crc32.l1 kq l0 x3_2 x4_1 x5_2 = some r) ∧ Aside0 (kq ≤ k1) ∧ Drawn0 w w')
     case atStart => exact ⟨(Go.bits .xor .u32 x3_1 ((rd l0 x4_1) % 4294967296)), (0), (by first | rfl | (simp; done) | (simp [*]; done)), (by first | rfl | (simp; done) | (simp [*]; done)), H', ⟨Nat.le_refl _⟩, by repeat (first | exact Drawn0.refl _ | apply Drawn0.step)⟩
     case round =>
      clear H'
      try clear p1
      try clear q1
      try clear hx1
      try clear c2
      try clear c2b0
      try clear p2
      try clear c3
      try clear c3b0
      try clear hx101_0
      try clear p101
      try clear q101
      obtain ⟨x3_2, x5_2, rfl, rfl, HA, HK2, ⟨m2, rfl⟩⟩ := hrel
      cases gk with
      | zero => exact absurd HA.out (by simp [spec_Crc32.l1])
      | succ k2 =>
       have H := HA.out
       clear HA
       simp only [spec_Crc32.l1] at H
       by_cases c4 : x5_2 < 8
       ·rw [if_pos c4] at H
        have c4b0 : decide (x5_2 < 8) = true := decide_eq_true c4
        clear c4
        by_cases c5 : (Int.tmod x3_2 2) = 1
        ·rw [if_pos c5] at H
         have c5b0 : ((Int.tmod x3_2 2) == 1) = true := beq_iff_eq.mpr c5
         have c5b1 : ((Int.tmod x3_2 2) != 1) = false := bne_eq_false_iff_eq.mpr c5
         clear c5
         have H' := Aside0.mk H
         clear H
         go_wp2
         go_roundg k2
         case measure => have := HK1.out; have := HK2.out; omega
         case rel => exact ⟨(Go.bits .xor .u32 ((Int.tdiv x3_2 2) % 4294967296) 3988292384), (wrap64 (x5_2 + 1)), (by first | rfl | (simp; done) | (simp [*]; done)), (by first | rfl | (simp; done) | (simp [*]; done)), H', ⟨by have := HK1.out; have := HK2.out; omega⟩, by repeat (first | exact Drawn0.refl _ | apply Drawn0.step)⟩
        ·rw [if_neg c5] at H
         have c5b0 : ((Int.tmod x3_2 2) == 1) = false := beq_eq_false_iff_ne.mpr c5
         have c5b1 : ((Int.tmod x3_2 2) != 1) = true := bne_iff_ne.mpr c5
         have H' := Aside0.mk H
         clear H
         go_wp2
         go_roundg k2
         case measure => have := HK1.out; have := HK2.out; omega
         case rel => exact ⟨((Int.tdiv x3_2 2) % 4294967296), (wrap64 (x5_2 + 1)), (by first | rfl | (simp; done) | (simp [*]; done)), (by first | rfl | (simp; done) | (simp [*]; done)), H', ⟨by have := HK1.out; have := HK2.out; omega⟩, by repeat (first | exact Drawn0.refl _ | apply Drawn0.step)⟩
       ·rw [if_neg c4] at H
        have c4b0 : decide (x5_2 < 8) = false := decide_eq_false c4
        clear c4
        have H' := Aside0.mk H
        clear H
        go_wp2
        go_roundg k2
        case measure => have := HK1.out; have := HK2.out; omega
        case rel => exact ⟨(x3_2), (wrap64 (x4_1 + 1)), (by first | rfl | (simp; done) | (simp [*]; done)), (by first | rfl | (simp; done) | (simp [*]; done)), H', ⟨by have := HK1.out; have := HK2.out; omega⟩, by repeat (first | exact Drawn0.refl _ | apply Drawn0.step)⟩
    ·rw [if_neg c3] at H
     exact absurd H (by simp)
   ·rw [if_neg c2] at H
    have c2b0 : decide (x4_1 < (l0.length : Int)) = false := decide_eq_false c2
    clear c2
    obtain rfl := Option.some.inj H
    go_wp2
    go_ret
    exact ⟨by first | rfl | (simp; done) | (simp [*]; done), by repeat (first | exact Drawn0.refl _ | apply Drawn0.step)⟩
end Go.Proofs.Ytgfadfahbhcllaa.Q
end
section
namespace Go.Proofs.Ytgfadfahbhcllaa.Q
open Go.RowKit Go.Proofs.YtgfadfahbhcllaaW.PrintWords Go.Proofs.YtgfadfahbhcllaaW.PrintLast Go.Proofs.Ytgfadfahbhcllaa.LK Go.Proofs.YtgfadfahbhcllaaW.PrintMore
attribute [local go_sem] max2_int min2_int max_two min_two max_three min_three max_four min_four
set_option linter.unusedVariables false
set_option linter.unusedSimpArgs false
mutual
def impl_Crc32.l0 : Nat → Int → List Int → Int → Int → Option (Int)
 | 0, _, _, _, _ => none
 | k + 1, x3, x6, x7, x8 => if x8 < x7 then (if 0 ≤ x8 then (if x8 < (x6.length : Int) then (impl_Crc32.l1 k (Go.bits .xor .u32 x3 ((rd x6 x8) % 4294967296)) x6 x7 x8 0) else (none)) else (none)) else (some (Go.bits .xor .u32 (4294967295) x3))
def impl_Crc32.l1 : Nat → Int → List Int → Int → Int → Int → Option (Int)
 | 0, _, _, _, _, _ => none
 | k + 1, x3, x6, x7, x8, x16 => if x16 < 8 then (impl_Crc32.l1 k (Go.bits .xor .u32 (x3 / 2) (Go.bits .and .u32 3988292384 ((-(Go.bits .and .u32 x3 1)) % 4294967296))) x6 x7 x8 (wrap64 (x16 + 1))) else (impl_Crc32.l0 k x3 x6 x7 (wrap64 (x8 + 1)))
end
def impl_Crc32.f (k : Nat) (l0 : List Int) : Option (Int) := impl_Crc32.l0 k 4294967295 l0 (l0.length : Int) 0
set_option maxHeartbeats 8000000 in
set_option maxRecDepth 100000 in
theorem impl_Crc32.calls (k : Nat) (A0 : Option Addr) (c0 : Nat) (l0 : List Int) (r : Int) (w : World) (hr0 : Kd.C (Kd.int .u8) w A0 l0.length l0) (hc0 : l0.length ≤ c0) (h : impl_Crc32.f k l0 = some r) :
  Calls Try.prog 89 #[.slice A0 l0.length c0] w fun e w' => e = .returned (.int .u32 r) ∧ Drawn0 w w' := by
 have HR0 := Aside0.mk hr0
 have HC0 := Aside0.mk hc0
 clear hr0 hc0
 have H : (impl_Crc32.l0 k 4294967295 l0 (l0.length : Int) 0) = some r := h
 clear h
 have H' := Aside0.mk H
 clear H
 go_enter Try.func89, Try.ntmps89
 go_wp2
 go_loopg [3, 8] k (fun kq v3 v8 w' => ∃ (x3_1 : Int) (x8_1 : Int), v3 = .int .u32 x3_1 ∧ v8 = .int .i64 x8_1 ∧ Aside0 (impl_Crc32.l0 kq x3_1 l0 (l0.length : Int) x8_1 = some r) ∧ Aside0 (kq ≤ k) ∧ Drawn0 w w')
 case atStart => exact ⟨(4294967295), (0), (by first | rfl | (simp; done) | (simp [*]; done)), (by first | rfl | (simp; done) | (simp [*]; done)), H', ⟨Nat.le_refl _⟩, by repeat (first | exact Drawn0.refl _ | apply Drawn0.step)⟩
 case round =>
  clear H'
  obtain ⟨x3_1, x8_1, rfl, rfl, HA, HK1, ⟨m1, rfl⟩⟩ := hrel
  cases gk with
  | zero => exact absurd HA.out (by simp [impl_Crc32.l0])
  | succ k1 =>
   have H := HA.out
   clear HA
   simp only [impl_Crc32.l0] at H
   by_cases c2 : x8_1 < (l0.length : Int)
   ·rw [if_pos c2] at H
    have c2b0 : decide (x8_1 < (l0.length : Int)) = true := decide_eq_true c2
    clear c2
    by_cases c3 : 0 ≤ x8_1
    ·rw [if_pos c3] at H
     have c3b0 : decide (0 ≤ x8_1) = true := decide_eq_true c3
     clear c3
     by_cases c4 : x8_1 < (l0.length : Int)
     ·rw [if_pos c4] at H
      have c4b0 : decide (x8_1 < (l0.length : Int)) = true := decide_eq_true c4
      clear c4
      have H' := Aside0.mk H
      clear H
      have p101 : 0 ≤ (x8_1 : Int) := of_decide_eq_true (by first | (with_reducible assumption) | assumption)
      have q101 : x8_1 < (l0.length : Int) := of_decide_eq_true (by first | (with_reducible assumption) | assumption)
      obtain ⟨ad101, e101, hx101_0⟩ := Kd.at_int HR0.out x8_1 p101 q101
      cases e101
      replace p101 := eq_true p101
      replace q101 := eq_true q101
      go_wp2
      go_loopg [3, 16] k1 (fun kq v3 v16 w' => ∃ (x3_2 : Int) (x16_2 : Int), v3 = .int .u32 x3_2 ∧ v16 = .int .i64 x16_2 ∧ Aside0 (impl_Crc32.l1 kq x3_2 l0 (l0.length : Int) x8_1 x16_2 = some r) ∧ Aside0 (kq ≤ k1) ∧ Drawn0 w w')
      case atStart => exact ⟨(Go.bits .xor .u32 x3_1 ((rd l0 x8_1) % 4294967296)), (0), (by first | rfl | (simp; done) | (simp [*]; done)), (by first | rfl | (simp; done) | (simp [*]; done)), H', ⟨Nat.le_refl _⟩, by repeat (first | exact Drawn0.refl _ | apply Drawn0.step)⟩
      case round =>
       clear H'
       try clear p1
       try clear q1
       try clear hx1
       try clear c2
       try clear c2b0
       try clear p2
       try clear c3
       try clear c3b0
       try clear c4
       try clear c4b0
       try clear hx101_0
       try clear p101
       try clear q101
       obtain ⟨x3_2, x16_2, rfl, rfl, HA, HK2, ⟨m2, rfl⟩⟩ := hrel
       cases gk with
       | zero => exact absurd HA.out (by simp [impl_Crc32.l1])
       | succ k2 =>
        have H := HA.out
        clear HA
        simp only [impl_Crc32.l1] at H
        by_cases c5 : x16_2 < 8
        ·rw [if_pos c5] at H
         have c5b0 : decide (x16_2 < 8) = true := decide_eq_true c5
         clear c5
         have H' := Aside0.mk H
         clear H
         go_wp2
         go_roundg k2
         case measure => have := HK1.out; have := HK2.out; omega
         case rel => exact ⟨(Go.bits .xor .u32 (x3_2 / 2) (Go.bits .and .u32 3988292384 ((-(Go.bits .and .u32 x3_2 1)) % 4294967296))), (wrap64 (x16_2 + 1)), (by first | rfl | (simp; done) | (simp [*]; done)), (by first | rfl | (simp; done) | (simp [*]; done)), H', ⟨by have := HK1.out; have := HK2.out; omega⟩, by repeat (first | exact Drawn0.refl _ | apply Drawn0.step)⟩
        ·rw [if_neg c5] at H
         have c5b0 : decide (x16_2 < 8) = false := decide_eq_false c5
         clear c5
         have H' := Aside0.mk H
         clear H
         go_wp2
         go_roundg k2
         case measure => have := HK1.out; have := HK2.out; omega
         case rel => exact ⟨(x3_2), (wrap64 (x8_1 + 1)), (by first | rfl | (simp; done) | (simp [*]; done)), (by first | rfl | (simp; done) | (simp [*]; done)), H', ⟨by have := HK1.out; have := HK2.out; omega⟩, by repeat (first | exact Drawn0.refl _ | apply Drawn0.step)⟩
     ·rw [if_neg c4] at H
      exact absurd H (by simp)
    ·rw [if_neg c3] at H
     exact absurd H (by simp)
   ·rw [if_neg c2] at H
    have c2b0 : decide (x8_1 < (l0.length : Int)) = false := decide_eq_false c2
    clear c2
    obtain rfl := Option.some.inj H
    go_wp2
    go_ret
    exact ⟨by first | rfl | (simp; done) | (simp [*]; done), by repeat (first | exact Drawn0.refl _ | apply Drawn0.step)⟩
end Go.Proofs.Ytgfadfahbhcllaa.Q
end
section
namespace Go.Proofs.Ytgfadfahbhcllaa.P
open Go.RowKit Go.Proofs.YtgfadfahbhcllaaW.PrintWords Go.Proofs.Ytgfadfahbhcllaa.Q
set_option linter.unusedVariables false
set_option linter.unusedSimpArgs false
def U32 (x : Int) : Prop := 0 ≤ x ∧ x ≤ 4294967295
theorem u32_wrap (n : Int) (h : U32 n) : IntKind.u32.wrap n = n := by rw [IntKind.wrap_u32]; unfold U32 at h; omega
theorem bits_u32 (op : BinOp) (x y : Int) : U32 (Go.bits op .u32 x y) := by
 unfold Go.bits U32
 rw [IntKind.wrap_u32]
 omega
theorem xor32 (a b : Nat) (ha : a < 4294967296) (hb : b < 4294967296) : Go.bits .xor .u32 (a : Int) (b : Int) = ((a ^^^ b : Nat) : Int) := by
 have h : a ^^^ b < 2 ^ 32 := Nat.xor_lt_two_pow (by simpa using ha) (by simpa using hb)
 unfold Go.bits
 simp only [BitVec.ofInt_natCast, BitVec.toNat_xor, BitVec.toNat_ofNat]
 rw [show IntKind.u32.bits = 32 from rfl, Nat.mod_eq_of_lt (by simpa using ha), Nat.mod_eq_of_lt (by simpa using hb)]
 exact u32_wrap _ ⟨by omega, by omega⟩
theorem and32 (a b : Nat) (ha : a < 4294967296) (hb : b < 4294967296) : Go.bits .and .u32 (a : Int) (b : Int) = ((a &&& b : Nat) : Int) := by
 have h : a &&& b < 2 ^ 32 := Nat.and_lt_two_pow _ (by simpa using hb)
 unfold Go.bits
 simp only [BitVec.ofInt_natCast, BitVec.toNat_and, BitVec.toNat_ofNat]
 rw [show IntKind.u32.bits = 32 from rfl, Nat.mod_eq_of_lt (by simpa using ha), Nat.mod_eq_of_lt (by simpa using hb)]
 exact u32_wrap _ ⟨by omega, by omega⟩
theorem xor32_comm (x y : Int) (hx : U32 x) (hy : U32 y) : Go.bits .xor .u32 x y = Go.bits .xor .u32 y x := by
 obtain ⟨a, rfl⟩ := Int.eq_ofNat_of_zero_le hx.1
 obtain ⟨b, rfl⟩ := Int.eq_ofNat_of_zero_le hy.1
 have h1 := hx.2
 have h2 := hy.2
 rw [xor32 a b (by omega) (by omega), xor32 b a (by omega) (by omega), Nat.xor_comm]
def bit (x : Int) : Int := if x % 2 = 1 then Go.bits .xor .u32 (x / 2) 3988292384 else x / 2
theorem bit_range {x : Int} (h : U32 x) : U32 (bit x) := by
 unfold bit
 split
 ·exact bits_u32 _ _ _
 ·unfold U32 at *
  omega
theorem bit_spec {x : Int} (h : U32 x) : (if Int.tmod x 2 = 1 then Go.bits .xor .u32 ((Int.tdiv x 2) % 4294967296) 3988292384 else (Int.tdiv x 2) % 4294967296) = bit x := by
 unfold U32 at h
 have e1 : Int.tmod x 2 = x % 2 := Int.tmod_eq_emod_of_nonneg h.1
 have e2 : Int.tdiv x 2 = x / 2 := Int.tdiv_eq_ediv_of_nonneg h.1
 have e3 : (x / 2) % 4294967296 = x / 2 := by omega
 rw [e1, e2, e3]
 rfl
theorem bit_impl {x : Int} (h : U32 x) : Go.bits .xor .u32 (x / 2) (Go.bits .and .u32 3988292384 ((-(Go.bits .and .u32 x 1)) % 4294967296)) = bit x := by
 obtain ⟨n, rfl⟩ := Int.eq_ofNat_of_zero_le h.1
 have h1 := h.2
 have e : Go.bits .and .u32 (n : Int) 1 = ((n % 2 : Nat) : Int) := by
  have := and32 n 1 (by omega) (by omega)
  rw [Nat.and_one_is_mod] at this
  exact this
 unfold bit
 rw [e]
 rcases Nat.mod_two_eq_zero_or_one n with h2 | h2
 ·rw [h2, if_neg (by omega)]
  rw [show (-((0 : Nat) : Int)) % 4294967296 = 0 from by decide, show Go.bits .and .u32 3988292384 0 = 0 from by decide]
  have := xor32 (n / 2) 0 (by omega) (by omega)
  rw [Nat.xor_zero] at this
  exact this
 ·rw [h2, if_pos (by omega)]
  rw [show (-((1 : Nat) : Int)) % 4294967296 = 4294967295 from by decide, show Go.bits .and .u32 3988292384 4294967295 = 3988292384 from by decide]
def bitN : Nat → Int → Int
 | 0, x => x
 | n + 1, x => bitN n (bit x)
theorem bitN_range : ∀ n {x : Int}, U32 x → U32 (bitN n x)
 | 0, _, h => h
 | n + 1, _, h => bitN_range n (bit_range h)
def crcByte (c b : Int) : Int := bitN 8 (Go.bits .xor .u32 c (b % 4294967296))
def crcOf (l : List Int) (c : Int) : Int := l.foldl crcByte c
theorem crcOf_range : ∀ (l : List Int) {c : Int}, U32 c → U32 (crcOf l c)
 | [], _, h => h
 | b :: l, _, _ => crcOf_range l (bitN_range 8 (bits_u32 _ _ _))
def crc32 (l : List Int) : Int := Go.bits .xor .u32 (crcOf l 4294967295) 4294967295
theorem crc32_range (l : List Int) : U32 (crc32 l) := bits_u32 _ _ _
theorem spec_inner (l : List Int) (i4 : Int) {r : Int} : ∀ (j i : Nat) (x : Int), i + j = 8 → U32 x → Ev (fun k => spec_Crc32.l0 k l (bitN j x) (wrap64 (i4 + 1))) r → Ev (fun k => spec_Crc32.l1 k l x i4 (i : Int)) r
 | 0, i, x, h, _, e => by
  refine Ev.step ⟨0, fun k _ => ?_⟩ e
  simp only [spec_Crc32.l1]
  rw [if_neg (by omega)]
  rfl
 | j + 1, i, x, h, hx, e => by
  refine Ev.step ⟨0, fun k _ => ?_⟩ (spec_inner l i4 j (i + 1) (bit x) (by omega) (bit_range hx) e)
  simp only [spec_Crc32.l1]
  rw [if_pos (by omega), w64s (i := i) (n := 8) (by omega) (by omega), ← bit_spec hx]
  split <;> rfl
theorem spec_Crc32_ev (l : List Int) (h : l.length ≤ 4611686018427387904) : Ev (fun k => spec_Crc32.f k l) (crc32 l) := by
 have key : ∀ (rest done : List Int) (c : Int), done ++ rest = l → U32 c → Ev (fun k => spec_Crc32.l0 k l c (done.length : Int)) (Go.bits .xor .u32 (crcOf rest c) 4294967295) := by
  intro rest
  induction rest with
  | nil =>
   intro done c hl hc
   refine Ev.last ⟨0, fun k _ => ?_⟩
   have : l.length = done.length := by rw [← hl, List.append_nil]
   simp only [spec_Crc32.l0]
   rw [if_neg (by omega)]
   rfl
  | cons b rest ih =>
   intro done c hl hc
   have hlen : done.length + (rest.length + 1) = l.length := by rw [← hl, List.length_append, List.length_cons]
   have hat : l[done.length]? = some b := by rw [← hl]; simp
   have h1 := ih (done ++ [b]) (crcByte c b) (by rw [← hl]; simp) (bitN_range 8 (bits_u32 _ _ _))
   rw [List.length_append, List.length_singleton] at h1
   refine Ev.step ⟨0, fun k _ => ?_⟩ (spec_inner l (done.length : Int) 8 0 (Go.bits .xor .u32 c (b % 4294967296)) rfl (bits_u32 _ _ _) ?_)
   ·simp only [spec_Crc32.l0]
    rw [if_pos (by omega), if_pos (by omega), rd_at hat]
    rfl
   ·rw [w64s (i := done.length) (n := l.length) (by omega) (by omega)]
    exact h1
 exact key l [] 4294967295 rfl ⟨by decide, by decide⟩
theorem impl_inner (l : List Int) (n i4 : Int) {r : Int} : ∀ (j i : Nat) (x : Int), i + j = 8 → U32 x → Ev (fun k => impl_Crc32.l0 k (bitN j x) l n (wrap64 (i4 + 1))) r → Ev (fun k => impl_Crc32.l1 k x l n i4 (i : Int)) r
 | 0, i, x, h, _, e => by
  refine Ev.step ⟨0, fun k _ => ?_⟩ e
  simp only [impl_Crc32.l1]
  rw [if_neg (by omega)]
  rfl
 | j + 1, i, x, h, hx, e => by
  refine Ev.step ⟨0, fun k _ => ?_⟩ (impl_inner l n i4 j (i + 1) (bit x) (by omega) (bit_range hx) e)
  simp only [impl_Crc32.l1]
  rw [if_pos (by omega), w64s (i := i) (n := 8) (by omega) (by omega), bit_impl hx]
theorem impl_Crc32_ev (l : List Int) (h : l.length ≤ 4611686018427387904) : Ev (fun k => impl_Crc32.f k l) (crc32 l) := by
 have key : ∀ (rest done : List Int) (c : Int), done ++ rest = l → U32 c → Ev (fun k => impl_Crc32.l0 k c l (l.length : Int) (done.length : Int)) (Go.bits .xor .u32 4294967295 (crcOf rest c)) := by
  intro rest
  induction rest with
  | nil =>
   intro done c hl hc
   refine Ev.last ⟨0, fun k _ => ?_⟩
   have : l.length = done.length := by rw [← hl, List.append_nil]
   simp only [impl_Crc32.l0]
   rw [if_neg (by omega)]
   rfl
  | cons b rest ih =>
   intro done c hl hc
   have hlen : done.length + (rest.length + 1) = l.length := by rw [← hl, List.length_append, List.length_cons]
   have hat : l[done.length]? = some b := by rw [← hl]; simp
   have h1 := ih (done ++ [b]) (crcByte c b) (by rw [← hl]; simp) (bitN_range 8 (bits_u32 _ _ _))
   rw [List.length_append, List.length_singleton] at h1
   refine Ev.step ⟨0, fun k _ => ?_⟩ (impl_inner l (l.length : Int) (done.length : Int) 8 0 (Go.bits .xor .u32 c (b % 4294967296)) rfl (bits_u32 _ _ _) ?_)
   ·simp only [impl_Crc32.l0]
    rw [if_pos (by omega), if_pos (by omega), if_pos (by omega), rd_at hat]
    rfl
   ·rw [w64s (i := done.length) (n := l.length) (by omega) (by omega)]
    exact h1
 have h1 := key l [] 4294967295 rfl ⟨by decide, by decide⟩
 rw [xor32_comm _ _ ⟨by decide, by decide⟩ (crcOf_range l ⟨by decide, by decide⟩)] at h1
 exact h1
end Go.Proofs.Ytgfadfahbhcllaa.P
end
section
namespace Go.Proofs.Ytgfadfahbhcllaa.Q
open Go.RowKit Go.Proofs.YtgfadfahbhcllaaW.PrintWords Go.Proofs.YtgfadfahbhcllaaW.PrintLast Go.Proofs.Ytgfadfahbhcllaa.LK Go.Proofs.YtgfadfahbhcllaaW.PrintMore
attribute [local go_sem] max2_int min2_int max_two min_two max_three min_three max_four min_four
set_option linter.unusedVariables false
set_option linter.unusedSimpArgs false
end Go.Proofs.Ytgfadfahbhcllaa.Q
end
section
namespace Go.Proofs.Ytgfadfahbhcllaa.Q
open Go.RowKit Go.Proofs.YtgfadfahbhcllaaW.PrintWords Go.Proofs.YtgfadfahbhcllaaW.PrintLast Go.Proofs.YtgfadfahbhcllaaW.PrintMore Go.Proofs.Ytgfadfahbhcllaa.LK
set_option linter.unusedVariables false
set_option linter.unusedSimpArgs false
def frameHead (q kd a b : Int) : List Int := P.leB 4 q ++ ([74, 49, kd % 256, 0] ++ (P.leB 4 a ++ (P.leB 4 b ++ List.replicate 40 0)))
def frameCode (q kd a b : Int) : List Int := frameHead q kd a b ++ (P.leB 4 (P.crc32 (frameHead q kd a b)) ++ P.leB 4 q)
theorem bytesV_set (l : List Int) (i : Nat) (x : Int) : (bytesV l).set i (.int .u8 x) = bytesV (l.set i x) := by unfold bytesV; exact List.map_set.symm
theorem set_seg {l : List Int} {i : Nat} {x : Int} (h : i < l.length) : (bytesV l).take i ++ [.int .u8 x] ++ (bytesV l).drop (i + 1) = bytesV (l.set i x) := by
 rw [← bytesV_set, List.set_eq_take_append_cons_drop, if_pos (by rw [bytesV_length]; exact h), List.append_assoc]
 rfl
end Go.Proofs.Ytgfadfahbhcllaa.Q
end
section
namespace Go.Proofs.Ytgfadfahbhcllaa.Q
open Go.RowKit Go.Proofs.YtgfadfahbhcllaaW.PrintWords Go.Proofs.YtgfadfahbhcllaaW.PrintLast Go.Proofs.YtgfadfahbhcllaaW.PrintMore Go.Proofs.Ytgfadfahbhcllaa.LK
set_option linter.unusedVariables false
section
variable {P : Program} {w : World}
theorem items_bytes {d : Nat} {e : TypeId} (he : P.underlying e = some (.int .u8)) (xs ys : List Int) : ∀ (is : List Nat), (∀ i ∈ is, i < xs.length ∧ i < ys.length) →
  ∃ r : Bool, (Op.eqItems (d + 1) e 1 (bytesV xs).toArray (bytesV ys).toArray is).run P w = .ok r w ∧ (r = true ↔ ∀ i ∈ is, xs[i]? = ys[i]?)
 | [], _ => ⟨true, by simp [Op.eqItems], by simp⟩
 | i :: is, h => by
  obtain ⟨h1, h2⟩ := h i (List.mem_cons_self ..)
  obtain ⟨r, hr, hi⟩ := items_bytes (d := d) he xs ys is (fun j hj => h j (List.mem_cons_of_mem _ hj))
  have hk : P.plainKey e = true := by unfold Program.plainKey; rw [he]
  have g1 : (bytesV xs).toArray[i * 1]? = some (.int .u8 xs[i]) := by rw [Nat.mul_one]; unfold bytesV; simp [List.getElem?_eq_getElem h1]
  have g2 : (bytesV ys).toArray[i * 1]? = some (.int .u8 ys[i]) := by rw [Nat.mul_one]; unfold bytesV; simp [List.getElem?_eq_getElem h2]
  have p1 := run_part_plain w hk g1
  have p2 := run_part_plain w hk g2
  have p3 := run_equalIn_int (P := P) w d e .u8 .u8 xs[i] ys[i] he
  simp only [Op.eqItems, Sem.run_bind, p1, p2, p3, Result.andThen_ok]
  by_cases hxy : xs[i] = ys[i]
  ·rw [if_neg (by simp [hxy])]
   refine ⟨r, hr, ?_⟩
   rw [hi]
   constructor
   ·intro hall j hj
    rcases List.mem_cons.1 hj with rfl | hj
    ·rw [List.getElem?_eq_getElem h1, List.getElem?_eq_getElem h2, hxy]
    ·exact hall j hj
   ·exact fun hall j hj => hall j (List.mem_cons_of_mem _ hj)
  ·rw [if_pos (by simp [hxy])]
   refine ⟨false, rfl, ?_⟩
   constructor
   ·intro hf; cases hf
   ·intro hall
    have := hall i (List.mem_cons_self ..)
    rw [List.getElem?_eq_getElem h1, List.getElem?_eq_getElem h2] at this
    exact absurd (Option.some.inj this) hxy
theorem neq_arr {t e : TypeId} {n : Nat} {i : TypeInfo} (hu : P.underlying t = some (.array n e)) (he : P.underlying e = some (.int .u8)) (hi : P.info? e = some i) (hc : P.cellsOf e = 1) {xs ys : List Int} (hx : xs.length = n) (hy : ys.length = n) :
  (binOp .neq t (.agg (bytesV xs).toArray) (.agg (bytesV ys).toArray)).run P w = .ok (.bool (decide (xs ≠ ys))) w := by
 obtain ⟨r, hr, hiff⟩ := items_bytes (P := P) (w := w) (d := 9998) he xs ys (List.range n) (fun j hj => by have := List.mem_range.1 hj; omega)
 rw [run_neq_struct]
 have h1 := run_equalIn_array (P := P) w 9999 (bytesV xs).toArray (bytesV ys).toArray hu hi
 rw [hc] at h1
 rw [h1, hr, Result.andThen_ok]
 have hd : (!r) = decide (xs ≠ ys) := by
  have e : r = decide (xs = ys) := by
   rw [Bool.eq_iff_iff, hiff, decide_eq_true_iff]
   constructor
   ·intro hall
    refine List.ext_getElem? (fun j => ?_)
    by_cases hj : j < n
    ·exact hall j (List.mem_range.2 hj)
    ·rw [List.getElem?_eq_none (by omega), List.getElem?_eq_none (by omega)]
   ·rintro rfl _ _
    rfl
  rw [e]
  by_cases hxy : xs = ys <;> simp [hxy]
 rw [hd]
end
end Go.Proofs.Ytgfadfahbhcllaa.Q
end
section
namespace Go.Proofs.Ytgfadfahbhcllaa.Q
open Go.RowKit Go.Proofs.YtgfadfahbhcllaaW.PrintWords Go.Proofs.YtgfadfahbhcllaaW.PrintLast Go.Proofs.Ytgfadfahbhcllaa.LK Go.Proofs.YtgfadfahbhcllaaW.PrintMore
attribute [local go_sem] max2_int min2_int max_two min_two max_three min_three max_four min_four
set_option linter.unusedVariables false
set_option linter.unusedSimpArgs false
def impl_get.l0 : Nat → List Int → Int → Int → Int → Option (Int)
 | 0, _, _, _, _ => none
 | k + 1, x0, x1, x7, x8 => if x8 ≥ 0 then (if 0 ≤ (wrap64 (x1 + x8)) then (if (wrap64 (x1 + x8)) < (x0.length : Int) then (impl_get.l0 k x0 x1 (Go.bits .or .u64 (IntKind.u64.wrap (x7 * 256)) (IntKind.u64.wrap (rd x0 (wrap64 (x1 + x8))))) (wrap64 (x8 - 1))) else (none)) else (none)) else (some x7)
def impl_get.f (k : Nat) (l0 : List Int) (a1 : Int) (a2 : Int) : Option (Int) := impl_get.l0 k l0 a1 0 (wrap64 (a2 - 1))
set_option maxHeartbeats 8000000 in
set_option maxRecDepth 100000 in
theorem impl_get.calls (k : Nat) (A0 : Option Addr) (c0 : Nat) (l0 : List Int) (a1 : Int) (a2 : Int) (r : Int) (w : World) (hr0 : Kd.C (Kd.int .u8) w A0 l0.length l0) (hc0 : l0.length ≤ c0) (h : impl_get.f k l0 a1 a2 = some r) :
  Calls Try.prog 90 #[.slice A0 l0.length c0, .int .i64 a1, .int .i64 a2] w fun e w' => e = .returned (.int .u64 r) ∧ Drawn0 w w' := by
 have HR0 := Aside0.mk hr0
 have HC0 := Aside0.mk hc0
 clear hr0 hc0
 have H : (impl_get.l0 k l0 a1 0 (wrap64 (a2 - 1))) = some r := h
 clear h
 have H' := Aside0.mk H
 clear H
 go_enter Try.func90, Try.ntmps90
 go_wp2
 go_loopg [7, 8] k (fun kq v7 v8 w' => ∃ (x7_1 : Int) (x8_1 : Int), v7 = .int .u64 x7_1 ∧ v8 = .int .i64 x8_1 ∧ Aside0 (impl_get.l0 kq l0 a1 x7_1 x8_1 = some r) ∧ Aside0 (kq ≤ k) ∧ Drawn0 w w')
 case atStart => exact ⟨(0), (wrap64 (a2 - 1)), (by first | rfl | (simp; done) | (simp [*]; done)), (by first | rfl | (simp; done) | (simp [*]; done)), H', ⟨Nat.le_refl _⟩, by repeat (first | exact Drawn0.refl _ | apply Drawn0.step)⟩
 case round =>
  clear H'
  try clear p2
  obtain ⟨x7_1, x8_1, rfl, rfl, HA, HK1, ⟨m1, rfl⟩⟩ := hrel
  cases gk with
  | zero => exact absurd HA.out (by simp [impl_get.l0])
  | succ k1 =>
   have H := HA.out
   clear HA
   simp only [impl_get.l0] at H
   by_cases c4 : x8_1 ≥ 0
   ·rw [if_pos c4] at H
    have c4b0 : decide (0 ≤ x8_1) = true := decide_eq_true c4
    clear c4
    obtain ⟨ji5, hji5⟩ : ∃ j_ : Int, (wrap64 (a1 + x8_1)) = j_ := ⟨_, rfl⟩
    replace H : (if 0 ≤ (ji5) then (if (ji5) < (l0.length : Int) then (impl_get.l0 k1 l0 a1 (Go.bits .or .u64 (IntKind.u64.wrap (x7_1 * 256)) (IntKind.u64.wrap (rd l0 (ji5)))) (wrap64 (x8_1 - 1))) else (none)) else (none)) = some r := by first | (rw [hji5] at H; exact H) | (simp only [hji5] at H ⊢; exact H)
    have hji5w : (IntKind.i64.wrap (a1 + x8_1)) = ji5 := (i64_w _).trans hji5
    by_cases c6 : 0 ≤ (ji5)
    ·rw [if_pos c6] at H
     have c6b0 : decide (0 ≤ (ji5)) = true := decide_eq_true c6
     clear c6
     by_cases c7 : (ji5) < (l0.length : Int)
     ·rw [if_pos c7] at H
      have c7b0 : decide ((ji5) < (l0.length : Int)) = true := decide_eq_true c7
      clear c7
      have H' := Aside0.mk H
      clear H
      have p101 : 0 ≤ ((ji5) : Int) := of_decide_eq_true (by first | (with_reducible assumption) | assumption)
      have q101 : (ji5) < (l0.length : Int) := of_decide_eq_true (by first | (with_reducible assumption) | assumption)
      obtain ⟨ad101, e101, hx101_0⟩ := Kd.at_int HR0.out (ji5) p101 q101
      cases e101
      replace p101 := eq_true p101
      replace q101 := eq_true q101
      go_wp2
      go_roundg k1
      case measure => have := HK1.out; omega
      case rel => exact ⟨(Go.bits .or .u64 (IntKind.u64.wrap (x7_1 * 256)) (IntKind.u64.wrap (rd l0 (ji5)))), (wrap64 (x8_1 - 1)), (by first | rfl | (simp; done) | (simp only [← hji5] <;> (first | rfl | simp)) | (simp [*]; done)), (by first | rfl | (simp; done) | (simp [*]; done)), H', ⟨by have := HK1.out; omega⟩, by repeat (first | exact Drawn0.refl _ | apply Drawn0.step)⟩
     ·rw [if_neg c7] at H
      exact absurd H (by simp)
    ·rw [if_neg c6] at H
     exact absurd H (by simp)
   ·rw [if_neg c4] at H
    have c4b0 : decide (0 ≤ x8_1) = false := decide_eq_false c4
    clear c4
    obtain rfl := Option.some.inj H
    go_wp2
    go_ret
    exact ⟨by first | rfl | (simp; done) | (simp [*]; done), by repeat (first | exact Drawn0.refl _ | apply Drawn0.step)⟩
end Go.Proofs.Ytgfadfahbhcllaa.Q
end
section
namespace Go.Proofs.Ytgfadfahbhcllaa.Q
open Go.RowKit Go.Proofs.YtgfadfahbhcllaaW.PrintWords Go.Proofs.YtgfadfahbhcllaaW.PrintLast Go.Proofs.Ytgfadfahbhcllaa.LK Go.Proofs.YtgfadfahbhcllaaW.PrintMore
attribute [local go_sem] max2_int min2_int max_two min_two max_three min_three max_four min_four
set_option linter.unusedVariables false
set_option linter.unusedSimpArgs false
def spec_l2Get.f (l0 : List Int) (a1 : Int) : Option (Int) := if 0 ≤ a1 then (if a1 < (l0.length : Int) then (if 0 ≤ (wrap64 (a1 + 1)) then (if (wrap64 (a1 + 1)) < (l0.length : Int) then (if 0 ≤ (wrap64 (a1 + 2)) then (if (wrap64 (a1 + 2)) < (l0.length : Int) then (if 0 ≤ (wrap64 (a1 + 3)) then (if (wrap64 (a1 + 3)) < (l0.length : Int) then (some ((((((((rd l0 a1) % 4294967296) + ((256 * ((rd l0 (wrap64 (a1 + 1))) % 4294967296)) % 4294967296)) % 4294967296) + ((65536 * ((rd l0 (wrap64 (a1 + 2))) % 4294967296)) % 4294967296)) % 4294967296) + ((16777216 * ((rd l0 (wrap64 (a1 + 3))) % 4294967296)) % 4294967296)) % 4294967296)) else (none)) else (none)) else (none)) else (none)) else (none)) else (none)) else (none)) else (none)
set_option maxHeartbeats 8000000 in
set_option maxRecDepth 100000 in
theorem spec_l2Get.calls (A0 : Option Addr) (c0 : Nat) (l0 : List Int) (a1 : Int) (r : Int) (w : World) (hr0 : Kd.C (Kd.int .u8) w A0 l0.length l0) (hc0 : l0.length ≤ c0) (h : spec_l2Get.f l0 a1 = some r) :
  Calls Try.prog 53 #[.slice A0 l0.length c0, .int .i64 a1] w fun e w' => e = .returned (.int .u32 r) ∧ Drawn0 w w' := by
 have HR0 := Aside0.mk hr0
 have HC0 := Aside0.mk hc0
 clear hr0 hc0
 have H : (if 0 ≤ a1 then (if a1 < (l0.length : Int) then (if 0 ≤ (wrap64 (a1 + 1)) then (if (wrap64 (a1 + 1)) < (l0.length : Int) then (if 0 ≤ (wrap64 (a1 + 2)) then (if (wrap64 (a1 + 2)) < (l0.length : Int) then (if 0 ≤ (wrap64 (a1 + 3)) then (if (wrap64 (a1 + 3)) < (l0.length : Int) then (some ((((((((rd l0 a1) % 4294967296) + ((256 * ((rd l0 (wrap64 (a1 + 1))) % 4294967296)) % 4294967296)) % 4294967296) + ((65536 * ((rd l0 (wrap64 (a1 + 2))) % 4294967296)) % 4294967296)) % 4294967296) + ((16777216 * ((rd l0 (wrap64 (a1 + 3))) % 4294967296)) % 4294967296)) % 4294967296)) else (none)) else (none)) else (none)) else (none)) else (none)) else (none)) else (none)) else (none)) = some r := h
 clear h
 by_cases c3 : 0 ≤ a1
 ·rw [if_pos c3] at H
  have c3b0 : decide (0 ≤ a1) = true := decide_eq_true c3
  clear c3
  by_cases c4 : a1 < (l0.length : Int)
  ·rw [if_pos c4] at H
   have c4b0 : decide (a1 < (l0.length : Int)) = true := decide_eq_true c4
   clear c4
   obtain ⟨ji5, hji5⟩ : ∃ j_ : Int, (wrap64 (a1 + 1)) = j_ := ⟨_, rfl⟩
   replace H : (if 0 ≤ (ji5) then (if (ji5) < (l0.length : Int) then (if 0 ≤ (wrap64 (a1 + 2)) then (if (wrap64 (a1 + 2)) < (l0.length : Int) then (if 0 ≤ (wrap64 (a1 + 3)) then (if (wrap64 (a1 + 3)) < (l0.length : Int) then (some ((((((((rd l0 a1) % 4294967296) + ((256 * ((rd l0 (ji5)) % 4294967296)) % 4294967296)) % 4294967296) + ((65536 * ((rd l0 (wrap64 (a1 + 2))) % 4294967296)) % 4294967296)) % 4294967296) + ((16777216 * ((rd l0 (wrap64 (a1 + 3))) % 4294967296)) % 4294967296)) % 4294967296)) else (none)) else (none)) else (none)) else (none)) else (none)) else (none)) = some r := by first | (rw [hji5] at H; exact H) | (simp only [hji5] at H ⊢; exact H)
   have hji5w : (IntKind.i64.wrap (a1 + 1)) = ji5 := (i64_w _).trans hji5
   by_cases c6 : 0 ≤ (ji5)
   ·rw [if_pos c6] at H
    have c6b0 : decide (0 ≤ (ji5)) = true := decide_eq_true c6
    clear c6
    by_cases c7 : (ji5) < (l0.length : Int)
    ·rw [if_pos c7] at H
     have c7b0 : decide ((ji5) < (l0.length : Int)) = true := decide_eq_true c7
     clear c7
     obtain ⟨ji8, hji8⟩ : ∃ j_ : Int, (wrap64 (a1 + 2)) = j_ := ⟨_, rfl⟩
     replace H : (if 0 ≤ (ji8) then (if (ji8) < (l0.length : Int) then (if 0 ≤ (wrap64 (a1 + 3)) then (if (wrap64 (a1 + 3)) < (l0.length : Int) then (some ((((((((rd l0 a1) % 4294967296) + ((256 * ((rd l0 (ji5)) % 4294967296)) % 4294967296)) % 4294967296) + ((65536 * ((rd l0 (ji8)) % 4294967296)) % 4294967296)) % 4294967296) + ((16777216 * ((rd l0 (wrap64 (a1 + 3))) % 4294967296)) % 4294967296)) % 4294967296)) else (none)) else (none)) else (none)) else (none)) = some r := by first | (rw [hji8] at H; exact H) | (simp only [hji8] at H ⊢; exact H)
     have hji8w : (IntKind.i64.wrap (a1 + 2)) = ji8 := (i64_w _).trans hji8
     by_cases c9 : 0 ≤ (ji8)
     ·rw [if_pos c9] at H
      have c9b0 : decide (0 ≤ (ji8)) = true := decide_eq_true c9
      clear c9
      by_cases c10 : (ji8) < (l0.length : Int)
      ·rw [if_pos c10] at H
       have c10b0 : decide ((ji8) < (l0.length : Int)) = true := decide_eq_true c10
       clear c10
       obtain ⟨ji11, hji11⟩ : ∃ j_ : Int, (wrap64 (a1 + 3)) = j_ := ⟨_, rfl⟩
       replace H : (if 0 ≤ (ji11) then (if (ji11) < (l0.length : Int) then (some ((((((((rd l0 a1) % 4294967296) + ((256 * ((rd l0 (ji5)) % 4294967296)) % 4294967296)) % 4294967296) + ((65536 * ((rd l0 (ji8)) % 4294967296)) % 4294967296)) % 4294967296) + ((16777216 * ((rd l0 (ji11)) % 4294967296)) % 4294967296)) % 4294967296)) else (none)) else (none)) = some r := by first | (rw [hji11] at H; exact H) | (simp only [hji11] at H ⊢; exact H)
       have hji11w : (IntKind.i64.wrap (a1 + 3)) = ji11 := (i64_w _).trans hji11
       by_cases c12 : 0 ≤ (ji11)
       ·rw [if_pos c12] at H
        have c12b0 : decide (0 ≤ (ji11)) = true := decide_eq_true c12
        clear c12
        by_cases c13 : (ji11) < (l0.length : Int)
        ·rw [if_pos c13] at H
         have c13b0 : decide ((ji11) < (l0.length : Int)) = true := decide_eq_true c13
         clear c13
         obtain rfl := Option.some.inj H
         have p101 : 0 ≤ (a1 : Int) := of_decide_eq_true (by first | (with_reducible assumption) | assumption)
         have q101 : a1 < (l0.length : Int) := of_decide_eq_true (by first | (with_reducible assumption) | assumption)
         obtain ⟨ad101, e101, hx101_0⟩ := Kd.at_int HR0.out a1 p101 q101
         cases e101
         replace p101 := eq_true p101
         replace q101 := eq_true q101
         have p102 : 0 ≤ ((ji5) : Int) := of_decide_eq_true (by first | (with_reducible assumption) | assumption)
         have q102 : (ji5) < (l0.length : Int) := of_decide_eq_true (by first | (with_reducible assumption) | assumption)
         obtain ⟨ad102, e102, hx102_0⟩ := Kd.at_int HR0.out (ji5) p102 q102
         obtain rfl : ad101 = ad102 := (by injection e102)
         replace p102 := eq_true p102
         replace q102 := eq_true q102
         have p103 : 0 ≤ ((ji8) : Int) := of_decide_eq_true (by first | (with_reducible assumption) | assumption)
         have q103 : (ji8) < (l0.length : Int) := of_decide_eq_true (by first | (with_reducible assumption) | assumption)
         obtain ⟨ad103, e103, hx103_0⟩ := Kd.at_int HR0.out (ji8) p103 q103
         obtain rfl : ad101 = ad103 := (by injection e103)
         replace p103 := eq_true p103
         replace q103 := eq_true q103
         have p104 : 0 ≤ ((ji11) : Int) := of_decide_eq_true (by first | (with_reducible assumption) | assumption)
         have q104 : (ji11) < (l0.length : Int) := of_decide_eq_true (by first | (with_reducible assumption) | assumption)
         obtain ⟨ad104, e104, hx104_0⟩ := Kd.at_int HR0.out (ji11) p104 q104
         obtain rfl : ad101 = ad104 := (by injection e104)
         replace p104 := eq_true p104
         replace q104 := eq_true q104
         go_enter Try.func53, Try.ntmps53
         go_wp2
         repeat (go_quiet (fail); try go_wp2)
         go_ret
         exact ⟨by first | rfl | (simp; done) | (simp only [← hji5, ← hji8, ← hji11] <;> (first | rfl | simp)) | (simp [*]; done), by repeat (first | exact Drawn0.refl _ | apply Drawn0.step)⟩
        ·rw [if_neg c13] at H
         exact absurd H (by simp)
       ·rw [if_neg c12] at H
        exact absurd H (by simp)
      ·rw [if_neg c10] at H
       exact absurd H (by simp)
     ·rw [if_neg c9] at H
      exact absurd H (by simp)
    ·rw [if_neg c7] at H
     exact absurd H (by simp)
   ·rw [if_neg c6] at H
    exact absurd H (by simp)
  ·rw [if_neg c4] at H
   exact absurd H (by simp)
 ·rw [if_neg c3] at H
  exact absurd H (by simp)
end Go.Proofs.Ytgfadfahbhcllaa.Q
end
section
namespace Go.Proofs.Ytgfadfahbhcllaa.P
open Go.RowKit Go.Proofs.YtgfadfahbhcllaaW.PrintWords Go.Proofs.Ytgfadfahbhcllaa.Q
set_option linter.unusedVariables false
set_option linter.unusedSimpArgs false
def le : List Int → Int
 | [] => 0
 | b :: bs => b + 256 * le bs
def U8s (l : List Int) : Prop := ∀ z ∈ l, 0 ≤ z ∧ z ≤ 255
theorem U8s.drop {l : List Int} (h : U8s l) (n : Nat) : U8s (l.drop n) := fun z hz => h z (List.mem_of_mem_drop hz)
theorem U8s.take {l : List Int} (h : U8s l) (n : Nat) : U8s (l.take n) := fun z hz => h z (List.mem_of_mem_take hz)
theorem U8s.at_ {l : List Int} (h : U8s l) {i : Nat} {b : Int} (hb : l[i]? = some b) : 0 ≤ b ∧ b ≤ 255 := h b (List.mem_of_getElem? hb)
theorem le_range : ∀ {l : List Int}, U8s l → 0 ≤ le l ∧ le l < 256 ^ l.length
 | [], _ => ⟨by decide, by decide⟩
 | b :: bs, h => by
  have h1 := le_range (l := bs) (fun z hz => h z (List.mem_cons_of_mem _ hz))
  have h2 := h b (List.mem_cons_self ..)
  have e : (256 : Int) ^ (b :: bs).length = 256 * 256 ^ bs.length := by rw [List.length_cons, Int.pow_succ, Int.mul_comm]
  rw [e]
  unfold le
  omega
theorem u64_wrap {n : Int} (h0 : 0 ≤ n) (h : n < 18446744073709551616) : IntKind.u64.wrap n = n := by
 simp [IntKind.wrap, IntKind.bits, IntKind.signed]
 omega
theorem or_byte (x b : Int) (hx : 0 ≤ x) (hx1 : x < 72057594037927936) (hb : 0 ≤ b ∧ b ≤ 255) : Go.bits .or .u64 (IntKind.u64.wrap (x * 256)) (IntKind.u64.wrap b) = b + 256 * x := by
 rw [u64_wrap (by omega) (by omega), u64_wrap (by omega) (by omega)]
 rw [bits_join .u64 64 (Nat.le_refl _) (fun n h h2 => u64_wrap h h2) 8 (x * 256) b (by omega) (by omega) (by omega) hb.1 (by omega) (by omega)]
 omega
theorem get_loop (l : List Int) (a : Int) (hb : U8s l) (h0 : 0 ≤ a) (hl : l.length ≤ 4611686018427387904) : ∀ (i : Nat) (m : List Int), i + m.length ≤ 8 → a.toNat + i + m.length ≤ l.length → (l.drop (a.toNat + i)).take m.length = m →
  Ev (fun k => impl_get.l0 k l a (le m) ((i : Int) - 1)) (le ((l.drop a.toNat).take (i + m.length)))
 | 0, m, h8, hal, hm => by
  refine Ev.last ⟨0, fun k _ => ?_⟩
  simp only [impl_get.l0]
  rw [if_neg (by omega)]
  rw [Nat.zero_add]
  rw [Nat.add_zero] at hm
  rw [hm]
 | i + 1, m, h8, hal, hm => by
  obtain ⟨b, hbt⟩ := some_at (show a.toNat + i < l.length by omega)
  have hmb : U8s m := hm ▸ (hb.drop _).take _
  have hr := le_range hmb
  have hp : (256 : Int) ^ m.length ≤ 256 ^ 7 := by
   have : (256 : Nat) ^ m.length ≤ 256 ^ 7 := Nat.pow_le_pow_right (by decide) (by omega)
   have h := Int.ofNat_le.mpr this
   rw [Int.natCast_pow, Int.natCast_pow] at h
   exact h
  have hlt : le m < 72057594037927936 := by
   have : (256 : Int) ^ 7 = 72057594037927936 := by rfl
   omega
  have hc : (l.drop (a.toNat + i)).take (b :: m).length = b :: m := by
   rw [List.length_cons, List.drop_eq_getElem_cons (by omega), List.take_succ_cons]
   congr 1
   exact (List.getElem?_eq_some_iff.1 hbt).2
  have h1 := get_loop l a hb h0 hl i (b :: m) (by rw [List.length_cons]; omega) (by rw [List.length_cons]; omega) hc
  rw [List.length_cons, show i + (m.length + 1) = i + 1 + m.length from by omega] at h1
  refine Ev.step ⟨0, fun k _ => ?_⟩ h1
  have e1 : wrap64 (a + (((i + 1 : Nat) : Int) - 1)) = ((a.toNat + i : Nat) : Int) := by rw [w64 (by omega) (by omega)]; omega
  have e2 : wrap64 (((i + 1 : Nat) : Int) - 1 - 1) = (i : Int) - 1 := by rw [w64 (by omega) (by omega)]; omega
  simp only [impl_get.l0]
  rw [e1, e2, rd_at hbt, or_byte (le m) b hr.1 hlt (hb.at_ hbt), if_pos (by clear e1 e2; omega), if_pos (by clear e1 e2; omega), if_pos (by clear e1 e2; omega)]
  rfl
theorem impl_get_ev (l : List Int) (a n : Int) (hb : U8s l) (h0 : 0 ≤ a) (hn : 0 ≤ n) (h8 : n ≤ 8) (h : a + n ≤ l.length) (hl : l.length ≤ 4611686018427387904) : Ev (fun k => impl_get.f k l a n) (le ((l.drop a.toNat).take n.toNat)) := by
 have h1 := get_loop l a hb h0 hl n.toNat [] (by simp; omega) (by simp; omega) rfl
 rw [List.length_nil, Nat.add_zero, show ((n.toNat : Nat) : Int) = n from by omega] at h1
 simp only [impl_get.f]
 rw [w64 (by omega) (by omega)]
 exact h1
theorem take4 {l : List Int} {i : Nat} {b0 b1 b2 b3 : Int} (h0 : l[i]? = some b0) (h1 : l[i + 1]? = some b1) (h2 : l[i + 2]? = some b2) (h3 : l[i + 3]? = some b3) : (l.drop i).take 4 = [b0, b1, b2, b3] := by
 apply List.ext_getElem?
 intro j
 match j with
 | 0 => simpa using h0
 | 1 => simpa using h1
 | 2 => simpa using h2
 | 3 => simpa using h3
 | j + 4 =>
  simp
  omega
theorem spec_get (l : List Int) (a : Int) (hb : U8s l) (h0 : 0 ≤ a) (h : a + 4 ≤ l.length) (hl : l.length ≤ 4611686018427387904) : spec_l2Get.f l a = some (le ((l.drop a.toNat).take 4)) := by
 obtain ⟨b0, e0⟩ := some_at (show a.toNat < l.length by omega)
 obtain ⟨b1, e1⟩ := some_at (show a.toNat + 1 < l.length by omega)
 obtain ⟨b2, e2⟩ := some_at (show a.toNat + 2 < l.length by omega)
 obtain ⟨b3, e3⟩ := some_at (show a.toNat + 3 < l.length by omega)
 rw [take4 e0 e1 e2 e3]
 have r0 := hb.at_ e0
 have r1 := hb.at_ e1
 have r2 := hb.at_ e2
 have r3 := hb.at_ e3
 have f0 : rd l a = b0 := by have := rd_at e0; rwa [show ((a.toNat : Nat) : Int) = a from by omega] at this
 have f1 : rd l (a + 1) = b1 := by have := rd_at e1; rwa [show ((a.toNat + 1 : Nat) : Int) = a + 1 from by omega] at this
 have f2 : rd l (a + 2) = b2 := by have := rd_at e2; rwa [show ((a.toNat + 2 : Nat) : Int) = a + 2 from by omega] at this
 have f3 : rd l (a + 3) = b3 := by have := rd_at e3; rwa [show ((a.toNat + 3 : Nat) : Int) = a + 3 from by omega] at this
 simp only [spec_l2Get.f]
 rw [w64 (n := a + 1) (by omega) (by omega), w64 (n := a + 2) (by omega) (by omega), w64 (n := a + 3) (by omega) (by omega), f0, f1, f2, f3]
 rw [if_pos (by omega), if_pos (by omega), if_pos (by omega), if_pos (by omega), if_pos (by omega), if_pos (by omega), if_pos (by omega), if_pos (by omega)]
 congr 1
 simp only [le]
 omega
end Go.Proofs.Ytgfadfahbhcllaa.P
end
section
namespace Go.Proofs.Ytgfadfahbhcllaa.Q
open Go.RowKit Go.Proofs.YtgfadfahbhcllaaW.PrintWords Go.Proofs.YtgfadfahbhcllaaW.PrintLast Go.Proofs.YtgfadfahbhcllaaW.PrintMore Go.Proofs.Ytgfadfahbhcllaa.LK
set_option linter.unusedVariables false
set_option linter.unusedSimpArgs false
def fSeq (l : List Int) : Int := P.le ((l.drop 0).take 4)
def fA (l : List Int) : Int := P.le ((l.drop 8).take 4)
def fB (l : List Int) : Int := P.le ((l.drop 12).take 4)
def fKind (l : List Int) : Int := l.getD 6 0
def isFrame (l : List Int) : Prop := (1 ≤ fKind l ∧ fKind l ≤ 3) ∧ frameCode (fSeq l) (fKind l) (fA l) (fB l) = l
instance (l : List Int) : Decidable (isFrame l) := by unfold isFrame; infer_instance
theorem num4 {l : List Int} (h : P.U8s l) (i : Nat) (hi : i + 4 ≤ l.length) : 0 ≤ P.le ((l.drop i).take 4) ∧ P.le ((l.drop i).take 4) ≤ 4294967295 := by
 have h1 := P.le_range ((h.drop i).take 4)
 rw [show ((l.drop i).take 4).length = 4 from by rw [List.length_take, List.length_drop]; omega] at h1
 omega
instance (l : List Int) : Decidable (P.U8s l) := by unfold P.U8s; infer_instance
end Go.Proofs.Ytgfadfahbhcllaa.Q
end
section
namespace Go.Proofs.Ytgfadfahbhcllaa.P
open Go.RowKit Go.Proofs.YtgfadfahbhcllaaW.PrintWords Go.Proofs.YtgfadfahbhcllaaW.PrintMore Go.Proofs.Ytgfadfahbhcllaa.Q
set_option linter.unusedVariables false
set_option linter.unusedSimpArgs false
theorem str_inj {l m : List Int} (hl : U8s l) (hm : U8s m) (h : (strOfNums l).toList = (strOfNums m).toList) : l = m := by
 have e : ∀ x : List Int, (strOfNums x).toList = x.map fun n => UInt8.ofNat n.toNat := fun x => by rw [ByteArray.toList_eq]; rfl
 rw [e, e] at h
 have hlen : l.length = m.length := by have := congrArg List.length h; simpa using this
 refine List.ext_getElem hlen (fun i h1 h2 => ?_)
 have h3 := congrArg (·[i]?) h
 simp only [List.getElem?_map, List.getElem?_eq_getElem h1, List.getElem?_eq_getElem h2, Option.map_some, Option.some.injEq] at h3
 have r1 := hl _ (List.getElem_mem h1)
 have r2 := hm _ (List.getElem_mem h2)
 have h4 := congrArg UInt8.toNat h3
 simp [UInt8.toNat_ofNat'] at h4
 omega
theorem leB_u8 (n : Nat) (x : Int) : U8s (leB n x) := by
 intro z hz
 unfold leB at hz
 obtain ⟨i, _, rfl⟩ := List.mem_map.1 hz
 omega
end Go.Proofs.Ytgfadfahbhcllaa.P
namespace Go.Proofs.Ytgfadfahbhcllaa.Q
open Go.RowKit Go.Proofs.YtgfadfahbhcllaaW.PrintWords Go.Proofs.YtgfadfahbhcllaaW.PrintLast Go.Proofs.YtgfadfahbhcllaaW.PrintMore Go.Proofs.Ytgfadfahbhcllaa.LK
theorem conv_str {P : Program} {t e u : TypeId} {w : World} {A : Option Addr} {c : Nat} {xs : List Int} (ht : P.underlying t = some (.slice e)) (he : P.underlying e = some (.int .u8)) (hu : P.underlying u = some .string) (h : Kd.C (Kd.int .u8) w A xs.length xs) :
  (convert t u (.slice A xs.length c)).run P w = .ok (.string (strOfNums xs)) w := by
 obtain ⟨h1, h2, h3⟩ := Kd.reads_of_C (enc := Value.int .u8) (d := (0 : Int)) (h1 := fun _ => rfl) h
 cases A with
 | none =>
  have h0 : xs.length = 0 := by
   rcases Nat.eq_zero_or_pos xs.length with h0 | h0
   ·exact h0
   ·obtain ⟨ad, e, _⟩ := h3 h0
    cases e
  obtain rfl := List.eq_nil_of_length_eq_zero h0
  exact run_convert_bytes_nil w t e ht he 0 c u hu
 | some ad =>
  have hl : (loadCells ad xs.length).run P w = .ok (xs.map (Value.int .u8)).toArray w := by
   have := run_loadCells_list (P := P) w ad (xs.map (Value.int .u8)) (fun j v hj => by
    have hjl : j < xs.length := by
     rcases Nat.lt_or_ge j xs.length with h | h
     ·exact h
     ·simp [List.getElem?_eq_none (show (xs.map (Value.int .u8)).length ≤ j by simpa using h)] at hj
    obtain ⟨ad', e', hc⟩ := h3 (by omega)
    injection e' with e'
    subst e'
    rw [hc j hjl]
    simp [List.getElem?_eq_getElem hjl] at hj
    subst hj
    simp [List.getD, List.getElem?_eq_getElem hjl])
   simpa using this
  rw [run_convert_bytes_string w t u e _ xs.length c ht he hu, run_bytesToString w _ xs.length c xs hl, foldl_push_bytes]
  simp [strOfNums, ByteArray.empty, ByteArray.emptyWithCapacity]
  rfl
end Go.Proofs.Ytgfadfahbhcllaa.Q
end
section
namespace Go.Proofs.Ytgfadfahbhcllaa.Q
open Go.RowKit Go.Proofs.YtgfadfahbhcllaaW.PrintWords Go.Proofs.YtgfadfahbhcllaaW.PrintLast Go.Proofs.Ytgfadfahbhcllaa.LK Go.Proofs.YtgfadfahbhcllaaW.PrintMore
attribute [local go_sem] max2_int min2_int max_two min_two max_three min_three max_four min_four
set_option linter.unusedVariables false
set_option linter.unusedSimpArgs false
def impl_goodSerials.l0 : Nat → List Int → List Int → Int → Int → Option (Bool)
 | 0, _, _, _, _ => none
 | k + 1, x0, x5, x6, x7 => if x7 < x6 then (if 0 ≤ x7 then (if x7 < (x5.length : Int) then (if (rd x5 x7) < 0 then (some false) else (if (rd x5 x7) ≥ 256 then (some false) else (if x7 > 0 then (if 0 ≤ (wrap64 (x7 - 1)) then (if (wrap64 (x7 - 1)) < (x0.length : Int) then (if (rd x0 (wrap64 (x7 - 1))) ≥ (rd x5 x7) then (some false) else (impl_goodSerials.l0 k x0 x5 x6 (wrap64 (x7 + 1)))) else (none)) else (none)) else (impl_goodSerials.l0 k x0 x5 x6 (wrap64 (x7 + 1)))))) else (none)) else (none)) else (some true)
def impl_goodSerials.f (k : Nat) (l0 : List Int) : Option (Bool) := impl_goodSerials.l0 k l0 l0 (l0.length : Int) 0
set_option maxHeartbeats 8000000 in
set_option maxRecDepth 100000 in
theorem impl_goodSerials.calls (k : Nat) (A0 : Option Addr) (c0 : Nat) (l0 : List Int) (r : Bool) (w : World) (hr0 : Kd.C (Kd.int .i64) w A0 l0.length l0) (hc0 : l0.length ≤ c0) (h : impl_goodSerials.f k l0 = some r) :
  Calls Try.prog 94 #[.slice A0 l0.length c0] w fun e w' => e = .returned (.bool r) ∧ Drawn0 w w' := by
 have HR0 := Aside0.mk hr0
 have HC0 := Aside0.mk hc0
 clear hr0 hc0
 have H : (impl_goodSerials.l0 k l0 l0 (l0.length : Int) 0) = some r := h
 clear h
 have H' := Aside0.mk H
 clear H
 go_enter Try.func94, Try.ntmps94
 go_wp2
 go_loopg [7] k (fun kq v7 w' => ∃ (x7_1 : Int), v7 = .int .i64 x7_1 ∧ Aside0 (impl_goodSerials.l0 kq l0 l0 (l0.length : Int) x7_1 = some r) ∧ Aside0 (kq ≤ k) ∧ Drawn0 w w')
 case atStart => exact ⟨(0), (by first | rfl | (simp; done) | (simp [*]; done)), H', ⟨Nat.le_refl _⟩, by repeat (first | exact Drawn0.refl _ | apply Drawn0.step)⟩
 case round =>
  clear H'
  obtain ⟨x7_1, rfl, HA, HK1, ⟨m1, rfl⟩⟩ := hrel
  cases gk with
  | zero => exact absurd HA.out (by simp [impl_goodSerials.l0])
  | succ k1 =>
   have H := HA.out
   clear HA
   simp only [impl_goodSerials.l0] at H
   by_cases c2 : x7_1 < (l0.length : Int)
   ·rw [if_pos c2] at H
    have c2b0 : decide (x7_1 < (l0.length : Int)) = true := decide_eq_true c2
    clear c2
    by_cases c3 : 0 ≤ x7_1
    ·rw [if_pos c3] at H
     have c3b0 : decide (0 ≤ x7_1) = true := decide_eq_true c3
     clear c3
     by_cases c4 : x7_1 < (l0.length : Int)
     ·rw [if_pos c4] at H
      have c4b0 : decide (x7_1 < (l0.length : Int)) = true := decide_eq_true c4
      clear c4
      by_cases c5 : (rd l0 x7_1) < 0
      ·rw [if_pos c5] at H
       have c5b0 : decide ((rd l0 x7_1) < 0) = true := decide_eq_true c5
       clear c5
       obtain rfl := Option.some.inj H
       have p101 : 0 ≤ (x7_1 : Int) := of_decide_eq_true (by first | (with_reducible assumption) | assumption)
       have q101 : x7_1 < (l0.length : Int) := of_decide_eq_true (by first | (with_reducible assumption) | assumption)
       obtain ⟨ad101, e101, hx101_0⟩ := Kd.at_int HR0.out x7_1 p101 q101
       cases e101
       replace p101 := eq_true p101
       replace q101 := eq_true q101
       go_wp2
       go_ret
       exact ⟨by first | rfl | (simp; done) | (simp [*]; done), by repeat (first | exact Drawn0.refl _ | apply Drawn0.step)⟩
      ·rw [if_neg c5] at H
       have c5b0 : decide ((rd l0 x7_1) < 0) = false := decide_eq_false c5
       clear c5
       by_cases c6 : (rd l0 x7_1) ≥ 256
       ·rw [if_pos c6] at H
        have c6b0 : decide (256 ≤ (rd l0 x7_1)) = true := decide_eq_true c6
        clear c6
        obtain rfl := Option.some.inj H
        have p101 : 0 ≤ (x7_1 : Int) := of_decide_eq_true (by first | (with_reducible assumption) | assumption)
        have q101 : x7_1 < (l0.length : Int) := of_decide_eq_true (by first | (with_reducible assumption) | assumption)
        obtain ⟨ad101, e101, hx101_0⟩ := Kd.at_int HR0.out x7_1 p101 q101
        cases e101
        replace p101 := eq_true p101
        replace q101 := eq_true q101
        go_wp2
        go_ret
        exact ⟨by first | rfl | (simp; done) | (simp [*]; done), by repeat (first | exact Drawn0.refl _ | apply Drawn0.step)⟩
       ·rw [if_neg c6] at H
        have c6b0 : decide (256 ≤ (rd l0 x7_1)) = false := decide_eq_false c6
        clear c6
        by_cases c7 : x7_1 > 0
        ·rw [if_pos c7] at H
         have c7b0 : decide (0 < x7_1) = true := decide_eq_true c7
         clear c7
         obtain ⟨ji8, hji8⟩ : ∃ j_ : Int, (wrap64 (x7_1 - 1)) = j_ := ⟨_, rfl⟩
         replace H : (if 0 ≤ (ji8) then (if (ji8) < (l0.length : Int) then (if (rd l0 (ji8)) ≥ (rd l0 x7_1) then (some false) else (impl_goodSerials.l0 k1 l0 l0 (l0.length : Int) (wrap64 (x7_1 + 1)))) else (none)) else (none)) = some r := by first | (rw [hji8] at H; exact H) | (simp only [hji8] at H ⊢; exact H)
         have hji8w : (IntKind.i64.wrap (x7_1 - 1)) = ji8 := (i64_w _).trans hji8
         by_cases c9 : 0 ≤ (ji8)
         ·rw [if_pos c9] at H
          have c9b0 : decide (0 ≤ (ji8)) = true := decide_eq_true c9
          clear c9
          by_cases c10 : (ji8) < (l0.length : Int)
          ·rw [if_pos c10] at H
           have c10b0 : decide ((ji8) < (l0.length : Int)) = true := decide_eq_true c10
           clear c10
           by_cases c11 : (rd l0 (ji8)) ≥ (rd l0 x7_1)
           ·rw [if_pos c11] at H
            have c11b0 : decide ((rd l0 x7_1) ≤ (rd l0 (ji8))) = true := decide_eq_true c11
            clear c11
            obtain rfl := Option.some.inj H
            have p101 : 0 ≤ (x7_1 : Int) := of_decide_eq_true (by first | (with_reducible assumption) | assumption)
            have q101 : x7_1 < (l0.length : Int) := of_decide_eq_true (by first | (with_reducible assumption) | assumption)
            obtain ⟨ad101, e101, hx101_0⟩ := Kd.at_int HR0.out x7_1 p101 q101
            cases e101
            replace p101 := eq_true p101
            replace q101 := eq_true q101
            have p102 : 0 ≤ ((ji8) : Int) := of_decide_eq_true (by first | (with_reducible assumption) | assumption)
            have q102 : (ji8) < (l0.length : Int) := of_decide_eq_true (by first | (with_reducible assumption) | assumption)
            obtain ⟨ad102, e102, hx102_0⟩ := Kd.at_int HR0.out (ji8) p102 q102
            obtain rfl : ad101 = ad102 := (by injection e102)
            replace p102 := eq_true p102
            replace q102 := eq_true q102
            go_wp2
            go_ret
            exact ⟨by first | rfl | (simp; done) | (simp only [← hji8] <;> (first | rfl | simp)) | (simp [*]; done), by repeat (first | exact Drawn0.refl _ | apply Drawn0.step)⟩
           ·rw [if_neg c11] at H
            have c11b0 : decide ((rd l0 x7_1) ≤ (rd l0 (ji8))) = false := decide_eq_false c11
            clear c11
            have H' := Aside0.mk H
            clear H
            have p101 : 0 ≤ (x7_1 : Int) := of_decide_eq_true (by first | (with_reducible assumption) | assumption)
            have q101 : x7_1 < (l0.length : Int) := of_decide_eq_true (by first | (with_reducible assumption) | assumption)
            obtain ⟨ad101, e101, hx101_0⟩ := Kd.at_int HR0.out x7_1 p101 q101
            cases e101
            replace p101 := eq_true p101
            replace q101 := eq_true q101
            have p102 : 0 ≤ ((ji8) : Int) := of_decide_eq_true (by first | (with_reducible assumption) | assumption)
            have q102 : (ji8) < (l0.length : Int) := of_decide_eq_true (by first | (with_reducible assumption) | assumption)
            obtain ⟨ad102, e102, hx102_0⟩ := Kd.at_int HR0.out (ji8) p102 q102
            obtain rfl : ad101 = ad102 := (by injection e102)
            replace p102 := eq_true p102
            replace q102 := eq_true q102
            go_wp2
            go_roundg k1
            case measure => have := HK1.out; omega
            case rel => exact ⟨(wrap64 (x7_1 + 1)), (by first | rfl | (simp; done) | (simp [*]; done)), H', ⟨by have := HK1.out; omega⟩, by repeat (first | exact Drawn0.refl _ | apply Drawn0.step)⟩
          ·rw [if_neg c10] at H
           exact absurd H (by simp)
         ·rw [if_neg c9] at H
          exact absurd H (by simp)
        ·rw [if_neg c7] at H
         have c7b0 : decide (0 < x7_1) = false := decide_eq_false c7
         clear c7
         have H' := Aside0.mk H
         clear H
         have p101 : 0 ≤ (x7_1 : Int) := of_decide_eq_true (by first | (with_reducible assumption) | assumption)
         have q101 : x7_1 < (l0.length : Int) := of_decide_eq_true (by first | (with_reducible assumption) | assumption)
         obtain ⟨ad101, e101, hx101_0⟩ := Kd.at_int HR0.out x7_1 p101 q101
         cases e101
         replace p101 := eq_true p101
         replace q101 := eq_true q101
         go_wp2
         go_roundg k1
         case measure => have := HK1.out; omega
         case rel => exact ⟨(wrap64 (x7_1 + 1)), (by first | rfl | (simp; done) | (simp [*]; done)), H', ⟨by have := HK1.out; omega⟩, by repeat (first | exact Drawn0.refl _ | apply Drawn0.step)⟩
     ·rw [if_neg c4] at H
      exact absurd H (by simp)
    ·rw [if_neg c3] at H
     exact absurd H (by simp)
   ·rw [if_neg c2] at H
    have c2b0 : decide (x7_1 < (l0.length : Int)) = false := decide_eq_false c2
    clear c2
    obtain rfl := Option.some.inj H
    go_wp2
    go_ret
    exact ⟨by first | rfl | (simp; done) | (simp [*]; done), by repeat (first | exact Drawn0.refl _ | apply Drawn0.step)⟩
end Go.Proofs.Ytgfadfahbhcllaa.Q
end
section
namespace Go.Proofs.Ytgfadfahbhcllaa.Q
open Go.RowKit Go.Proofs.YtgfadfahbhcllaaW.PrintWords Go.Proofs.YtgfadfahbhcllaaW.PrintLast Go.Proofs.Ytgfadfahbhcllaa.LK Go.Proofs.YtgfadfahbhcllaaW.PrintMore
attribute [local go_sem] max2_int min2_int max_two min_two max_three min_three max_four min_four
set_option linter.unusedVariables false
set_option linter.unusedSimpArgs false
def spec_l5Serials.l0 : Nat → List Int → Int → Option (Bool)
 | 0, _, _ => none
 | k + 1, x0, x3 => if x3 < (x0.length : Int) then (if 0 ≤ x3 then (if (rd x0 x3) < 0 then (some false) else (if (rd x0 x3) ≥ 256 then (some false) else (if x3 > 0 then (if 0 ≤ (wrap64 (x3 - 1)) then (if (wrap64 (x3 - 1)) < (x0.length : Int) then (if (rd x0 (wrap64 (x3 - 1))) ≥ (rd x0 x3) then (some false) else (spec_l5Serials.l0 k x0 (wrap64 (x3 + 1)))) else (none)) else (none)) else (spec_l5Serials.l0 k x0 (wrap64 (x3 + 1)))))) else (none)) else (some true)
def spec_l5Serials.f (k : Nat) (l0 : List Int) : Option (Bool) := spec_l5Serials.l0 k l0 0
set_option maxHeartbeats 8000000 in
set_option maxRecDepth 100000 in
theorem spec_l5Serials.calls (k : Nat) (A0 : Option Addr) (c0 : Nat) (l0 : List Int) (r : Bool) (w : World) (hr0 : Kd.C (Kd.int .i64) w A0 l0.length l0) (hc0 : l0.length ≤ c0) (h : spec_l5Serials.f k l0 = some r) :
  Calls Try.prog 92 #[.slice A0 l0.length c0] w fun e w' => e = .returned (.bool r) ∧ Drawn0 w w' := by
 have HR0 := Aside0.mk hr0
 have HC0 := Aside0.mk hc0
 clear hr0 hc0
 have H : (spec_l5Serials.l0 k l0 0) = some r := h
 clear h
 have H' := Aside0.mk H
 clear H
 go_enter Try.func92, Try.ntmps92
 go_wp2
 repeat (go_quiet (fail); try go_wp2)
 go_loopg [3] k (fun kq v3 w' => ∃ (x3_1 : Int), v3 = .int .i64 x3_1 ∧ Aside0 (spec_l5Serials.l0 kq l0 x3_1 = some r) ∧ Aside0 (kq ≤ k) ∧ Drawn0 w w')
 case atStart => exact ⟨(0), (by first | rfl | (simp; done) | (simp [*]; done)), H', ⟨Nat.le_refl _⟩, by repeat (first | exact Drawn0.refl _ | apply Drawn0.step)⟩
 case round =>
  clear H'
  obtain ⟨x3_1, rfl, HA, HK1, ⟨m1, rfl⟩⟩ := hrel
  cases gk with
  | zero => exact absurd HA.out (by simp [spec_l5Serials.l0])
  | succ k1 =>
   have H := HA.out
   clear HA
   simp only [spec_l5Serials.l0] at H
   by_cases c2 : x3_1 < (l0.length : Int)
   ·rw [if_pos c2] at H
    have c2b0 : decide (x3_1 < (l0.length : Int)) = true := decide_eq_true c2
    clear c2
    by_cases c3 : 0 ≤ x3_1
    ·rw [if_pos c3] at H
     have c3b0 : decide (0 ≤ x3_1) = true := decide_eq_true c3
     clear c3
     by_cases c4 : (rd l0 x3_1) < 0
     ·rw [if_pos c4] at H
      have c4b0 : decide ((rd l0 x3_1) < 0) = true := decide_eq_true c4
      clear c4
      obtain rfl := Option.some.inj H
      have p101 : 0 ≤ (x3_1 : Int) := of_decide_eq_true (by first | (with_reducible assumption) | assumption)
      have q101 : x3_1 < (l0.length : Int) := of_decide_eq_true (by first | (with_reducible assumption) | assumption)
      obtain ⟨ad101, e101, hx101_0⟩ := Kd.at_int HR0.out x3_1 p101 q101
      cases e101
      replace p101 := eq_true p101
      replace q101 := eq_true q101
      go_wp2
      repeat (go_quiet (fail); try go_wp2)
      go_ret
      exact ⟨by first | rfl | (simp; done) | (simp [*]; done), by repeat (first | exact Drawn0.refl _ | apply Drawn0.step)⟩
     ·rw [if_neg c4] at H
      have c4b0 : decide ((rd l0 x3_1) < 0) = false := decide_eq_false c4
      clear c4
      by_cases c5 : (rd l0 x3_1) ≥ 256
      ·rw [if_pos c5] at H
       have c5b0 : decide (256 ≤ (rd l0 x3_1)) = true := decide_eq_true c5
       clear c5
       obtain rfl := Option.some.inj H
       have p101 : 0 ≤ (x3_1 : Int) := of_decide_eq_true (by first | (with_reducible assumption) | assumption)
       have q101 : x3_1 < (l0.length : Int) := of_decide_eq_true (by first | (with_reducible assumption) | assumption)
       obtain ⟨ad101, e101, hx101_0⟩ := Kd.at_int HR0.out x3_1 p101 q101
       cases e101
       replace p101 := eq_true p101
       replace q101 := eq_true q101
       have p102 : 0 ≤ (x3_1 : Int) := of_decide_eq_true (by first | (with_reducible assumption) | assumption)
       have q102 : x3_1 < (l0.length : Int) := of_decide_eq_true (by first | (with_reducible assumption) | assumption)
       obtain ⟨ad102, e102, hx102_0⟩ := Kd.at_int HR0.out x3_1 p102 q102
       obtain rfl : ad101 = ad102 := (by injection e102)
       replace p102 := eq_true p102
       replace q102 := eq_true q102
       go_wp2
       repeat (go_quiet (fail); try go_wp2)
       go_ret
       exact ⟨by first | rfl | (simp; done) | (simp [*]; done), by repeat (first | exact Drawn0.refl _ | apply Drawn0.step)⟩
      ·rw [if_neg c5] at H
       have c5b0 : decide (256 ≤ (rd l0 x3_1)) = false := decide_eq_false c5
       clear c5
       by_cases c6 : x3_1 > 0
       ·rw [if_pos c6] at H
        have c6b0 : decide (0 < x3_1) = true := decide_eq_true c6
        clear c6
        obtain ⟨ji7, hji7⟩ : ∃ j_ : Int, (wrap64 (x3_1 - 1)) = j_ := ⟨_, rfl⟩
        replace H : (if 0 ≤ (ji7) then (if (ji7) < (l0.length : Int) then (if (rd l0 (ji7)) ≥ (rd l0 x3_1) then (some false) else (spec_l5Serials.l0 k1 l0 (wrap64 (x3_1 + 1)))) else (none)) else (none)) = some r := by first | (rw [hji7] at H; exact H) | (simp only [hji7] at H ⊢; exact H)
        have hji7w : (IntKind.i64.wrap (x3_1 - 1)) = ji7 := (i64_w _).trans hji7
        by_cases c8 : 0 ≤ (ji7)
        ·rw [if_pos c8] at H
         have c8b0 : decide (0 ≤ (ji7)) = true := decide_eq_true c8
         clear c8
         by_cases c9 : (ji7) < (l0.length : Int)
         ·rw [if_pos c9] at H
          have c9b0 : decide ((ji7) < (l0.length : Int)) = true := decide_eq_true c9
          clear c9
          by_cases c10 : (rd l0 (ji7)) ≥ (rd l0 x3_1)
          ·rw [if_pos c10] at H
           have c10b0 : decide ((rd l0 x3_1) ≤ (rd l0 (ji7))) = true := decide_eq_true c10
           clear c10
           obtain rfl := Option.some.inj H
           have p101 : 0 ≤ (x3_1 : Int) := of_decide_eq_true (by first | (with_reducible assumption) | assumption)
           have q101 : x3_1 < (l0.length : Int) := of_decide_eq_true (by first | (with_reducible assumption) | assumption)
           obtain ⟨ad101, e101, hx101_0⟩ := Kd.at_int HR0.out x3_1 p101 q101
           cases e101
           replace p101 := eq_true p101
           replace q101 := eq_true q101
           have p102 : 0 ≤ (x3_1 : Int) := of_decide_eq_true (by first | (with_reducible assumption) | assumption)
           have q102 : x3_1 < (l0.length : Int) := of_decide_eq_true (by first | (with_reducible assumption) | assumption)
           obtain ⟨ad102, e102, hx102_0⟩ := Kd.at_int HR0.out x3_1 p102 q102
           obtain rfl : ad101 = ad102 := (by injection e102)
           replace p102 := eq_true p102
           replace q102 := eq_true q102
           have p103 : 0 ≤ ((ji7) : Int) := of_decide_eq_true (by first | (with_reducible assumption) | assumption)
           have q103 : (ji7) < (l0.length : Int) := of_decide_eq_true (by first | (with_reducible assumption) | assumption)
           obtain ⟨ad103, e103, hx103_0⟩ := Kd.at_int HR0.out (ji7) p103 q103
           obtain rfl : ad101 = ad103 := (by injection e103)
           replace p103 := eq_true p103
           replace q103 := eq_true q103
           have p104 : 0 ≤ (x3_1 : Int) := of_decide_eq_true (by first | (with_reducible assumption) | assumption)
           have q104 : x3_1 < (l0.length : Int) := of_decide_eq_true (by first | (with_reducible assumption) | assumption)
           obtain ⟨ad104, e104, hx104_0⟩ := Kd.at_int HR0.out x3_1 p104 q104
           obtain rfl : ad101 = ad104 := (by injection e104)
           replace p104 := eq_true p104
           replace q104 := eq_true q104
           go_wp2
           repeat (go_quiet (fail); try go_wp2)
           go_ret
           exact ⟨by first | rfl | (simp; done) | (simp only [← hji7] <;> (first | rfl | simp)) | (simp [*]; done), by repeat (first | exact Drawn0.refl _ | apply Drawn0.step)⟩
          ·rw [if_neg c10] at H
           have c10b0 : decide ((rd l0 x3_1) ≤ (rd l0 (ji7))) = false := decide_eq_false c10
           clear c10
           have H' := Aside0.mk H
           clear H
           have p101 : 0 ≤ (x3_1 : Int) := of_decide_eq_true (by first | (with_reducible assumption) | assumption)
           have q101 : x3_1 < (l0.length : Int) := of_decide_eq_true (by first | (with_reducible assumption) | assumption)
           obtain ⟨ad101, e101, hx101_0⟩ := Kd.at_int HR0.out x3_1 p101 q101
           cases e101
           replace p101 := eq_true p101
           replace q101 := eq_true q101
           have p102 : 0 ≤ (x3_1 : Int) := of_decide_eq_true (by first | (with_reducible assumption) | assumption)
           have q102 : x3_1 < (l0.length : Int) := of_decide_eq_true (by first | (with_reducible assumption) | assumption)
           obtain ⟨ad102, e102, hx102_0⟩ := Kd.at_int HR0.out x3_1 p102 q102
           obtain rfl : ad101 = ad102 := (by injection e102)
           replace p102 := eq_true p102
           replace q102 := eq_true q102
           have p103 : 0 ≤ ((ji7) : Int) := of_decide_eq_true (by first | (with_reducible assumption) | assumption)
           have q103 : (ji7) < (l0.length : Int) := of_decide_eq_true (by first | (with_reducible assumption) | assumption)
           obtain ⟨ad103, e103, hx103_0⟩ := Kd.at_int HR0.out (ji7) p103 q103
           obtain rfl : ad101 = ad103 := (by injection e103)
           replace p103 := eq_true p103
           replace q103 := eq_true q103
           have p104 : 0 ≤ (x3_1 : Int) := of_decide_eq_true (by first | (with_reducible assumption) | assumption)
           have q104 : x3_1 < (l0.length : Int) := of_decide_eq_true (by first | (with_reducible assumption) | assumption)
           obtain ⟨ad104, e104, hx104_0⟩ := Kd.at_int HR0.out x3_1 p104 q104
           obtain rfl : ad101 = ad104 := (by injection e104)
           replace p104 := eq_true p104
           replace q104 := eq_true q104
           go_wp2
           repeat (go_quiet (fail); try go_wp2)
           go_roundg k1
           case measure => have := HK1.out; omega
           case rel => exact ⟨(wrap64 (x3_1 + 1)), (by first | rfl | (simp; done) | (simp [*]; done)), H', ⟨by have := HK1.out; omega⟩, by repeat (first | exact Drawn0.refl _ | apply Drawn0.step)⟩
         ·rw [if_neg c9] at H
          exact absurd H (by simp)
        ·rw [if_neg c8] at H
         exact absurd H (by simp)
       ·rw [if_neg c6] at H
        have c6b0 : decide (0 < x3_1) = false := decide_eq_false c6
        clear c6
        have H' := Aside0.mk H
        clear H
        have p101 : 0 ≤ (x3_1 : Int) := of_decide_eq_true (by first | (with_reducible assumption) | assumption)
        have q101 : x3_1 < (l0.length : Int) := of_decide_eq_true (by first | (with_reducible assumption) | assumption)
        obtain ⟨ad101, e101, hx101_0⟩ := Kd.at_int HR0.out x3_1 p101 q101
        cases e101
        replace p101 := eq_true p101
        replace q101 := eq_true q101
        have p102 : 0 ≤ (x3_1 : Int) := of_decide_eq_true (by first | (with_reducible assumption) | assumption)
        have q102 : x3_1 < (l0.length : Int) := of_decide_eq_true (by first | (with_reducible assumption) | assumption)
        obtain ⟨ad102, e102, hx102_0⟩ := Kd.at_int HR0.out x3_1 p102 q102
        obtain rfl : ad101 = ad102 := (by injection e102)
        replace p102 := eq_true p102
        replace q102 := eq_true q102
        go_wp2
        repeat (go_quiet (fail); try go_wp2)
        go_roundg k1
        case measure => have := HK1.out; omega
        case rel => exact ⟨(wrap64 (x3_1 + 1)), (by first | rfl | (simp; done) | (simp [*]; done)), H', ⟨by have := HK1.out; omega⟩, by repeat (first | exact Drawn0.refl _ | apply Drawn0.step)⟩
    ·rw [if_neg c3] at H
     exact absurd H (by simp)
   ·rw [if_neg c2] at H
    have c2b0 : decide (x3_1 < (l0.length : Int)) = false := decide_eq_false c2
    clear c2
    obtain rfl := Option.some.inj H
    go_wp2
    repeat (go_quiet (fail); try go_wp2)
    go_ret
    exact ⟨by first | rfl | (simp; done) | (simp [*]; done), by repeat (first | exact Drawn0.refl _ | apply Drawn0.step)⟩
end Go.Proofs.Ytgfadfahbhcllaa.Q
end
section
namespace Go.Proofs.Ytgfadfahbhcllaa.Q
open Go.RowKit Go.Proofs.YtgfadfahbhcllaaW.PrintWords Go.Proofs.YtgfadfahbhcllaaW.PrintLast Go.Proofs.Ytgfadfahbhcllaa.LK Go.Proofs.YtgfadfahbhcllaaW.PrintMore
attribute [local go_sem] max2_int min2_int max_two min_two max_three min_three max_four min_four
set_option linter.unusedVariables false
set_option linter.unusedSimpArgs false
def spec_l5Holds.l0 : Nat → List Int → Int → Int → Option (Bool)
 | 0, _, _, _ => none
 | k + 1, x0, x1, x5 => if x5 < (x0.length : Int) then (if 0 ≤ x5 then (if (rd x0 x5) = x1 then (some true) else (spec_l5Holds.l0 k x0 x1 (wrap64 (x5 + 1)))) else (none)) else (some false)
def spec_l5Holds.f (k : Nat) (l0 : List Int) (a1 : Int) : Option (Bool) := spec_l5Holds.l0 k l0 a1 0
set_option maxHeartbeats 8000000 in
set_option maxRecDepth 100000 in
theorem spec_l5Holds.calls (k : Nat) (A0 : Option Addr) (c0 : Nat) (l0 : List Int) (a1 : Int) (r : Bool) (w : World) (hr0 : Kd.C (Kd.int .i64) w A0 l0.length l0) (hc0 : l0.length ≤ c0) (h : spec_l5Holds.f k l0 a1 = some r) :
  Calls Try.prog 78 #[.slice A0 l0.length c0, .int .i64 a1] w fun e w' => e = .returned (.bool r) ∧ Drawn0 w w' := by
 have HR0 := Aside0.mk hr0
 have HC0 := Aside0.mk hc0
 clear hr0 hc0
 have H : (spec_l5Holds.l0 k l0 a1 0) = some r := h
 clear h
 have H' := Aside0.mk H
 clear H
 go_enter Try.func78, Try.ntmps78
 go_wp2
 go_loopg [5] k (fun kq v5 w' => ∃ (x5_1 : Int), v5 = .int .i64 x5_1 ∧ Aside0 (spec_l5Holds.l0 kq l0 a1 x5_1 = some r) ∧ Aside0 (kq ≤ k) ∧ Drawn0 w w')
 case atStart => exact ⟨(0), (by first | rfl | (simp; done) | (simp [*]; done)), H', ⟨Nat.le_refl _⟩, by repeat (first | exact Drawn0.refl _ | apply Drawn0.step)⟩
 case round =>
  clear H'
  try clear p2
  obtain ⟨x5_1, rfl, HA, HK1, ⟨m1, rfl⟩⟩ := hrel
  cases gk with
  | zero => exact absurd HA.out (by simp [spec_l5Holds.l0])
  | succ k1 =>
   have H := HA.out
   clear HA
   simp only [spec_l5Holds.l0] at H
   by_cases c3 : x5_1 < (l0.length : Int)
   ·rw [if_pos c3] at H
    have c3b0 : decide (x5_1 < (l0.length : Int)) = true := decide_eq_true c3
    clear c3
    by_cases c4 : 0 ≤ x5_1
    ·rw [if_pos c4] at H
     have c4b0 : decide (0 ≤ x5_1) = true := decide_eq_true c4
     clear c4
     by_cases c5 : (rd l0 x5_1) = a1
     ·rw [if_pos c5] at H
      have c5b0 : ((rd l0 x5_1) == a1) = true := beq_iff_eq.mpr c5
      have c5b1 : ((rd l0 x5_1) != a1) = false := bne_eq_false_iff_eq.mpr c5
      clear c5
      obtain rfl := Option.some.inj H
      have p101 : 0 ≤ (x5_1 : Int) := of_decide_eq_true (by first | (with_reducible assumption) | assumption)
      have q101 : x5_1 < (l0.length : Int) := of_decide_eq_true (by first | (with_reducible assumption) | assumption)
      obtain ⟨ad101, e101, hx101_0⟩ := Kd.at_int HR0.out x5_1 p101 q101
      cases e101
      replace p101 := eq_true p101
      replace q101 := eq_true q101
      go_wp2
      go_ret
      exact ⟨by first | rfl | (simp; done) | (simp [*]; done), by repeat (first | exact Drawn0.refl _ | apply Drawn0.step)⟩
     ·rw [if_neg c5] at H
      have c5b0 : ((rd l0 x5_1) == a1) = false := beq_eq_false_iff_ne.mpr c5
      have c5b1 : ((rd l0 x5_1) != a1) = true := bne_iff_ne.mpr c5
      have H' := Aside0.mk H
      clear H
      have p101 : 0 ≤ (x5_1 : Int) := of_decide_eq_true (by first | (with_reducible assumption) | assumption)
      have q101 : x5_1 < (l0.length : Int) := of_decide_eq_true (by first | (with_reducible assumption) | assumption)
      obtain ⟨ad101, e101, hx101_0⟩ := Kd.at_int HR0.out x5_1 p101 q101
      cases e101
      replace p101 := eq_true p101
      replace q101 := eq_true q101
      go_wp2
      go_roundg k1
      case measure => have := HK1.out; omega
      case rel => exact ⟨(wrap64 (x5_1 + 1)), (by first | rfl | (simp; done) | (simp [*]; done)), H', ⟨by have := HK1.out; omega⟩, by repeat (first | exact Drawn0.refl _ | apply Drawn0.step)⟩
    ·rw [if_neg c4] at H
     exact absurd H (by simp)
   ·rw [if_neg c3] at H
    have c3b0 : decide (x5_1 < (l0.length : Int)) = false := decide_eq_false c3
    clear c3
    obtain rfl := Option.some.inj H
    go_wp2
    go_ret
    exact ⟨by first | rfl | (simp; done) | (simp [*]; done), by repeat (first | exact Drawn0.refl _ | apply Drawn0.step)⟩
end Go.Proofs.Ytgfadfahbhcllaa.Q
end
section
namespace Go.Proofs.Ytgfadfahbhcllaa.Q
open Go.RowKit Go.Proofs.YtgfadfahbhcllaaW.PrintWords Go.Proofs.YtgfadfahbhcllaaW.PrintLast Go.Proofs.Ytgfadfahbhcllaa.LK Go.Proofs.YtgfadfahbhcllaaW.PrintMore
attribute [local go_sem] max2_int min2_int max_two min_two max_three min_three max_four min_four
set_option linter.unusedVariables false
set_option linter.unusedSimpArgs false
end Go.Proofs.Ytgfadfahbhcllaa.Q
end
section
namespace Go.Proofs.Ytgfadfahbhcllaa.Q
open Go.RowKit Go.Proofs.YtgfadfahbhcllaaW.PrintWords Go.Proofs.YtgfadfahbhcllaaW.PrintLast Go.Proofs.Ytgfadfahbhcllaa.LK Go.Proofs.YtgfadfahbhcllaaW.PrintMore
attribute [local go_sem] max2_int min2_int max_two min_two max_three min_three max_four min_four
set_option linter.unusedVariables false
set_option linter.unusedSimpArgs false
end Go.Proofs.Ytgfadfahbhcllaa.Q
end
section
namespace Go.Proofs.Ytgfadfahbhcllaa.Q
open Go.RowKit Go.Proofs.YtgfadfahbhcllaaW.PrintWords Go.Proofs.YtgfadfahbhcllaaW.PrintLast Go.Proofs.Ytgfadfahbhcllaa.LK Go.Proofs.YtgfadfahbhcllaaW.PrintMore
attribute [local go_sem] max2_int min2_int max_two min_two max_three min_three max_four min_four
set_option linter.unusedVariables false
set_option linter.unusedSimpArgs false
end Go.Proofs.Ytgfadfahbhcllaa.Q
end
section
namespace Go.Proofs.Ytgfadfahbhcllaa.Q
open Go.RowKit Go.Proofs.YtgfadfahbhcllaaW.PrintWords Go.Proofs.YtgfadfahbhcllaaW.PrintLast Go.Proofs.Ytgfadfahbhcllaa.LK Go.Proofs.YtgfadfahbhcllaaW.PrintMore
attribute [local go_sem] max2_int min2_int max_two min_two max_three min_three max_four min_four
set_option linter.unusedVariables false
set_option linter.unusedSimpArgs false
end Go.Proofs.Ytgfadfahbhcllaa.Q
end
section
namespace Go.Proofs.Ytgfadfahbhcllaa.P
open Go.RowKit Go.Proofs.YtgfadfahbhcllaaW.PrintWords Go.Proofs.YtgfadfahbhcllaaW.PrintMore Go.Proofs.Ytgfadfahbhcllaa.Q
set_option linter.unusedVariables false
set_option linter.unusedSimpArgs false
theorem Ev.all {L : Nat → Nat → Option Bool} (P : Nat → Bool) (n : Nat) (hs : ∀ i, i < n → P i = true → ∃ K, ∀ k, K ≤ k → L (k + 1) i = L k (i + 1)) (hb : ∀ i, i < n → P i = false → ∃ K, ∀ k, K ≤ k → L (k + 1) i = some false)
  (he : ∃ K, ∀ k, K ≤ k → L (k + 1) n = some true) : ∀ m i, i + m = n → Ev (fun k => L k i) ((List.range' i m).all P)
 | 0, i, h => by
  obtain rfl : i = n := by omega
  exact Ev.last he
 | m + 1, i, h => by
  rw [List.range'_succ, List.all_cons]
  cases hp : P i with
  | true => rw [Bool.true_and]; exact Ev.step (hs i (by omega) hp) (Ev.all P n hs hb he m (i + 1) (by omega))
  | false => rw [Bool.false_and]; exact Ev.last (hb i (by omega) hp)
theorem Ev.all0 {L : Nat → Nat → Option Bool} (P : Nat → Bool) (n : Nat) (hs : ∀ i, i < n → P i = true → ∃ K, ∀ k, K ≤ k → L (k + 1) i = L k (i + 1)) (hb : ∀ i, i < n → P i = false → ∃ K, ∀ k, K ≤ k → L (k + 1) i = some false)
  (he : ∃ K, ∀ k, K ≤ k → L (k + 1) n = some true) : Ev (fun k => L k 0) ((List.range n).all P) := by
 rw [List.range_eq_range']
 exact Ev.all P n hs hb he n 0 (by omega)
def okAt (l : List Int) (i : Nat) : Bool := decide (0 ≤ rd l i ∧ rd l i < 256 ∧ (0 < i → rd l ((i : Int) - 1) < rd l i))
def goodS (l : List Int) : Bool := (List.range l.length).all (okAt l)
theorem impl_good_ev (l : List Int) (h : l.length ≤ 4611686018427387904) : Ev (fun k => impl_goodSerials.f k l) (goodS l) := by
 simp only [impl_goodSerials.f]
 refine Ev.all0 (L := fun k i => impl_goodSerials.l0 k l l (l.length : Int) (i : Int)) (okAt l) l.length ?_ ?_ ?_
 ·intro i hi hp
  refine ⟨0, fun k _ => ?_⟩
  have hp := of_decide_eq_true hp
  simp only [impl_goodSerials.l0]
  rw [if_pos (by omega), if_pos (by omega), if_pos (by omega), if_neg (by omega), if_neg (by omega), w64s hi (by omega)]
  by_cases h0 : (i : Int) > 0
  ·rw [if_pos h0, w64 (n := (i : Int) - 1) (by omega) (by omega), if_pos (by omega), if_pos (by omega), if_neg (by have := hp.2.2 (by omega); omega)]
  ·rw [if_neg h0]
 ·intro i hi hp
  refine ⟨0, fun k _ => ?_⟩
  have hp := of_decide_eq_false hp
  simp only [impl_goodSerials.l0]
  rw [if_pos (by omega), if_pos (by omega), if_pos (by omega)]
  by_cases c1 : rd l (i : Int) < 0
  ·rw [if_pos c1]
  rw [if_neg c1]
  by_cases c2 : rd l (i : Int) ≥ 256
  ·rw [if_pos c2]
  rw [if_neg c2]
  by_cases h0 : (i : Int) > 0
  ·rw [if_pos h0, w64 (n := (i : Int) - 1) (by omega) (by omega), if_pos (by omega), if_pos (by omega), if_pos (by
    by_cases c3 : rd l ((i : Int) - 1) ≥ rd l (i : Int)
    ·exact c3
    ·exact absurd ⟨by omega, by omega, fun _ => by omega⟩ hp)]
  ·exact absurd ⟨by omega, by omega, fun h => by omega⟩ hp
 ·refine ⟨0, fun k _ => ?_⟩
  simp only [impl_goodSerials.l0]
  rw [if_neg (by omega)]
theorem spec_good_ev (l : List Int) (h : l.length ≤ 4611686018427387904) : Ev (fun k => spec_l5Serials.f k l) (goodS l) := by
 simp only [spec_l5Serials.f]
 refine Ev.all0 (L := fun k i => spec_l5Serials.l0 k l (i : Int)) (okAt l) l.length ?_ ?_ ?_
 ·intro i hi hp
  refine ⟨0, fun k _ => ?_⟩
  have hp := of_decide_eq_true hp
  simp only [spec_l5Serials.l0]
  rw [if_pos (by omega), if_pos (by omega), if_neg (by omega), if_neg (by omega), w64s hi (by omega)]
  by_cases h0 : (i : Int) > 0
  ·rw [if_pos h0, w64 (n := (i : Int) - 1) (by omega) (by omega), if_pos (by omega), if_pos (by omega), if_neg (by have := hp.2.2 (by omega); omega)]
  ·rw [if_neg h0]
 ·intro i hi hp
  refine ⟨0, fun k _ => ?_⟩
  have hp := of_decide_eq_false hp
  simp only [spec_l5Serials.l0]
  rw [if_pos (by omega), if_pos (by omega)]
  by_cases c1 : rd l (i : Int) < 0
  ·rw [if_pos c1]
  rw [if_neg c1]
  by_cases c2 : rd l (i : Int) ≥ 256
  ·rw [if_pos c2]
  rw [if_neg c2]
  by_cases h0 : (i : Int) > 0
  ·rw [if_pos h0, w64 (n := (i : Int) - 1) (by omega) (by omega), if_pos (by omega), if_pos (by omega), if_pos (by
    by_cases c3 : rd l ((i : Int) - 1) ≥ rd l (i : Int)
    ·exact c3
    ·exact absurd ⟨by omega, by omega, fun _ => by omega⟩ hp)]
  ·exact absurd ⟨by omega, by omega, fun h => by omega⟩ hp
 ·refine ⟨0, fun k _ => ?_⟩
  simp only [spec_l5Serials.l0]
  rw [if_neg (by omega)]
theorem goodS_at {l : List Int} (h : goodS l = true) {i : Nat} (hi : i < l.length) : 0 ≤ rd l i ∧ rd l i < 256 ∧ (0 < i → rd l ((i : Int) - 1) < rd l i) :=
 of_decide_eq_true (List.all_eq_true.1 h i (List.mem_range.2 hi))
theorem goodS_lt {l : List Int} (h : goodS l = true) : ∀ (j i : Nat), i < j → j < l.length → rd l i < rd l j
 | 0, i, hij, _ => by omega
 | j + 1, i, hij, hj => by
  have h1 := (goodS_at h hj).2.2 (by omega)
  rw [show ((j + 1 : Nat) : Int) - 1 = (j : Int) from by omega] at h1
  by_cases e : i = j
  ·subst e; exact h1
  ·have h2 := goodS_lt h j i (by omega) (by omega)
   omega
theorem rd_mem {l : List Int} {i : Nat} (hi : i < l.length) : rd l i ∈ l := by
 obtain ⟨x, hx⟩ := some_at hi
 rw [rd_at hx]
 exact List.mem_of_getElem? hx
theorem mem_rd {l : List Int} {x : Int} (h : x ∈ l) : ∃ i, i < l.length ∧ rd l (i : Int) = x := by
 obtain ⟨i, hi⟩ := List.mem_iff_getElem?.1 h
 exact ⟨i, (List.getElem?_eq_some_iff.1 hi).1, rd_at hi⟩
theorem goodS_mem {l : List Int} (h : goodS l = true) {x : Int} (hx : x ∈ l) : 0 ≤ x ∧ x < 256 := by
 obtain ⟨i, hi, rfl⟩ := mem_rd hx
 exact ⟨(goodS_at h hi).1, (goodS_at h hi).2.1⟩
theorem holds_ev (l : List Int) (x : Int) (h : l.length ≤ 4611686018427387904) : Ev (fun k => spec_l5Holds.f k l x) (decide (x ∈ l)) := by
 simp only [spec_l5Holds.f]
 have hx : decide (x ∈ l) = !((List.range l.length).all fun i => decide (rd l i ≠ x)) := by
  by_cases hm : x ∈ l
  ·obtain ⟨i, hi, e⟩ := mem_rd hm
   have : ((List.range l.length).all fun i => decide (rd l i ≠ x)) = false := by
    rw [List.all_eq_false]
    exact ⟨i, List.mem_range.2 hi, by simp [e]⟩
   rw [this, decide_eq_true hm]; rfl
  ·have : ((List.range l.length).all fun i => decide (rd l i ≠ x)) = true := by
    rw [List.all_eq_true]
    exact fun i hi => decide_eq_true (fun e => hm (e ▸ rd_mem (List.mem_range.1 hi)))
   rw [this, decide_eq_false hm]; rfl
 have hn : ∀ m i, i + m = l.length → Ev (fun k => spec_l5Holds.l0 k l x (i : Int)) (!((List.range' i m).all fun i => decide (rd l i ≠ x))) := by
  intro m
  induction m with
  | zero =>
   intro i hi
   refine Ev.last ⟨0, fun k _ => ?_⟩
   simp only [spec_l5Holds.l0]
   rw [if_neg (by omega)]
   rfl
  | succ m ih =>
   intro i hi
   rw [List.range'_succ, List.all_cons]
   by_cases c : rd l (i : Int) = x
   ·rw [decide_eq_false (by simp [c]), Bool.false_and]
    refine Ev.last ⟨0, fun k _ => ?_⟩
    simp only [spec_l5Holds.l0]
    rw [if_pos (by omega), if_pos (by omega), if_pos c]
    rfl
   ·rw [decide_eq_true c, Bool.true_and]
    refine Ev.step ⟨0, fun k _ => ?_⟩ (ih (i + 1) (by omega))
    simp only [spec_l5Holds.l0]
    rw [if_pos (by omega), if_pos (by omega), if_neg c, w64s (by omega) h]
 rw [hx, List.range_eq_range']
 exact hn l.length 0 (by omega)
end Go.Proofs.Ytgfadfahbhcllaa.P
end
section
namespace Go.Proofs.Ytgfadfahbhcllaa.Q
open Go.RowKit Go.Proofs.YtgfadfahbhcllaaW.PrintWords Go.Proofs.YtgfadfahbhcllaaW.PrintLast Go.Proofs.Ytgfadfahbhcllaa.LK Go.Proofs.YtgfadfahbhcllaaW.PrintMore
attribute [local go_sem] max2_int min2_int max_two min_two max_three min_three max_four min_four
set_option linter.unusedVariables false
set_option linter.unusedSimpArgs false
def impl_denyAt.f (a0 : Int) : Option (Int) := if a0 < 8 then (some (wrap64 (44 + (wrap64 (2 * a0))))) else (some (wrap64 (72 + (wrap64 (2 * (wrap64 (a0 - 8)))))))
set_option maxHeartbeats 8000000 in
set_option maxRecDepth 100000 in
theorem impl_denyAt.calls (a0 : Int) (r : Int) (w : World) (h : impl_denyAt.f a0 = some r) :
  Calls Try.prog 95 #[.int .i64 a0] w fun e w' => e = .returned (.int .i64 r) ∧ Drawn0 w w' := by
 have H : (if a0 < 8 then (some (wrap64 (44 + (wrap64 (2 * a0))))) else (some (wrap64 (72 + (wrap64 (2 * (wrap64 (a0 - 8)))))))) = some r := h
 clear h
 by_cases c2 : a0 < 8
 ·rw [if_pos c2] at H
  have c2b0 : decide (a0 < 8) = true := decide_eq_true c2
  clear c2
  obtain rfl := Option.some.inj H
  go_enter Try.func95, Try.ntmps95
  go_wp2
  go_ret
  exact ⟨by first | rfl | (simp; done) | (simp [*]; done), by repeat (first | exact Drawn0.refl _ | apply Drawn0.step)⟩
 ·rw [if_neg c2] at H
  have c2b0 : decide (a0 < 8) = false := decide_eq_false c2
  clear c2
  obtain rfl := Option.some.inj H
  go_enter Try.func95, Try.ntmps95
  go_wp2
  go_ret
  exact ⟨by first | rfl | (simp; done) | (simp [*]; done), by repeat (first | exact Drawn0.refl _ | apply Drawn0.step)⟩
end Go.Proofs.Ytgfadfahbhcllaa.Q
end
section
namespace Go.Proofs.Ytgfadfahbhcllaa.P
open Go.RowKit Go.Proofs.YtgfadfahbhcllaaW.PrintWords Go.Proofs.YtgfadfahbhcllaaW.PrintMore Go.Proofs.Ytgfadfahbhcllaa.Q
set_option linter.unusedVariables false
set_option maxRecDepth 100000
set_option linter.unusedSimpArgs false
def snapP (g0 g60 g64 g124 s1 s2 : List Int) (n : Int) (tl bits d0 d8 cr : List Int) : List Int :=
 g0 ++ (s1 ++ ([n, 0] ++ (tl ++ (bits ++ (d0 ++ (g60 ++ (g64 ++ (s2 ++ ([0, 0] ++ (d8 ++ (List.replicate 32 0 ++ (cr ++ g124))))))))))))
theorem splice_mid {p m r x : List Int} {n : Nat} (o : Nat) (hn : n = p.length + o) (h : o + x.length ≤ m.length) : splice (p ++ (m ++ r)) n x = p ++ (splice m o x ++ r) := by
 unfold splice
 subst hn
 have e1 : (p ++ (m ++ r)).take (p.length + o) = p ++ m.take o := by
  rw [List.take_length_add_append, List.take_append_of_le_length (by omega)]
 have e2 : (p ++ (m ++ r)).drop (p.length + o + x.length) = m.drop (o + x.length) ++ r := by
  rw [Nat.add_assoc, List.drop_length_add_append, List.drop_append_of_le_length (by omega)]
 rw [e1, e2]
 simp only [List.append_assoc]
theorem set_mid {p m r : List Int} {n k : Nat} (hn : n = p.length + k) (h : k < m.length) (v : Int) : (p ++ (m ++ r)).set n v = p ++ (m.set k v ++ r) := by
 subst hn
 rw [List.set_append_right _ _ (by omega), Nat.add_sub_cancel_left, List.set_append_left _ _ h]
theorem get_mid {p m r : List Int} {n k : Nat} (hn : n = p.length + k) (h : k < m.length) : (p ++ (m ++ r))[n]? = m[k]? := by
 subst hn
 rw [List.getElem?_append_right (by omega), Nat.add_sub_cancel_left, List.getElem?_append_left h]
def mB (u : List Int) (x : Int) : Int := if x ∈ u then 1 else 0
theorem mB_01 (u : List Int) (x : Int) : 0 ≤ mB u x ∧ mB u x ≤ 1 := by unfold mB; split <;> simp
def bitB (u : List Int) (k : Int) : Int := mB u (8 * k) + 2 * mB u (8 * k + 1) + 4 * mB u (8 * k + 2) + 8 * mB u (8 * k + 3) + 16 * mB u (8 * k + 4) + 32 * mB u (8 * k + 5) + 64 * mB u (8 * k + 6) + 128 * mB u (8 * k + 7)
theorem bitB_range (u : List Int) (k : Int) : 0 ≤ bitB u k ∧ bitB u k ≤ 255 := by
 unfold bitB
 have h0 := mB_01 u (8 * k)
 have h1 := mB_01 u (8 * k + 1)
 have h2 := mB_01 u (8 * k + 2)
 have h3 := mB_01 u (8 * k + 3)
 have h4 := mB_01 u (8 * k + 4)
 have h5 := mB_01 u (8 * k + 5)
 have h6 := mB_01 u (8 * k + 6)
 have h7 := mB_01 u (8 * k + 7)
 omega
theorem bitB_bit (u : List Int) (k : Int) (r : Nat) (hr : r < 8) : (bitB u k / 2 ^ r) % 2 = mB u (8 * k + r) := by
 unfold bitB
 have h0 := mB_01 u (8 * k)
 have h1 := mB_01 u (8 * k + 1)
 have h2 := mB_01 u (8 * k + 2)
 have h3 := mB_01 u (8 * k + 3)
 have h4 := mB_01 u (8 * k + 4)
 have h5 := mB_01 u (8 * k + 5)
 have h6 := mB_01 u (8 * k + 6)
 have h7 := mB_01 u (8 * k + 7)
 rcases (show r = 0 ∨ r = 1 ∨ r = 2 ∨ r = 3 ∨ r = 4 ∨ r = 5 ∨ r = 6 ∨ r = 7 from by omega) with rfl | rfl | rfl | rfl | rfl | rfl | rfl | rfl
 ·rw [show (2 : Int) ^ 0 = 1 from rfl, show 8 * k + ((0 : Nat) : Int) = 8 * k from by omega]; omega
 ·rw [show (2 : Int) ^ 1 = 2 from rfl, show 8 * k + ((1 : Nat) : Int) = 8 * k + 1 from rfl]; omega
 ·rw [show (2 : Int) ^ 2 = 4 from rfl, show 8 * k + ((2 : Nat) : Int) = 8 * k + 2 from rfl]; omega
 ·rw [show (2 : Int) ^ 3 = 8 from rfl, show 8 * k + ((3 : Nat) : Int) = 8 * k + 3 from rfl]; omega
 ·rw [show (2 : Int) ^ 4 = 16 from rfl, show 8 * k + ((4 : Nat) : Int) = 8 * k + 4 from rfl]; omega
 ·rw [show (2 : Int) ^ 5 = 32 from rfl, show 8 * k + ((5 : Nat) : Int) = 8 * k + 5 from rfl]; omega
 ·rw [show (2 : Int) ^ 6 = 64 from rfl, show 8 * k + ((6 : Nat) : Int) = 8 * k + 6 from rfl]; omega
 ·rw [show (2 : Int) ^ 7 = 128 from rfl, show 8 * k + ((7 : Nat) : Int) = 8 * k + 7 from rfl]; omega
theorem mB_app (u : List Int) (v x : Int) : mB (u ++ [v]) x = if x = v then 1 else mB u x := by
 unfold mB
 by_cases h : x = v
 ·rw [if_pos h, if_pos (by simp [h])]
 ·rw [if_neg h]
  by_cases h2 : x ∈ u
  ·rw [if_pos h2, if_pos (by simp [h2])]
  ·rw [if_neg h2, if_neg (by simp [h, h2])]
theorem bitB_other (u : List Int) (v k : Int) (h : k ≠ v / 8) : bitB (u ++ [v]) k = bitB u k := by
 unfold bitB
 simp only [mB_app]
 rw [if_neg (by omega), if_neg (by omega), if_neg (by omega), if_neg (by omega), if_neg (by omega), if_neg (by omega), if_neg (by omega), if_neg (by omega)]
theorem or_small : ∀ x, x < 256 → ∀ r, r < 8 → (x / 2 ^ r) % 2 = 0 → x ||| 2 ^ r = x + 2 ^ r := by decide +kernel
theorem or8 (a b : Nat) (ha : a < 256) (hb : b < 256) : Go.bits .or .u8 (a : Int) (b : Int) = ((a ||| b : Nat) : Int) := by
 have h : a ||| b < 2 ^ 8 := Nat.or_lt_two_pow (by simpa using ha) (by simpa using hb)
 unfold Go.bits
 simp only [BitVec.ofInt_natCast, BitVec.toNat_or, BitVec.toNat_ofNat]
 rw [show IntKind.u8.bits = 8 from rfl, Nat.mod_eq_of_lt (by simpa using ha), Nat.mod_eq_of_lt (by simpa using hb), IntKind.wrap_u8]
 omega
theorem bitB_new {u : List Int} {v : Int} (h0 : 0 ≤ v) (hn : v ∉ u) : bitB (u ++ [v]) (v / 8) = bitB u (v / 8) + 2 ^ (v % 8).toNat := by
 obtain ⟨k, hk⟩ : ∃ k, k = v / 8 := ⟨_, rfl⟩
 have hr : v % 8 = 0 ∨ v % 8 = 1 ∨ v % 8 = 2 ∨ v % 8 = 3 ∨ v % 8 = 4 ∨ v % 8 = 5 ∨ v % 8 = 6 ∨ v % 8 = 7 := by omega
 have hz : mB u v = 0 := by unfold mB; rw [if_neg hn]
 rw [← hk]
 unfold bitB
 simp only [mB_app]
 rcases hr with h | h | h | h | h | h | h | h
 ·obtain rfl : v = 8 * k := by omega
  rw [if_pos rfl, if_neg (by omega), if_neg (by omega), if_neg (by omega), if_neg (by omega), if_neg (by omega), if_neg (by omega), if_neg (by omega), hz, h]; show _ = _ + 1; omega
 ·obtain rfl : v = 8 * k + 1 := by omega
  rw [if_neg (by omega), if_pos rfl, if_neg (by omega), if_neg (by omega), if_neg (by omega), if_neg (by omega), if_neg (by omega), if_neg (by omega), hz, h]; show _ = _ + 2; omega
 ·obtain rfl : v = 8 * k + 2 := by omega
  rw [if_neg (by omega), if_neg (by omega), if_pos rfl, if_neg (by omega), if_neg (by omega), if_neg (by omega), if_neg (by omega), if_neg (by omega), hz, h]; show _ = _ + 4; omega
 ·obtain rfl : v = 8 * k + 3 := by omega
  rw [if_neg (by omega), if_neg (by omega), if_neg (by omega), if_pos rfl, if_neg (by omega), if_neg (by omega), if_neg (by omega), if_neg (by omega), hz, h]; show _ = _ + 8; omega
 ·obtain rfl : v = 8 * k + 4 := by omega
  rw [if_neg (by omega), if_neg (by omega), if_neg (by omega), if_neg (by omega), if_pos rfl, if_neg (by omega), if_neg (by omega), if_neg (by omega), hz, h]; show _ = _ + 16; omega
 ·obtain rfl : v = 8 * k + 5 := by omega
  rw [if_neg (by omega), if_neg (by omega), if_neg (by omega), if_neg (by omega), if_neg (by omega), if_pos rfl, if_neg (by omega), if_neg (by omega), hz, h]; show _ = _ + 32; omega
 ·obtain rfl : v = 8 * k + 6 := by omega
  rw [if_neg (by omega), if_neg (by omega), if_neg (by omega), if_neg (by omega), if_neg (by omega), if_neg (by omega), if_pos rfl, if_neg (by omega), hz, h]; show _ = _ + 64; omega
 ·obtain rfl : v = 8 * k + 7 := by omega
  rw [if_neg (by omega), if_neg (by omega), if_neg (by omega), if_neg (by omega), if_neg (by omega), if_neg (by omega), if_neg (by omega), if_pos rfl, hz, h]; show _ = _ + 128; omega
theorem bit_or {u : List Int} {v : Int} (h0 : 0 ≤ v) (hn : v ∉ u) : Go.bits .or .u8 (bitB u (v / 8)) (2 ^ (v % 8).toNat) = bitB (u ++ [v]) (v / 8) := by
 have hb := bitB_range u (v / 8)
 have hbit := bitB_bit u (v / 8) (v % 8).toNat (by omega)
 rw [show 8 * (v / 8) + (((v % 8).toNat : Nat) : Int) = v from by omega, show mB u v = 0 from by unfold mB; rw [if_neg hn]] at hbit
 rw [bitB_new h0 hn]
 obtain ⟨x, hx⟩ := Int.eq_ofNat_of_zero_le hb.1
 rw [hx] at hbit hb ⊢
 have hr : (v % 8).toNat < 8 := by omega
 generalize (v % 8).toNat = r at *
 have hp : (2 : Nat) ^ r < 256 := by
  have := Nat.pow_lt_pow_right (a := 2) (by decide) hr
  omega
 have e := or8 x (2 ^ r) (by omega) hp
 rw [show ((2 : Int) ^ r) = (((2 ^ r : Nat)) : Int) from by norm_cast] at *
 rw [e, or_small x (by omega) r hr (by exact_mod_cast hbit)]
 norm_cast
def bitsL (u : List Int) : List Int := (List.range 32).map fun k => bitB u (k : Nat)
theorem bitsL_length (u : List Int) : (bitsL u).length = 32 := by unfold bitsL; rw [List.length_map, List.length_range]
theorem bitsL_at (u : List Int) {k : Nat} (hk : k < 32) : (bitsL u)[k]? = some (bitB u k) := by unfold bitsL; rw [List.getElem?_map, List.getElem?_range hk]; rfl
theorem bitsL_nil : bitsL [] = List.replicate 32 0 := by decide +kernel
theorem bitsL_set {u : List Int} {v : Int} (h0 : 0 ≤ v) (h1 : v < 256) (hn : v ∉ u) : (bitsL u).set (v / 8).toNat (Go.bits .or .u8 (bitB u (v / 8)) (2 ^ (v % 8).toNat)) = bitsL (u ++ [v]) := by
 rw [bit_or h0 hn]
 refine List.ext_getElem? (fun j => ?_)
 by_cases hj : j < 32
 ·by_cases he : (v / 8).toNat = j
  ·subst he
   rw [List.getElem?_set_self (by rw [bitsL_length]; omega), bitsL_at _ hj, show (((v / 8).toNat : Nat) : Int) = v / 8 from by omega]
  ·rw [List.getElem?_set_ne he, bitsL_at _ hj, bitsL_at _ hj, bitB_other _ _ _ (by omega)]
 ·rw [List.getElem?_eq_none (by rw [List.length_set, bitsL_length]; omega), List.getElem?_eq_none (by rw [bitsL_length]; omega)]
def denB (xs : List Int) (i j : Nat) : List Int := if j < i then leB 2 (rd xs j) else [0, 0]
def denL (xs : List Int) (i a : Nat) : List Int := denB xs i a ++ (denB xs i (a + 1) ++ (denB xs i (a + 2) ++ (denB xs i (a + 3) ++ (denB xs i (a + 4) ++ (denB xs i (a + 5) ++ (denB xs i (a + 6) ++ denB xs i (a + 7)))))))
theorem denB_length (xs : List Int) (i j : Nat) : (denB xs i j).length = 2 := by
 unfold denB
 split
 ·exact leB_length _ _
 ·rfl
theorem denL_length (xs : List Int) (i a : Nat) : (denL xs i a).length = 16 := by unfold denL; simp only [List.length_append, denB_length]
theorem denB_two (xs : List Int) (i j : Nat) : ∃ p q, denB xs i j = [p, q] := by
 have h := denB_length xs i j
 match hd : denB xs i j with
 | [p, q] => exact ⟨p, q, rfl⟩
 | [] => rw [hd] at h; cases h
 | [_] => rw [hd] at h; cases h
 | _ :: _ :: _ :: _ => rw [hd] at h; simp at h
theorem denB_on (xs : List Int) (i j : Nat) (h : j ≠ i) : denB xs (i + 1) j = denB xs i j := by
 unfold denB
 by_cases c : j < i
 ·rw [if_pos c, if_pos (by omega)]
 ·rw [if_neg c, if_neg (by omega)]
theorem denB_new (xs : List Int) (i : Nat) : denB xs (i + 1) i = leB 2 (rd xs i) := by unfold denB; rw [if_pos (by omega)]
theorem denL_other (xs : List Int) (i a : Nat) (h : i < a ∨ a + 8 ≤ i) : denL xs (i + 1) a = denL xs i a := by
 unfold denL
 rw [denB_on _ _ _ (by omega), denB_on _ _ _ (by omega), denB_on _ _ _ (by omega), denB_on _ _ _ (by omega), denB_on _ _ _ (by omega), denB_on _ _ _ (by omega), denB_on _ _ _ (by omega), denB_on _ _ _ (by omega)]
theorem denL_set (xs : List Int) (i a : Nat) (h0 : a ≤ i) (h1 : i < a + 8) : splice (denL xs i a) (2 * (i - a)) (leB 2 (rd xs i)) = denL xs (i + 1) a := by
 have key : ∀ j, j < 8 → i = a + j → splice (denL xs i a) (2 * j) (leB 2 (rd xs i)) = denL xs (i + 1) a := by
  intro j hj hi
  obtain ⟨p0, q0, e0⟩ := denB_two xs i a
  obtain ⟨p1, q1, e1⟩ := denB_two xs i (a + 1)
  obtain ⟨p2, q2, e2⟩ := denB_two xs i (a + 2)
  obtain ⟨p3, q3, e3⟩ := denB_two xs i (a + 3)
  obtain ⟨p4, q4, e4⟩ := denB_two xs i (a + 4)
  obtain ⟨p5, q5, e5⟩ := denB_two xs i (a + 5)
  obtain ⟨p6, q6, e6⟩ := denB_two xs i (a + 6)
  obtain ⟨p7, q7, e7⟩ := denB_two xs i (a + 7)
  obtain ⟨x, y, ex⟩ : ∃ x y, leB 2 (rd xs i) = [x, y] := ⟨_, _, rfl⟩
  have en := denB_new xs i
  rw [ex] at en ⊢
  unfold denL
  rw [e0, e1, e2, e3, e4, e5, e6, e7]
  rcases (show j = 0 ∨ j = 1 ∨ j = 2 ∨ j = 3 ∨ j = 4 ∨ j = 5 ∨ j = 6 ∨ j = 7 from by omega) with rfl | rfl | rfl | rfl | rfl | rfl | rfl | rfl
  ·have en' : denB xs (i + 1) a = [x, y] := by rw [show a = i from by omega]; exact en
   rw [en', denB_on xs i (a + 1) (by omega), e1, denB_on xs i (a + 2) (by omega), e2, denB_on xs i (a + 3) (by omega), e3, denB_on xs i (a + 4) (by omega), e4, denB_on xs i (a + 5) (by omega), e5, denB_on xs i (a + 6) (by omega), e6, denB_on xs i (a + 7) (by omega), e7]; rfl
  ·have en' : denB xs (i + 1) (a + 1) = [x, y] := by rw [show a + 1 = i from by omega]; exact en
   rw [denB_on xs i a (by omega), e0, en', denB_on xs i (a + 2) (by omega), e2, denB_on xs i (a + 3) (by omega), e3, denB_on xs i (a + 4) (by omega), e4, denB_on xs i (a + 5) (by omega), e5, denB_on xs i (a + 6) (by omega), e6, denB_on xs i (a + 7) (by omega), e7]; rfl
  ·have en' : denB xs (i + 1) (a + 2) = [x, y] := by rw [show a + 2 = i from by omega]; exact en
   rw [denB_on xs i a (by omega), e0, denB_on xs i (a + 1) (by omega), e1, en', denB_on xs i (a + 3) (by omega), e3, denB_on xs i (a + 4) (by omega), e4, denB_on xs i (a + 5) (by omega), e5, denB_on xs i (a + 6) (by omega), e6, denB_on xs i (a + 7) (by omega), e7]; rfl
  ·have en' : denB xs (i + 1) (a + 3) = [x, y] := by rw [show a + 3 = i from by omega]; exact en
   rw [denB_on xs i a (by omega), e0, denB_on xs i (a + 1) (by omega), e1, denB_on xs i (a + 2) (by omega), e2, en', denB_on xs i (a + 4) (by omega), e4, denB_on xs i (a + 5) (by omega), e5, denB_on xs i (a + 6) (by omega), e6, denB_on xs i (a + 7) (by omega), e7]; rfl
  ·have en' : denB xs (i + 1) (a + 4) = [x, y] := by rw [show a + 4 = i from by omega]; exact en
   rw [denB_on xs i a (by omega), e0, denB_on xs i (a + 1) (by omega), e1, denB_on xs i (a + 2) (by omega), e2, denB_on xs i (a + 3) (by omega), e3, en', denB_on xs i (a + 5) (by omega), e5, denB_on xs i (a + 6) (by omega), e6, denB_on xs i (a + 7) (by omega), e7]; rfl
  ·have en' : denB xs (i + 1) (a + 5) = [x, y] := by rw [show a + 5 = i from by omega]; exact en
   rw [denB_on xs i a (by omega), e0, denB_on xs i (a + 1) (by omega), e1, denB_on xs i (a + 2) (by omega), e2, denB_on xs i (a + 3) (by omega), e3, denB_on xs i (a + 4) (by omega), e4, en', denB_on xs i (a + 6) (by omega), e6, denB_on xs i (a + 7) (by omega), e7]; rfl
  ·have en' : denB xs (i + 1) (a + 6) = [x, y] := by rw [show a + 6 = i from by omega]; exact en
   rw [denB_on xs i a (by omega), e0, denB_on xs i (a + 1) (by omega), e1, denB_on xs i (a + 2) (by omega), e2, denB_on xs i (a + 3) (by omega), e3, denB_on xs i (a + 4) (by omega), e4, denB_on xs i (a + 5) (by omega), e5, en', denB_on xs i (a + 7) (by omega), e7]; rfl
  ·have en' : denB xs (i + 1) (a + 7) = [x, y] := by rw [show a + 7 = i from by omega]; exact en
   rw [denB_on xs i a (by omega), e0, denB_on xs i (a + 1) (by omega), e1, denB_on xs i (a + 2) (by omega), e2, denB_on xs i (a + 3) (by omega), e3, denB_on xs i (a + 4) (by omega), e4, denB_on xs i (a + 5) (by omega), e5, denB_on xs i (a + 6) (by omega), e6, en']; rfl
 exact key (i - a) (by omega) (by omega)
def gi (g : Int) (i j : Nat) : List Int := if j < i then leB 4 g else [0, 0, 0, 0]
def Z32 : List Int := List.replicate 32 0
def Z16 : List Int := List.replicate 16 0
def sA (g : Int) (i : Nat) : List Int := snapP (gi g i 0) (gi g i 1) (gi g i 2) (gi g i 3) [0, 0] [0, 0] 0 [0, 0, 0, 0] Z32 Z16 Z16 [0, 0, 0, 0]
def sB (g : Int) (s1 s2 : List Int) (n : Int) (tl : List Int) : List Int := snapP (leB 4 g) (leB 4 g) (leB 4 g) (leB 4 g) s1 s2 n tl Z32 Z16 Z16 [0, 0, 0, 0]
def sE (g n t : Int) (u xs : List Int) (i : Nat) (cr : List Int) : List Int := snapP (leB 4 g) (leB 4 g) (leB 4 g) (leB 4 g) [83, 49] [83, 50] n (leB 4 t) (bitsL u) (denL xs i 0) (denL xs i 8) cr
def snapHead (g n t : Int) (u xs : List Int) : List Int := leB 4 g ++ ([83, 49] ++ ([n, 0] ++ (leB 4 t ++ (bitsL u ++ (denL xs xs.length 0 ++ (leB 4 g ++ (leB 4 g ++ ([83, 50] ++ ([0, 0] ++ (denL xs xs.length 8 ++ List.replicate 32 0))))))))))
def snapCode (g t : Int) (xs u : List Int) : List Int := snapHead g ((xs.length : Int) % 256) t u xs ++ (leB 4 (crc32 (snapHead g ((xs.length : Int) % 256) t u xs)) ++ leB 4 g)
def ats (i : Nat) : Nat := [0, 60, 64, 124].getD i 0
theorem sA_step (g : Int) (i : Nat) (hi : i < 4) : splice (sA g i) (ats i) (leB 4 g) = sA g (i + 1) := by
 rcases (show i = 0 ∨ i = 1 ∨ i = 2 ∨ i = 3 from by omega) with rfl | rfl | rfl | rfl <;> rfl
theorem sA_4 (g : Int) : sA g 4 = sB g [0, 0] [0, 0] 0 [0, 0, 0, 0] := rfl
theorem sB_3 (g n : Int) : (sB g [83, 49] [83, 50] 0 [0, 0, 0, 0]).set 6 n = sB g [83, 49] [83, 50] n [0, 0, 0, 0] := rfl
theorem sB_4 (g n t : Int) : splice (sB g [83, 49] [83, 50] n [0, 0, 0, 0]) 8 (leB 4 t) = sB g [83, 49] [83, 50] n (leB 4 t) := rfl
theorem denL_0 (xs : List Int) (a : Nat) : denL xs 0 a = Z16 := by
 unfold denL denB
 rw [if_neg (by omega), if_neg (by omega), if_neg (by omega), if_neg (by omega), if_neg (by omega), if_neg (by omega), if_neg (by omega), if_neg (by omega)]
 rfl
theorem sE_0 (g n t : Int) (xs : List Int) : sB g [83, 49] [83, 50] n (leB 4 t) = sE g n t [] xs 0 [0, 0, 0, 0] := by unfold sB sE; rw [bitsL_nil, denL_0, denL_0]; rfl
theorem sE_length (g n t : Int) (u xs : List Int) (i : Nat) (cr : List Int) (hc : cr.length = 4) : (sE g n t u xs i cr).length = 128 := by
 unfold sE snapP
 simp only [List.length_append, leB_length, bitsL_length, denL_length, hc, List.length_cons, List.length_nil, List.length_replicate]
def sPre (g n t : Int) : List Int := leB 4 g ++ ([83, 49] ++ ([n, 0] ++ leB 4 t))
theorem sPre_length (g n t : Int) : (sPre g n t).length = 12 := rfl
theorem sE_bits (g n t : Int) (u xs : List Int) (i : Nat) (cr : List Int) : sE g n t u xs i cr = sPre g n t ++ (bitsL u ++ (denL xs i 0 ++ (leB 4 g ++ (leB 4 g ++ ([83, 50] ++ ([0, 0] ++ (denL xs i 8 ++ (List.replicate 32 0 ++ (cr ++ leB 4 g))))))))) := by
 unfold sE snapP sPre
 simp only [List.append_assoc]
theorem sE_at (g n t : Int) (u xs : List Int) (i : Nat) (cr : List Int) {v : Int} (h0 : 0 ≤ v) (h1 : v < 256) : (sE g n t u xs i cr)[(12 + v / 8).toNat]? = some (bitB u (v / 8)) := by
 rw [sE_bits, get_mid (k := (v / 8).toNat) (by rw [sPre_length]; omega) (by rw [bitsL_length]; omega), bitsL_at _ (by omega), show (((v / 8).toNat : Nat) : Int) = v / 8 from by omega]
theorem sE_bit (g n t : Int) (u xs : List Int) (i : Nat) (cr : List Int) {v : Int} (h0 : 0 ≤ v) (h1 : v < 256) (hn : v ∉ u) : (sE g n t u xs i cr).set (12 + v / 8).toNat (Go.bits .or .u8 (bitB u (v / 8)) (2 ^ (v % 8).toNat)) = sE g n t (u ++ [v]) xs i cr := by
 rw [sE_bits, set_mid (k := (v / 8).toNat) (by rw [sPre_length]; omega) (by rw [bitsL_length]; omega), bitsL_set h0 h1 hn, ← sE_bits]
def denAt (i : Nat) : Nat := if i < 8 then 44 + 2 * i else 72 + 2 * (i - 8)
theorem denAt_fit {i : Nat} (hi : i < 16) : denAt i + 2 ≤ 128 := by unfold denAt; split <;> omega
theorem denyAt_is {i : Nat} (hi : i < 16) : impl_denyAt.f (i : Int) = some ((denAt i : Nat) : Int) := by
 unfold impl_denyAt.f denAt
 by_cases h : (i : Int) < 8
 ·rw [if_pos h, if_pos (by omega), w64 (n := 2 * (i : Int)) (by omega) (by omega), w64 (n := 44 + 2 * (i : Int)) (by omega) (by omega)]
  congr 1
 ·rw [if_neg h, if_neg (by omega), w64 (n := (i : Int) - 8) (by omega) (by omega), w64 (n := 2 * ((i : Int) - 8)) (by omega) (by omega), w64 (n := 72 + 2 * ((i : Int) - 8)) (by omega) (by omega)]
  congr 1
  omega
theorem sE_deny (g n t : Int) (u xs : List Int) (i : Nat) (hi : i < 16) (cr : List Int) : splice (sE g n t u xs i cr) (denAt i) (leB 2 (rd xs i)) = sE g n t u xs (i + 1) cr := by
 by_cases h : i < 8
 ·have e : sE g n t u xs i cr = (sPre g n t ++ bitsL u) ++ (denL xs i 0 ++ (leB 4 g ++ (leB 4 g ++ ([83, 50] ++ ([0, 0] ++ (denL xs i 8 ++ (List.replicate 32 0 ++ (cr ++ leB 4 g)))))))) := by rw [sE_bits]; simp only [List.append_assoc]
  rw [e, splice_mid (2 * i) (by rw [List.length_append, sPre_length, bitsL_length]; unfold denAt; rw [if_pos h]) (by rw [leB_length, denL_length]; omega)]
  have e2 := denL_set xs i 0 (Nat.zero_le _) (by omega)
  rw [Nat.sub_zero] at e2
  rw [e2, ← denL_other xs i 8 (by omega), sE_bits]
  simp only [List.append_assoc]
 ·have e : sE g n t u xs i cr = (sPre g n t ++ (bitsL u ++ (denL xs i 0 ++ (leB 4 g ++ (leB 4 g ++ ([83, 50] ++ [0, 0])))))) ++ (denL xs i 8 ++ (List.replicate 32 0 ++ (cr ++ leB 4 g))) := by rw [sE_bits]; simp only [List.append_assoc]
  rw [e, splice_mid (2 * (i - 8)) (by simp only [List.length_append, sPre_length, bitsL_length, denL_length, leB_length, List.length_cons, List.length_nil]; unfold denAt; rw [if_neg h]) (by rw [leB_length, denL_length]; omega)]
  rw [denL_set xs i 8 (by omega) (by omega), ← denL_other xs i 0 (by omega), sE_bits]
  simp only [List.append_assoc]
theorem sE_head (g n t : Int) (u xs : List Int) (cr : List Int) : sE g n t u xs xs.length cr = snapHead g n t u xs ++ (cr ++ leB 4 g) := by
 unfold sE snapP snapHead
 simp only [List.append_assoc]
theorem snapHead_length (g n t : Int) (u xs : List Int) : (snapHead g n t u xs).length = 120 := by
 unfold snapHead
 simp only [List.length_append, leB_length, bitsL_length, denL_length, List.length_cons, List.length_nil, List.length_replicate]
theorem sE_take (g n t : Int) (u xs : List Int) (cr : List Int) : (sE g n t u xs xs.length cr).take 120 = snapHead g n t u xs := by
 rw [sE_head, List.take_append_of_le_length (Nat.le_of_eq (snapHead_length ..).symm), List.take_of_length_le (Nat.le_of_eq (snapHead_length ..))]
theorem sE_crc (g n t : Int) (u xs : List Int) (c : Int) : splice (sE g n t u xs xs.length [0, 0, 0, 0]) 120 (leB 4 c) = snapHead g n t u xs ++ (leB 4 c ++ leB 4 g) := by
 rw [sE_head, splice_mid 0 (by rw [snapHead_length]) (by rw [leB_length]; decide)]
 rfl
theorem snapCode_length (g t : Int) (xs u : List Int) : (snapCode g t xs u).length = 128 := by
 unfold snapCode
 rw [List.length_append, List.length_append, snapHead_length, leB_length, leB_length]
end Go.Proofs.Ytgfadfahbhcllaa.P
end
section
namespace Go.Proofs.Ytgfadfahbhcllaa.Q
open Go.RowKit Go.Proofs.YtgfadfahbhcllaaW.PrintWords Go.Proofs.YtgfadfahbhcllaaW.PrintLast Go.Proofs.Ytgfadfahbhcllaa.LK Go.Proofs.YtgfadfahbhcllaaW.PrintMore
attribute [local go_sem] max2_int min2_int max_two min_two max_three min_three max_four min_four
set_option linter.unusedVariables false
set_option linter.unusedSimpArgs false
def impl_Snap_good.f (k : Nat) (a0_0 : Int) (a0_1 : Int) (l0_2 : List Int) (l0_3 : List Int) : Option (Bool) := if a0_0 ≤ 4000000000 then (if a0_1 ≥ 1 then (if a0_1 ≤ 4000000000 then ((impl_goodSerials.f k l0_2).bind fun t102 => (if t102 = true then (if (l0_2.length : Int) ≤ 16 then ((impl_goodSerials.f k l0_3).bind fun t103 => (some t103)) else (some false)) else (some false))) else (some false)) else (some false)) else (some false)
set_option maxHeartbeats 8000000 in
set_option maxRecDepth 100000 in
theorem impl_Snap_good.calls (k : Nat) (a0_0 : Int) (a0_1 : Int) (A0_2 : Option Addr) (c0_2 : Nat) (l0_2 : List Int) (A0_3 : Option Addr) (c0_3 : Nat) (l0_3 : List Int) (r : Bool) (w : World) (hr0_2 : Kd.C (Kd.int .i64) w A0_2 l0_2.length l0_2) (hc0_2 : l0_2.length ≤ c0_2) (hr0_3 : Kd.C (Kd.int .i64) w A0_3 l0_3.length l0_3) (hc0_3 : l0_3.length ≤ c0_3) (h : impl_Snap_good.f k a0_0 a0_1 l0_2 l0_3 = some r) :
  Calls Try.prog 67 #[.agg #[.int .u32 a0_0, .int .u32 a0_1, .slice A0_2 l0_2.length c0_2, .slice A0_3 l0_3.length c0_3]] w fun e w' => e = .returned (.bool r) ∧ Below w.heap.size w w' := by
 have hu44 := Try.underlying44
 have HR0_2 := Aside0.mk hr0_2
 have HC0_2 := Aside0.mk hc0_2
 clear hr0_2 hc0_2
 have HR0_3 := Aside0.mk hr0_3
 have HC0_3 := Aside0.mk hc0_3
 clear hr0_3 hc0_3
 have HB := Aside0.mk (Below.refl w.heap.size w)
 have H : (if a0_0 ≤ 4000000000 then (if a0_1 ≥ 1 then (if a0_1 ≤ 4000000000 then ((impl_goodSerials.f k l0_2).bind fun t102 => (if t102 = true then (if (l0_2.length : Int) ≤ 16 then ((impl_goodSerials.f k l0_3).bind fun t103 => (some t103)) else (some false)) else (some false))) else (some false)) else (some false)) else (some false)) = some r := h
 clear h
 by_cases c2 : a0_0 ≤ 4000000000
 ·rw [if_pos c2] at H
  have c2b0 : decide (a0_0 ≤ 4000000000) = true := decide_eq_true c2
  clear c2
  by_cases c3 : a0_1 ≥ 1
  ·rw [if_pos c3] at H
   have c3b0 : decide (1 ≤ a0_1) = true := decide_eq_true c3
   clear c3
   by_cases c4 : a0_1 ≤ 4000000000
   ·rw [if_pos c4] at H
    have c4b0 : decide (a0_1 ≤ 4000000000) = true := decide_eq_true c4
    clear c4
    replace H := Option.bind_eq_some_iff.mp H
    obtain ⟨t102, A50, H⟩ := H
    replace H : (if t102 = true then (if (l0_2.length : Int) ≤ 16 then ((impl_goodSerials.f k l0_3).bind fun t103 => (some t103)) else (some false)) else (some false)) = some r := H
    have A5 := Aside0.mk A50
    clear A50
    by_cases c6 : t102 = true
    ·subst c6
     have H1 : (if (l0_2.length : Int) ≤ 16 then ((impl_goodSerials.f k l0_3).bind fun t103 => (some t103)) else (some false)) = some r := by rw [if_pos rfl] at H; exact H
     clear H
     have H := H1
     clear H1
     by_cases c7 : (l0_2.length : Int) ≤ 16
     ·rw [if_pos c7] at H
      have c7b0 : decide ((l0_2.length : Int) ≤ 16) = true := decide_eq_true c7
      have c7b1 : decide (l0_2.length ≤ 16) = true := decide_eq_true (by omega)
      clear c7
      replace H := Option.bind_eq_some_iff.mp H
      obtain ⟨t103, A80, H⟩ := H
      replace H : (some t103) = some r := H
      have A8 := Aside0.mk A80
      clear A80
      obtain rfl := Option.some.inj H
      go_enter Try.func67, Try.ntmps67
      go_wp2_with (first | ((with_reducible refine gate_dst (N := 1) rfl ?_); (try (refine gate_guard (by rfl) ?_; dsimp only)); refine box_event ?hg (N := 1) ?hd (cs := #[.int .u32 a0_0, .int .u32 a0_1, .slice A0_2 l0_2.length c0_2, .slice A0_3 l0_3.length c0_3]) (t := 44) ?hr ?_; (case hd => rfl); (case hg => rfl); (case hr => first | (go_simp; done) | (go_simp; rfl)); intro gb101 hg w9 hbox hb; have n0_ := Aside0.mk (below_step (by repeat (first | (with_reducible first | exact HB.out | apply below_alloc | apply pw_below_drewN | apply below_drew1) | exact HB.out)) hb); have n1_ := Aside0.mk (hbox); have n2_ := Aside0.mk ((by rw [hg]; exact (below_size (by repeat (first | (with_reducible first | exact HB.out | apply below_alloc | apply pw_below_drewN | apply below_drew1) | exact HB.out))) : w.heap.size ≤ gb101)); have n3_ := Aside0.mk ((by rw [hg]; exact (below_size (by repeat (first | (with_reducible first | exact HB.out | apply below_alloc | apply pw_below_drewN | apply below_drew1) | exact HB.out))) : w.heap.size ≤ gb101)); clear HB; have HB := n0_; have BK101 := n1_; have GW101 := n2_; have GE101 := n3_; clear n0_ n1_ n2_ n3_; clear hb hbox hg; have hcz10_0 : w9.cell? ⟨gb101, 0, none⟩ = some (.int .u32 a0_0) := (blk_cell BK101.out 0).trans rfl; have hcz10_1 : w9.cell? ⟨gb101, 1, none⟩ = some (.int .u32 a0_1) := (blk_cell BK101.out 1).trans rfl; have hcz10_2 : w9.cell? ⟨gb101, 2, none⟩ = some (.slice A0_2 l0_2.length c0_2) := (blk_cell BK101.out 2).trans rfl; have hcz10_3 : w9.cell? ⟨gb101, 3, none⟩ = some (.slice A0_3 l0_3.length c0_3) := (blk_cell BK101.out 3).trans rfl; have hfz10_0 := blk_frozen BK101.out 0; have hfz10_1 := blk_frozen BK101.out 1; have hfz10_2 := blk_frozen BK101.out 2; have hfz10_3 := blk_frozen BK101.out 3) | (go_at_call 94; (with_reducible refine (impl_goodSerials.calls k _ _ l0_2 true _ ?side1 ?side2 A5.out).mono ?_); (case side1 => repeat (first | exact (Kd.C_below HR0_2.out HB.out) | (with_reducible refine Kd.C_alloc ?_ _) | (with_reducible refine Kd.C_drewN ?_ _) | (with_reducible refine Kd.C_drew ?_))); (case side2 => exact HC0_2.out); rintro e w' ⟨rfl, ⟨nd, rfl⟩⟩) | (go_at_call 94; (with_reducible refine (impl_goodSerials.calls k _ _ l0_3 t103 _ ?side1 ?side2 A8.out).mono ?_); (case side1 => repeat (first | exact (Kd.C_below HR0_3.out (by repeat (first | (with_reducible first | exact HB.out | apply below_alloc | apply pw_below_drewN | apply below_drew1 | refine below_set ?_ GE101.out) | exact HB.out))) | (with_reducible refine Kd.C_alloc ?_ _) | (with_reducible refine Kd.C_drewN ?_ _) | (with_reducible refine Kd.C_drew ?_))); (case side2 => exact HC0_3.out); rintro e w' ⟨rfl, ⟨nd, rfl⟩⟩))
      go_ret
      exact ⟨by first | rfl | (simp [errW_none, errW_some] <;> rfl) | (simp [*, errW_none, errW_some] <;> rfl), by repeat (first | (with_reducible first | exact HB.out | apply below_alloc | apply pw_below_drewN | apply below_drew1 | refine below_set ?_ GE101.out) | exact HB.out)⟩
     ·rw [if_neg c7] at H
      have c7b0 : decide ((l0_2.length : Int) ≤ 16) = false := decide_eq_false c7
      have c7b1 : decide (l0_2.length ≤ 16) = false := decide_eq_false (by omega)
      clear c7
      obtain rfl := Option.some.inj H
      go_enter Try.func67, Try.ntmps67
      go_wp2_with (first | ((with_reducible refine gate_dst (N := 1) rfl ?_); (try (refine gate_guard (by rfl) ?_; dsimp only)); refine box_event ?hg (N := 1) ?hd (cs := #[.int .u32 a0_0, .int .u32 a0_1, .slice A0_2 l0_2.length c0_2, .slice A0_3 l0_3.length c0_3]) (t := 44) ?hr ?_; (case hd => rfl); (case hg => rfl); (case hr => first | (go_simp; done) | (go_simp; rfl)); intro gb101 hg w11 hbox hb; have n0_ := Aside0.mk (below_step (by repeat (first | (with_reducible first | exact HB.out | apply below_alloc | apply pw_below_drewN | apply below_drew1) | exact HB.out)) hb); have n1_ := Aside0.mk (hbox); have n2_ := Aside0.mk ((by rw [hg]; exact (below_size (by repeat (first | (with_reducible first | exact HB.out | apply below_alloc | apply pw_below_drewN | apply below_drew1) | exact HB.out))) : w.heap.size ≤ gb101)); have n3_ := Aside0.mk ((by rw [hg]; exact (below_size (by repeat (first | (with_reducible first | exact HB.out | apply below_alloc | apply pw_below_drewN | apply below_drew1) | exact HB.out))) : w.heap.size ≤ gb101)); clear HB; have HB := n0_; have BK101 := n1_; have GW101 := n2_; have GE101 := n3_; clear n0_ n1_ n2_ n3_; clear hb hbox hg; have hcz12_0 : w11.cell? ⟨gb101, 0, none⟩ = some (.int .u32 a0_0) := (blk_cell BK101.out 0).trans rfl; have hcz12_1 : w11.cell? ⟨gb101, 1, none⟩ = some (.int .u32 a0_1) := (blk_cell BK101.out 1).trans rfl; have hcz12_2 : w11.cell? ⟨gb101, 2, none⟩ = some (.slice A0_2 l0_2.length c0_2) := (blk_cell BK101.out 2).trans rfl; have hcz12_3 : w11.cell? ⟨gb101, 3, none⟩ = some (.slice A0_3 l0_3.length c0_3) := (blk_cell BK101.out 3).trans rfl; have hfz12_0 := blk_frozen BK101.out 0; have hfz12_1 := blk_frozen BK101.out 1; have hfz12_2 := blk_frozen BK101.out 2; have hfz12_3 := blk_frozen BK101.out 3) | (go_at_call 94; (with_reducible refine (impl_goodSerials.calls k _ _ l0_2 true _ ?side1 ?side2 A5.out).mono ?_); (case side1 => repeat (first | exact (Kd.C_below HR0_2.out HB.out) | (with_reducible refine Kd.C_alloc ?_ _) | (with_reducible refine Kd.C_drewN ?_ _) | (with_reducible refine Kd.C_drew ?_))); (case side2 => exact HC0_2.out); rintro e w' ⟨rfl, ⟨nd, rfl⟩⟩))
      go_ret
      exact ⟨by first | rfl | (simp [errW_none, errW_some] <;> rfl) | (simp [*, errW_none, errW_some] <;> rfl), by repeat (first | (with_reducible first | exact HB.out | apply below_alloc | apply pw_below_drewN | apply below_drew1 | refine below_set ?_ GE101.out) | exact HB.out)⟩
    ·replace c6 := Bool.eq_false_iff.mpr c6
     subst c6
     have H1 : (some false) = some r := by rw [if_neg (show ¬ (false = true) by decide)] at H; exact H
     clear H
     have H := H1
     clear H1
     obtain rfl := Option.some.inj H
     go_enter Try.func67, Try.ntmps67
     go_wp2_with (first | ((with_reducible refine gate_dst (N := 1) rfl ?_); (try (refine gate_guard (by rfl) ?_; dsimp only)); refine box_event ?hg (N := 1) ?hd (cs := #[.int .u32 a0_0, .int .u32 a0_1, .slice A0_2 l0_2.length c0_2, .slice A0_3 l0_3.length c0_3]) (t := 44) ?hr ?_; (case hd => rfl); (case hg => rfl); (case hr => first | (go_simp; done) | (go_simp; rfl)); intro gb101 hg w13 hbox hb; have n0_ := Aside0.mk (below_step (by repeat (first | (with_reducible first | exact HB.out | apply below_alloc | apply pw_below_drewN | apply below_drew1) | exact HB.out)) hb); have n1_ := Aside0.mk (hbox); have n2_ := Aside0.mk ((by rw [hg]; exact (below_size (by repeat (first | (with_reducible first | exact HB.out | apply below_alloc | apply pw_below_drewN | apply below_drew1) | exact HB.out))) : w.heap.size ≤ gb101)); have n3_ := Aside0.mk ((by rw [hg]; exact (below_size (by repeat (first | (with_reducible first | exact HB.out | apply below_alloc | apply pw_below_drewN | apply below_drew1) | exact HB.out))) : w.heap.size ≤ gb101)); clear HB; have HB := n0_; have BK101 := n1_; have GW101 := n2_; have GE101 := n3_; clear n0_ n1_ n2_ n3_; clear hb hbox hg; have hcz14_0 : w13.cell? ⟨gb101, 0, none⟩ = some (.int .u32 a0_0) := (blk_cell BK101.out 0).trans rfl; have hcz14_1 : w13.cell? ⟨gb101, 1, none⟩ = some (.int .u32 a0_1) := (blk_cell BK101.out 1).trans rfl; have hcz14_2 : w13.cell? ⟨gb101, 2, none⟩ = some (.slice A0_2 l0_2.length c0_2) := (blk_cell BK101.out 2).trans rfl; have hcz14_3 : w13.cell? ⟨gb101, 3, none⟩ = some (.slice A0_3 l0_3.length c0_3) := (blk_cell BK101.out 3).trans rfl; have hfz14_0 := blk_frozen BK101.out 0; have hfz14_1 := blk_frozen BK101.out 1; have hfz14_2 := blk_frozen BK101.out 2; have hfz14_3 := blk_frozen BK101.out 3) | (go_at_call 94; (with_reducible refine (impl_goodSerials.calls k _ _ l0_2 false _ ?side1 ?side2 A5.out).mono ?_); (case side1 => repeat (first | exact (Kd.C_below HR0_2.out HB.out) | (with_reducible refine Kd.C_alloc ?_ _) | (with_reducible refine Kd.C_drewN ?_ _) | (with_reducible refine Kd.C_drew ?_))); (case side2 => exact HC0_2.out); rintro e w' ⟨rfl, ⟨nd, rfl⟩⟩))
     go_ret
     exact ⟨by first | rfl | (simp [errW_none, errW_some] <;> rfl) | (simp [*, errW_none, errW_some] <;> rfl), by repeat (first | (with_reducible first | exact HB.out | apply below_alloc | apply pw_below_drewN | apply below_drew1 | refine below_set ?_ GE101.out) | exact HB.out)⟩
   ·rw [if_neg c4] at H
    have c4b0 : decide (a0_1 ≤ 4000000000) = false := decide_eq_false c4
    clear c4
    obtain rfl := Option.some.inj H
    go_enter Try.func67, Try.ntmps67
    go_wp2_with (first | ((with_reducible refine gate_dst (N := 1) rfl ?_); (try (refine gate_guard (by rfl) ?_; dsimp only)); refine box_event ?hg (N := 1) ?hd (cs := #[.int .u32 a0_0, .int .u32 a0_1, .slice A0_2 l0_2.length c0_2, .slice A0_3 l0_3.length c0_3]) (t := 44) ?hr ?_; (case hd => rfl); (case hg => rfl); (case hr => first | (go_simp; done) | (go_simp; rfl)); intro gb101 hg w15 hbox hb; have n0_ := Aside0.mk (below_step (by repeat (first | (with_reducible first | exact HB.out | apply below_alloc | apply pw_below_drewN | apply below_drew1) | exact HB.out)) hb); have n1_ := Aside0.mk (hbox); have n2_ := Aside0.mk ((by rw [hg]; exact (below_size (by repeat (first | (with_reducible first | exact HB.out | apply below_alloc | apply pw_below_drewN | apply below_drew1) | exact HB.out))) : w.heap.size ≤ gb101)); have n3_ := Aside0.mk ((by rw [hg]; exact (below_size (by repeat (first | (with_reducible first | exact HB.out | apply below_alloc | apply pw_below_drewN | apply below_drew1) | exact HB.out))) : w.heap.size ≤ gb101)); clear HB; have HB := n0_; have BK101 := n1_; have GW101 := n2_; have GE101 := n3_; clear n0_ n1_ n2_ n3_; clear hb hbox hg; have hcz16_0 : w15.cell? ⟨gb101, 0, none⟩ = some (.int .u32 a0_0) := (blk_cell BK101.out 0).trans rfl; have hcz16_1 : w15.cell? ⟨gb101, 1, none⟩ = some (.int .u32 a0_1) := (blk_cell BK101.out 1).trans rfl; have hcz16_2 : w15.cell? ⟨gb101, 2, none⟩ = some (.slice A0_2 l0_2.length c0_2) := (blk_cell BK101.out 2).trans rfl; have hcz16_3 : w15.cell? ⟨gb101, 3, none⟩ = some (.slice A0_3 l0_3.length c0_3) := (blk_cell BK101.out 3).trans rfl; have hfz16_0 := blk_frozen BK101.out 0; have hfz16_1 := blk_frozen BK101.out 1; have hfz16_2 := blk_frozen BK101.out 2; have hfz16_3 := blk_frozen BK101.out 3))
    go_ret
    exact ⟨by first | rfl | (simp [errW_none, errW_some] <;> rfl) | (simp [*, errW_none, errW_some] <;> rfl), by repeat (first | (with_reducible first | exact HB.out | apply below_alloc | apply pw_below_drewN | apply below_drew1 | refine below_set ?_ GE101.out) | exact HB.out)⟩
  ·rw [if_neg c3] at H
   have c3b0 : decide (1 ≤ a0_1) = false := decide_eq_false c3
   clear c3
   obtain rfl := Option.some.inj H
   go_enter Try.func67, Try.ntmps67
   go_wp2_with (first | ((with_reducible refine gate_dst (N := 1) rfl ?_); (try (refine gate_guard (by rfl) ?_; dsimp only)); refine box_event ?hg (N := 1) ?hd (cs := #[.int .u32 a0_0, .int .u32 a0_1, .slice A0_2 l0_2.length c0_2, .slice A0_3 l0_3.length c0_3]) (t := 44) ?hr ?_; (case hd => rfl); (case hg => rfl); (case hr => first | (go_simp; done) | (go_simp; rfl)); intro gb101 hg w17 hbox hb; have n0_ := Aside0.mk (below_step (by repeat (first | (with_reducible first | exact HB.out | apply below_alloc | apply pw_below_drewN | apply below_drew1) | exact HB.out)) hb); have n1_ := Aside0.mk (hbox); have n2_ := Aside0.mk ((by rw [hg]; exact (below_size (by repeat (first | (with_reducible first | exact HB.out | apply below_alloc | apply pw_below_drewN | apply below_drew1) | exact HB.out))) : w.heap.size ≤ gb101)); have n3_ := Aside0.mk ((by rw [hg]; exact (below_size (by repeat (first | (with_reducible first | exact HB.out | apply below_alloc | apply pw_below_drewN | apply below_drew1) | exact HB.out))) : w.heap.size ≤ gb101)); clear HB; have HB := n0_; have BK101 := n1_; have GW101 := n2_; have GE101 := n3_; clear n0_ n1_ n2_ n3_; clear hb hbox hg; have hcz18_0 : w17.cell? ⟨gb101, 0, none⟩ = some (.int .u32 a0_0) := (blk_cell BK101.out 0).trans rfl; have hcz18_1 : w17.cell? ⟨gb101, 1, none⟩ = some (.int .u32 a0_1) := (blk_cell BK101.out 1).trans rfl; have hcz18_2 : w17.cell? ⟨gb101, 2, none⟩ = some (.slice A0_2 l0_2.length c0_2) := (blk_cell BK101.out 2).trans rfl; have hcz18_3 : w17.cell? ⟨gb101, 3, none⟩ = some (.slice A0_3 l0_3.length c0_3) := (blk_cell BK101.out 3).trans rfl; have hfz18_0 := blk_frozen BK101.out 0; have hfz18_1 := blk_frozen BK101.out 1; have hfz18_2 := blk_frozen BK101.out 2; have hfz18_3 := blk_frozen BK101.out 3))
   go_ret
   exact ⟨by first | rfl | (simp [errW_none, errW_some] <;> rfl) | (simp [*, errW_none, errW_some] <;> rfl), by repeat (first | (with_reducible first | exact HB.out | apply below_alloc | apply pw_below_drewN | apply below_drew1 | refine below_set ?_ GE101.out) | exact HB.out)⟩
 ·rw [if_neg c2] at H
  have c2b0 : decide (a0_0 ≤ 4000000000) = false := decide_eq_false c2
  clear c2
  obtain rfl := Option.some.inj H
  go_enter Try.func67, Try.ntmps67
  go_wp2_with (first | ((with_reducible refine gate_dst (N := 1) rfl ?_); (try (refine gate_guard (by rfl) ?_; dsimp only)); refine box_event ?hg (N := 1) ?hd (cs := #[.int .u32 a0_0, .int .u32 a0_1, .slice A0_2 l0_2.length c0_2, .slice A0_3 l0_3.length c0_3]) (t := 44) ?hr ?_; (case hd => rfl); (case hg => rfl); (case hr => first | (go_simp; done) | (go_simp; rfl)); intro gb101 hg w19 hbox hb; have n0_ := Aside0.mk (below_step (by repeat (first | (with_reducible first | exact HB.out | apply below_alloc | apply pw_below_drewN | apply below_drew1) | exact HB.out)) hb); have n1_ := Aside0.mk (hbox); have n2_ := Aside0.mk ((by rw [hg]; exact (below_size (by repeat (first | (with_reducible first | exact HB.out | apply below_alloc | apply pw_below_drewN | apply below_drew1) | exact HB.out))) : w.heap.size ≤ gb101)); have n3_ := Aside0.mk ((by rw [hg]; exact (below_size (by repeat (first | (with_reducible first | exact HB.out | apply below_alloc | apply pw_below_drewN | apply below_drew1) | exact HB.out))) : w.heap.size ≤ gb101)); clear HB; have HB := n0_; have BK101 := n1_; have GW101 := n2_; have GE101 := n3_; clear n0_ n1_ n2_ n3_; clear hb hbox hg; have hcz20_0 : w19.cell? ⟨gb101, 0, none⟩ = some (.int .u32 a0_0) := (blk_cell BK101.out 0).trans rfl; have hcz20_1 : w19.cell? ⟨gb101, 1, none⟩ = some (.int .u32 a0_1) := (blk_cell BK101.out 1).trans rfl; have hcz20_2 : w19.cell? ⟨gb101, 2, none⟩ = some (.slice A0_2 l0_2.length c0_2) := (blk_cell BK101.out 2).trans rfl; have hcz20_3 : w19.cell? ⟨gb101, 3, none⟩ = some (.slice A0_3 l0_3.length c0_3) := (blk_cell BK101.out 3).trans rfl; have hfz20_0 := blk_frozen BK101.out 0; have hfz20_1 := blk_frozen BK101.out 1; have hfz20_2 := blk_frozen BK101.out 2; have hfz20_3 := blk_frozen BK101.out 3))
  go_ret
  exact ⟨by first | rfl | (simp [errW_none, errW_some] <;> rfl) | (simp [*, errW_none, errW_some] <;> rfl), by repeat (first | (with_reducible first | exact HB.out | apply below_alloc | apply pw_below_drewN | apply below_drew1 | refine below_set ?_ GE101.out) | exact HB.out)⟩
end Go.Proofs.Ytgfadfahbhcllaa.Q
end
section
namespace Go.Proofs.Ytgfadfahbhcllaa.Q
open Go.RowKit Go.Proofs.YtgfadfahbhcllaaW.PrintWords Go.Proofs.YtgfadfahbhcllaaW.PrintLast Go.Proofs.Ytgfadfahbhcllaa.LK Go.Proofs.YtgfadfahbhcllaaW.PrintMore
attribute [local go_sem] max2_int min2_int max_two min_two max_three min_three max_four min_four
set_option linter.unusedVariables false
set_option linter.unusedSimpArgs false
def spec_l6GoodSnap.f (k : Nat) (a0_0 : Int) (a0_1 : Int) (l0_2 : List Int) (l0_3 : List Int) : Option (Bool) := if a0_0 ≤ 4000000000 then (if a0_1 ≥ 1 then (if a0_1 ≤ 4000000000 then ((spec_l5Serials.f k l0_2).bind fun t102 => (if t102 = true then (if (l0_2.length : Int) ≤ 16 then ((spec_l5Serials.f k l0_3).bind fun t103 => (some t103)) else (some false)) else (some false))) else (some false)) else (some false)) else (some false)
set_option maxHeartbeats 8000000 in
set_option maxRecDepth 100000 in
theorem spec_l6GoodSnap.calls (k : Nat) (a0_0 : Int) (a0_1 : Int) (A0_2 : Option Addr) (c0_2 : Nat) (l0_2 : List Int) (A0_3 : Option Addr) (c0_3 : Nat) (l0_3 : List Int) (r : Bool) (w : World) (hr0_2 : Kd.C (Kd.int .i64) w A0_2 l0_2.length l0_2) (hc0_2 : l0_2.length ≤ c0_2) (hr0_3 : Kd.C (Kd.int .i64) w A0_3 l0_3.length l0_3) (hc0_3 : l0_3.length ≤ c0_3) (h : spec_l6GoodSnap.f k a0_0 a0_1 l0_2 l0_3 = some r) :
  Calls Try.prog 63 #[.agg #[.int .u32 a0_0, .int .u32 a0_1, .slice A0_2 l0_2.length c0_2, .slice A0_3 l0_3.length c0_3]] w fun e w' => e = .returned (.bool r) ∧ Below w.heap.size w w' := by
 have hu44 := Try.underlying44
 have HR0_2 := Aside0.mk hr0_2
 have HC0_2 := Aside0.mk hc0_2
 clear hr0_2 hc0_2
 have HR0_3 := Aside0.mk hr0_3
 have HC0_3 := Aside0.mk hc0_3
 clear hr0_3 hc0_3
 have HB := Aside0.mk (Below.refl w.heap.size w)
 have H : (if a0_0 ≤ 4000000000 then (if a0_1 ≥ 1 then (if a0_1 ≤ 4000000000 then ((spec_l5Serials.f k l0_2).bind fun t102 => (if t102 = true then (if (l0_2.length : Int) ≤ 16 then ((spec_l5Serials.f k l0_3).bind fun t103 => (some t103)) else (some false)) else (some false))) else (some false)) else (some false)) else (some false)) = some r := h
 clear h
 by_cases c2 : a0_0 ≤ 4000000000
 ·rw [if_pos c2] at H
  have c2b0 : decide (a0_0 ≤ 4000000000) = true := decide_eq_true c2
  clear c2
  by_cases c3 : a0_1 ≥ 1
  ·rw [if_pos c3] at H
   have c3b0 : decide (1 ≤ a0_1) = true := decide_eq_true c3
   clear c3
   by_cases c4 : a0_1 ≤ 4000000000
   ·rw [if_pos c4] at H
    have c4b0 : decide (a0_1 ≤ 4000000000) = true := decide_eq_true c4
    clear c4
    replace H := Option.bind_eq_some_iff.mp H
    obtain ⟨t102, A50, H⟩ := H
    replace H : (if t102 = true then (if (l0_2.length : Int) ≤ 16 then ((spec_l5Serials.f k l0_3).bind fun t103 => (some t103)) else (some false)) else (some false)) = some r := H
    have A5 := Aside0.mk A50
    clear A50
    by_cases c6 : t102 = true
    ·subst c6
     have H1 : (if (l0_2.length : Int) ≤ 16 then ((spec_l5Serials.f k l0_3).bind fun t103 => (some t103)) else (some false)) = some r := by rw [if_pos rfl] at H; exact H
     clear H
     have H := H1
     clear H1
     by_cases c7 : (l0_2.length : Int) ≤ 16
     ·rw [if_pos c7] at H
      have c7b0 : decide ((l0_2.length : Int) ≤ 16) = true := decide_eq_true c7
      have c7b1 : decide (l0_2.length ≤ 16) = true := decide_eq_true (by omega)
      clear c7
      replace H := Option.bind_eq_some_iff.mp H
      obtain ⟨t103, A80, H⟩ := H
      replace H : (some t103) = some r := H
      have A8 := Aside0.mk A80
      clear A80
      obtain rfl := Option.some.inj H
      go_enter Try.func63, Try.ntmps63
      go_wp2_with (first | ((with_reducible refine gate_dst (N := 1) rfl ?_); (try (refine gate_guard (by rfl) ?_; dsimp only)); refine box_event ?hg (N := 1) ?hd (cs := #[.int .u32 a0_0, .int .u32 a0_1, .slice A0_2 l0_2.length c0_2, .slice A0_3 l0_3.length c0_3]) (t := 44) ?hr ?_; (case hd => rfl); (case hg => rfl); (case hr => first | (go_simp; done) | (go_simp; rfl)); intro gb101 hg w9 hbox hb; have n0_ := Aside0.mk (below_step (by repeat (first | (with_reducible first | exact HB.out | apply below_alloc | apply pw_below_drewN | apply below_drew1) | exact HB.out)) hb); have n1_ := Aside0.mk (hbox); have n2_ := Aside0.mk ((by rw [hg]; exact (below_size (by repeat (first | (with_reducible first | exact HB.out | apply below_alloc | apply pw_below_drewN | apply below_drew1) | exact HB.out))) : w.heap.size ≤ gb101)); have n3_ := Aside0.mk ((by rw [hg]; exact (below_size (by repeat (first | (with_reducible first | exact HB.out | apply below_alloc | apply pw_below_drewN | apply below_drew1) | exact HB.out))) : w.heap.size ≤ gb101)); clear HB; have HB := n0_; have BK101 := n1_; have GW101 := n2_; have GE101 := n3_; clear n0_ n1_ n2_ n3_; clear hb hbox hg; have hcz10_0 : w9.cell? ⟨gb101, 0, none⟩ = some (.int .u32 a0_0) := (blk_cell BK101.out 0).trans rfl; have hcz10_1 : w9.cell? ⟨gb101, 1, none⟩ = some (.int .u32 a0_1) := (blk_cell BK101.out 1).trans rfl; have hcz10_2 : w9.cell? ⟨gb101, 2, none⟩ = some (.slice A0_2 l0_2.length c0_2) := (blk_cell BK101.out 2).trans rfl; have hcz10_3 : w9.cell? ⟨gb101, 3, none⟩ = some (.slice A0_3 l0_3.length c0_3) := (blk_cell BK101.out 3).trans rfl; have hfz10_0 := blk_frozen BK101.out 0; have hfz10_1 := blk_frozen BK101.out 1; have hfz10_2 := blk_frozen BK101.out 2; have hfz10_3 := blk_frozen BK101.out 3) | (go_at_call 92; (with_reducible refine (spec_l5Serials.calls k _ _ l0_2 true _ ?side1 ?side2 A5.out).mono ?_); (case side1 => repeat (first | exact (Kd.C_below HR0_2.out HB.out) | (with_reducible refine Kd.C_alloc ?_ _) | (with_reducible refine Kd.C_drewN ?_ _) | (with_reducible refine Kd.C_drew ?_))); (case side2 => exact HC0_2.out); rintro e w' ⟨rfl, ⟨nd, rfl⟩⟩) | (go_at_call 92; (with_reducible refine (spec_l5Serials.calls k _ _ l0_3 t103 _ ?side1 ?side2 A8.out).mono ?_); (case side1 => repeat (first | exact (Kd.C_below HR0_3.out (by repeat (first | (with_reducible first | exact HB.out | apply below_alloc | apply pw_below_drewN | apply below_drew1 | refine below_set ?_ GE101.out) | exact HB.out))) | (with_reducible refine Kd.C_alloc ?_ _) | (with_reducible refine Kd.C_drewN ?_ _) | (with_reducible refine Kd.C_drew ?_))); (case side2 => exact HC0_3.out); rintro e w' ⟨rfl, ⟨nd, rfl⟩⟩))
      go_ret
      exact ⟨by first | rfl | (simp [errW_none, errW_some] <;> rfl) | (simp [*, errW_none, errW_some] <;> rfl), by repeat (first | (with_reducible first | exact HB.out | apply below_alloc | apply pw_below_drewN | apply below_drew1 | refine below_set ?_ GE101.out) | exact HB.out)⟩
     ·rw [if_neg c7] at H
      have c7b0 : decide ((l0_2.length : Int) ≤ 16) = false := decide_eq_false c7
      have c7b1 : decide (l0_2.length ≤ 16) = false := decide_eq_false (by omega)
      clear c7
      obtain rfl := Option.some.inj H
      go_enter Try.func63, Try.ntmps63
      go_wp2_with (first | ((with_reducible refine gate_dst (N := 1) rfl ?_); (try (refine gate_guard (by rfl) ?_; dsimp only)); refine box_event ?hg (N := 1) ?hd (cs := #[.int .u32 a0_0, .int .u32 a0_1, .slice A0_2 l0_2.length c0_2, .slice A0_3 l0_3.length c0_3]) (t := 44) ?hr ?_; (case hd => rfl); (case hg => rfl); (case hr => first | (go_simp; done) | (go_simp; rfl)); intro gb101 hg w11 hbox hb; have n0_ := Aside0.mk (below_step (by repeat (first | (with_reducible first | exact HB.out | apply below_alloc | apply pw_below_drewN | apply below_drew1) | exact HB.out)) hb); have n1_ := Aside0.mk (hbox); have n2_ := Aside0.mk ((by rw [hg]; exact (below_size (by repeat (first | (with_reducible first | exact HB.out | apply below_alloc | apply pw_below_drewN | apply below_drew1) | exact HB.out))) : w.heap.size ≤ gb101)); have n3_ := Aside0.mk ((by rw [hg]; exact (below_size (by repeat (first | (with_reducible first | exact HB.out | apply below_alloc | apply pw_below_drewN | apply below_drew1) | exact HB.out))) : w.heap.size ≤ gb101)); clear HB; have HB := n0_; have BK101 := n1_; have GW101 := n2_; have GE101 := n3_; clear n0_ n1_ n2_ n3_; clear hb hbox hg; have hcz12_0 : w11.cell? ⟨gb101, 0, none⟩ = some (.int .u32 a0_0) := (blk_cell BK101.out 0).trans rfl; have hcz12_1 : w11.cell? ⟨gb101, 1, none⟩ = some (.int .u32 a0_1) := (blk_cell BK101.out 1).trans rfl; have hcz12_2 : w11.cell? ⟨gb101, 2, none⟩ = some (.slice A0_2 l0_2.length c0_2) := (blk_cell BK101.out 2).trans rfl; have hcz12_3 : w11.cell? ⟨gb101, 3, none⟩ = some (.slice A0_3 l0_3.length c0_3) := (blk_cell BK101.out 3).trans rfl; have hfz12_0 := blk_frozen BK101.out 0; have hfz12_1 := blk_frozen BK101.out 1; have hfz12_2 := blk_frozen BK101.out 2; have hfz12_3 := blk_frozen BK101.out 3) | (go_at_call 92; (with_reducible refine (spec_l5Serials.calls k _ _ l0_2 true _ ?side1 ?side2 A5.out).mono ?_); (case side1 => repeat (first | exact (Kd.C_below HR0_2.out HB.out) | (with_reducible refine Kd.C_alloc ?_ _) | (with_reducible refine Kd.C_drewN ?_ _) | (with_reducible refine Kd.C_drew ?_))); (case side2 => exact HC0_2.out); rintro e w' ⟨rfl, ⟨nd, rfl⟩⟩))
      go_ret
      exact ⟨by first | rfl | (simp [errW_none, errW_some] <;> rfl) | (simp [*, errW_none, errW_some] <;> rfl), by repeat (first | (with_reducible first | exact HB.out | apply below_alloc | apply pw_below_drewN | apply below_drew1 | refine below_set ?_ GE101.out) | exact HB.out)⟩
    ·replace c6 := Bool.eq_false_iff.mpr c6
     subst c6
     have H1 : (some false) = some r := by rw [if_neg (show ¬ (false = true) by decide)] at H; exact H
     clear H
     have H := H1
     clear H1
     obtain rfl := Option.some.inj H
     go_enter Try.func63, Try.ntmps63
     go_wp2_with (first | ((with_reducible refine gate_dst (N := 1) rfl ?_); (try (refine gate_guard (by rfl) ?_; dsimp only)); refine box_event ?hg (N := 1) ?hd (cs := #[.int .u32 a0_0, .int .u32 a0_1, .slice A0_2 l0_2.length c0_2, .slice A0_3 l0_3.length c0_3]) (t := 44) ?hr ?_; (case hd => rfl); (case hg => rfl); (case hr => first | (go_simp; done) | (go_simp; rfl)); intro gb101 hg w13 hbox hb; have n0_ := Aside0.mk (below_step (by repeat (first | (with_reducible first | exact HB.out | apply below_alloc | apply pw_below_drewN | apply below_drew1) | exact HB.out)) hb); have n1_ := Aside0.mk (hbox); have n2_ := Aside0.mk ((by rw [hg]; exact (below_size (by repeat (first | (with_reducible first | exact HB.out | apply below_alloc | apply pw_below_drewN | apply below_drew1) | exact HB.out))) : w.heap.size ≤ gb101)); have n3_ := Aside0.mk ((by rw [hg]; exact (below_size (by repeat (first | (with_reducible first | exact HB.out | apply below_alloc | apply pw_below_drewN | apply below_drew1) | exact HB.out))) : w.heap.size ≤ gb101)); clear HB; have HB := n0_; have BK101 := n1_; have GW101 := n2_; have GE101 := n3_; clear n0_ n1_ n2_ n3_; clear hb hbox hg; have hcz14_0 : w13.cell? ⟨gb101, 0, none⟩ = some (.int .u32 a0_0) := (blk_cell BK101.out 0).trans rfl; have hcz14_1 : w13.cell? ⟨gb101, 1, none⟩ = some (.int .u32 a0_1) := (blk_cell BK101.out 1).trans rfl; have hcz14_2 : w13.cell? ⟨gb101, 2, none⟩ = some (.slice A0_2 l0_2.length c0_2) := (blk_cell BK101.out 2).trans rfl; have hcz14_3 : w13.cell? ⟨gb101, 3, none⟩ = some (.slice A0_3 l0_3.length c0_3) := (blk_cell BK101.out 3).trans rfl; have hfz14_0 := blk_frozen BK101.out 0; have hfz14_1 := blk_frozen BK101.out 1; have hfz14_2 := blk_frozen BK101.out 2; have hfz14_3 := blk_frozen BK101.out 3) | (go_at_call 92; (with_reducible refine (spec_l5Serials.calls k _ _ l0_2 false _ ?side1 ?side2 A5.out).mono ?_); (case side1 => repeat (first | exact (Kd.C_below HR0_2.out HB.out) | (with_reducible refine Kd.C_alloc ?_ _) | (with_reducible refine Kd.C_drewN ?_ _) | (with_reducible refine Kd.C_drew ?_))); (case side2 => exact HC0_2.out); rintro e w' ⟨rfl, ⟨nd, rfl⟩⟩))
     go_ret
     exact ⟨by first | rfl | (simp [errW_none, errW_some] <;> rfl) | (simp [*, errW_none, errW_some] <;> rfl), by repeat (first | (with_reducible first | exact HB.out | apply below_alloc | apply pw_below_drewN | apply below_drew1 | refine below_set ?_ GE101.out) | exact HB.out)⟩
   ·rw [if_neg c4] at H
    have c4b0 : decide (a0_1 ≤ 4000000000) = false := decide_eq_false c4
    clear c4
    obtain rfl := Option.some.inj H
    go_enter Try.func63, Try.ntmps63
    go_wp2_with (first | ((with_reducible refine gate_dst (N := 1) rfl ?_); (try (refine gate_guard (by rfl) ?_; dsimp only)); refine box_event ?hg (N := 1) ?hd (cs := #[.int .u32 a0_0, .int .u32 a0_1, .slice A0_2 l0_2.length c0_2, .slice A0_3 l0_3.length c0_3]) (t := 44) ?hr ?_; (case hd => rfl); (case hg => rfl); (case hr => first | (go_simp; done) | (go_simp; rfl)); intro gb101 hg w15 hbox hb; have n0_ := Aside0.mk (below_step (by repeat (first | (with_reducible first | exact HB.out | apply below_alloc | apply pw_below_drewN | apply below_drew1) | exact HB.out)) hb); have n1_ := Aside0.mk (hbox); have n2_ := Aside0.mk ((by rw [hg]; exact (below_size (by repeat (first | (with_reducible first | exact HB.out | apply below_alloc | apply pw_below_drewN | apply below_drew1) | exact HB.out))) : w.heap.size ≤ gb101)); have n3_ := Aside0.mk ((by rw [hg]; exact (below_size (by repeat (first | (with_reducible first | exact HB.out | apply below_alloc | apply pw_below_drewN | apply below_drew1) | exact HB.out))) : w.heap.size ≤ gb101)); clear HB; have HB := n0_; have BK101 := n1_; have GW101 := n2_; have GE101 := n3_; clear n0_ n1_ n2_ n3_; clear hb hbox hg; have hcz16_0 : w15.cell? ⟨gb101, 0, none⟩ = some (.int .u32 a0_0) := (blk_cell BK101.out 0).trans rfl; have hcz16_1 : w15.cell? ⟨gb101, 1, none⟩ = some (.int .u32 a0_1) := (blk_cell BK101.out 1).trans rfl; have hcz16_2 : w15.cell? ⟨gb101, 2, none⟩ = some (.slice A0_2 l0_2.length c0_2) := (blk_cell BK101.out 2).trans rfl; have hcz16_3 : w15.cell? ⟨gb101, 3, none⟩ = some (.slice A0_3 l0_3.length c0_3) := (blk_cell BK101.out 3).trans rfl; have hfz16_0 := blk_frozen BK101.out 0; have hfz16_1 := blk_frozen BK101.out 1; have hfz16_2 := blk_frozen BK101.out 2; have hfz16_3 := blk_frozen BK101.out 3))
    go_ret
    exact ⟨by first | rfl | (simp [errW_none, errW_some] <;> rfl) | (simp [*, errW_none, errW_some] <;> rfl), by repeat (first | (with_reducible first | exact HB.out | apply below_alloc | apply pw_below_drewN | apply below_drew1 | refine below_set ?_ GE101.out) | exact HB.out)⟩
  ·rw [if_neg c3] at H
   have c3b0 : decide (1 ≤ a0_1) = false := decide_eq_false c3
   clear c3
   obtain rfl := Option.some.inj H
   go_enter Try.func63, Try.ntmps63
   go_wp2_with (first | ((with_reducible refine gate_dst (N := 1) rfl ?_); (try (refine gate_guard (by rfl) ?_; dsimp only)); refine box_event ?hg (N := 1) ?hd (cs := #[.int .u32 a0_0, .int .u32 a0_1, .slice A0_2 l0_2.length c0_2, .slice A0_3 l0_3.length c0_3]) (t := 44) ?hr ?_; (case hd => rfl); (case hg => rfl); (case hr => first | (go_simp; done) | (go_simp; rfl)); intro gb101 hg w17 hbox hb; have n0_ := Aside0.mk (below_step (by repeat (first | (with_reducible first | exact HB.out | apply below_alloc | apply pw_below_drewN | apply below_drew1) | exact HB.out)) hb); have n1_ := Aside0.mk (hbox); have n2_ := Aside0.mk ((by rw [hg]; exact (below_size (by repeat (first | (with_reducible first | exact HB.out | apply below_alloc | apply pw_below_drewN | apply below_drew1) | exact HB.out))) : w.heap.size ≤ gb101)); have n3_ := Aside0.mk ((by rw [hg]; exact (below_size (by repeat (first | (with_reducible first | exact HB.out | apply below_alloc | apply pw_below_drewN | apply below_drew1) | exact HB.out))) : w.heap.size ≤ gb101)); clear HB; have HB := n0_; have BK101 := n1_; have GW101 := n2_; have GE101 := n3_; clear n0_ n1_ n2_ n3_; clear hb hbox hg; have hcz18_0 : w17.cell? ⟨gb101, 0, none⟩ = some (.int .u32 a0_0) := (blk_cell BK101.out 0).trans rfl; have hcz18_1 : w17.cell? ⟨gb101, 1, none⟩ = some (.int .u32 a0_1) := (blk_cell BK101.out 1).trans rfl; have hcz18_2 : w17.cell? ⟨gb101, 2, none⟩ = some (.slice A0_2 l0_2.length c0_2) := (blk_cell BK101.out 2).trans rfl; have hcz18_3 : w17.cell? ⟨gb101, 3, none⟩ = some (.slice A0_3 l0_3.length c0_3) := (blk_cell BK101.out 3).trans rfl; have hfz18_0 := blk_frozen BK101.out 0; have hfz18_1 := blk_frozen BK101.out 1; have hfz18_2 := blk_frozen BK101.out 2; have hfz18_3 := blk_frozen BK101.out 3))
   go_ret
   exact ⟨by first | rfl | (simp [errW_none, errW_some] <;> rfl) | (simp [*, errW_none, errW_some] <;> rfl), by repeat (first | (with_reducible first | exact HB.out | apply below_alloc | apply pw_below_drewN | apply below_drew1 | refine below_set ?_ GE101.out) | exact HB.out)⟩
 ·rw [if_neg c2] at H
  have c2b0 : decide (a0_0 ≤ 4000000000) = false := decide_eq_false c2
  clear c2
  obtain rfl := Option.some.inj H
  go_enter Try.func63, Try.ntmps63
  go_wp2_with (first | ((with_reducible refine gate_dst (N := 1) rfl ?_); (try (refine gate_guard (by rfl) ?_; dsimp only)); refine box_event ?hg (N := 1) ?hd (cs := #[.int .u32 a0_0, .int .u32 a0_1, .slice A0_2 l0_2.length c0_2, .slice A0_3 l0_3.length c0_3]) (t := 44) ?hr ?_; (case hd => rfl); (case hg => rfl); (case hr => first | (go_simp; done) | (go_simp; rfl)); intro gb101 hg w19 hbox hb; have n0_ := Aside0.mk (below_step (by repeat (first | (with_reducible first | exact HB.out | apply below_alloc | apply pw_below_drewN | apply below_drew1) | exact HB.out)) hb); have n1_ := Aside0.mk (hbox); have n2_ := Aside0.mk ((by rw [hg]; exact (below_size (by repeat (first | (with_reducible first | exact HB.out | apply below_alloc | apply pw_below_drewN | apply below_drew1) | exact HB.out))) : w.heap.size ≤ gb101)); have n3_ := Aside0.mk ((by rw [hg]; exact (below_size (by repeat (first | (with_reducible first | exact HB.out | apply below_alloc | apply pw_below_drewN | apply below_drew1) | exact HB.out))) : w.heap.size ≤ gb101)); clear HB; have HB := n0_; have BK101 := n1_; have GW101 := n2_; have GE101 := n3_; clear n0_ n1_ n2_ n3_; clear hb hbox hg; have hcz20_0 : w19.cell? ⟨gb101, 0, none⟩ = some (.int .u32 a0_0) := (blk_cell BK101.out 0).trans rfl; have hcz20_1 : w19.cell? ⟨gb101, 1, none⟩ = some (.int .u32 a0_1) := (blk_cell BK101.out 1).trans rfl; have hcz20_2 : w19.cell? ⟨gb101, 2, none⟩ = some (.slice A0_2 l0_2.length c0_2) := (blk_cell BK101.out 2).trans rfl; have hcz20_3 : w19.cell? ⟨gb101, 3, none⟩ = some (.slice A0_3 l0_3.length c0_3) := (blk_cell BK101.out 3).trans rfl; have hfz20_0 := blk_frozen BK101.out 0; have hfz20_1 := blk_frozen BK101.out 1; have hfz20_2 := blk_frozen BK101.out 2; have hfz20_3 := blk_frozen BK101.out 3))
  go_ret
  exact ⟨by first | rfl | (simp [errW_none, errW_some] <;> rfl) | (simp [*, errW_none, errW_some] <;> rfl), by repeat (first | (with_reducible first | exact HB.out | apply below_alloc | apply pw_below_drewN | apply below_drew1 | refine below_set ?_ GE101.out) | exact HB.out)⟩
end Go.Proofs.Ytgfadfahbhcllaa.Q
end
section
namespace Go.Proofs.Ytgfadfahbhcllaa.P
open Go.RowKit Go.Proofs.YtgfadfahbhcllaaW.PrintWords Go.Proofs.YtgfadfahbhcllaaW.PrintMore Go.Proofs.Ytgfadfahbhcllaa.Q
set_option linter.unusedVariables false
set_option linter.unusedSimpArgs false
theorem goodS_ge {l : List Int} (h : goodS l = true) : ∀ i : Nat, i < l.length → (i : Int) ≤ rd l i
 | 0, hi => (goodS_at h hi).1
 | i + 1, hi => by
  have h1 := goodS_ge h i (by omega)
  have h2 := goodS_lt h (i + 1) i (by omega) hi
  omega
theorem goodS_length {l : List Int} (h : goodS l = true) : l.length ≤ 256 := by
 rcases Nat.lt_or_ge 256 l.length with hl | hl
 ·have h1 := goodS_ge h 256 hl
  have h2 := (goodS_at h hl).2.1
  omega
 ·exact hl
def goodSnap (g t : Int) (xs u : List Int) : Bool := decide (g ≤ 4000000000) && (decide (1 ≤ t) && (decide (t ≤ 4000000000) && (goodS xs && (decide (xs.length ≤ 16) && goodS u))))
theorem goodSnap_iff {g t : Int} {xs u : List Int} : goodSnap g t xs u = true ↔ g ≤ 4000000000 ∧ 1 ≤ t ∧ t ≤ 4000000000 ∧ goodS xs = true ∧ xs.length ≤ 16 ∧ goodS u = true := by
 unfold goodSnap
 simp only [Bool.and_eq_true, decide_eq_true_eq]
theorem impl_snap_good (g t : Int) (xs u : List Int) (h1 : xs.length ≤ 4611686018427387904) (h2 : u.length ≤ 4611686018427387904) : Ev (fun k => impl_Snap_good.f k g t xs u) (goodSnap g t xs u) := by
 simp only [impl_Snap_good.f, goodSnap]
 by_cases c1 : g ≤ 4000000000
 ·rw [decide_eq_true c1, Bool.true_and]
  refine Ev.pos c1 ?_
  by_cases c2 : 1 ≤ t
  ·rw [decide_eq_true c2, Bool.true_and]
   refine Ev.pos c2 ?_
   by_cases c3 : t ≤ 4000000000
   ·rw [decide_eq_true c3, Bool.true_and]
    refine Ev.pos c3 (Ev.bind (impl_good_ev xs h1) ?_)
    cases c4 : goodS xs with
    | false => exact Ev.neg (by decide) (Ev.const rfl)
    | true =>
     refine Ev.pos rfl ?_
     by_cases c5 : xs.length ≤ 16
     ·rw [decide_eq_true c5, Bool.true_and, Bool.true_and]
      exact Ev.pos (by omega) (Ev.bind (impl_good_ev u h2) (Ev.const rfl))
     ·rw [decide_eq_false c5]
      exact Ev.neg (by omega) (Ev.const rfl)
   ·rw [decide_eq_false c3]
    exact Ev.neg c3 (Ev.const rfl)
  ·rw [decide_eq_false c2]
   exact Ev.neg c2 (Ev.const rfl)
 ·rw [decide_eq_false c1]
  exact Ev.neg c1 (Ev.const rfl)
theorem spec_snap_good (g t : Int) (xs u : List Int) (h1 : xs.length ≤ 4611686018427387904) (h2 : u.length ≤ 4611686018427387904) : Ev (fun k => spec_l6GoodSnap.f k g t xs u) (goodSnap g t xs u) := by
 simp only [spec_l6GoodSnap.f, goodSnap]
 by_cases c1 : g ≤ 4000000000
 ·rw [decide_eq_true c1, Bool.true_and]
  refine Ev.pos c1 ?_
  by_cases c2 : 1 ≤ t
  ·rw [decide_eq_true c2, Bool.true_and]
   refine Ev.pos c2 ?_
   by_cases c3 : t ≤ 4000000000
   ·rw [decide_eq_true c3, Bool.true_and]
    refine Ev.pos c3 (Ev.bind (spec_good_ev xs h1) ?_)
    cases c4 : goodS xs with
    | false => exact Ev.neg (by decide) (Ev.const rfl)
    | true =>
     refine Ev.pos rfl ?_
     by_cases c5 : xs.length ≤ 16
     ·rw [decide_eq_true c5, Bool.true_and, Bool.true_and]
      exact Ev.pos (by omega) (Ev.bind (spec_good_ev u h2) (Ev.const rfl))
     ·rw [decide_eq_false c5]
      exact Ev.neg (by omega) (Ev.const rfl)
   ·rw [decide_eq_false c3]
    exact Ev.neg c3 (Ev.const rfl)
  ·rw [decide_eq_false c2]
   exact Ev.neg c2 (Ev.const rfl)
 ·rw [decide_eq_false c1]
  exact Ev.neg c1 (Ev.const rfl)
def snapSz (g t : Int) (xs u : List Int) : Prop := (0 ≤ g ∧ g ≤ 4294967295) ∧ (0 ≤ t ∧ t ≤ 4294967295) ∧ xs.length ≤ 2097152 ∧ u.length ≤ 2097152
instance (g t : Int) (xs u : List Int) : Decidable (snapSz g t xs u) := by unfold snapSz; infer_instance
end Go.Proofs.Ytgfadfahbhcllaa.P
end
