/- Part 7 of 9 of the proof that the law FnSnap returns true at every input. No further condition. -/
import Derived.Laws.Cover3
import Derived.Test.YtgfadfahbhcllaaMFnSnap6
section
namespace Go.Proofs.Ytgfadfahbhcllaa.Q
open Go.RowKit Go.Proofs.YtgfadfahbhcllaaW.PrintWords Go.Proofs.YtgfadfahbhcllaaW.PrintLast Go.Proofs.Ytgfadfahbhcllaa.LK Go.Proofs.YtgfadfahbhcllaaW.PrintMore
attribute [local go_sem] max2_int min2_int max_two min_two max_three min_three max_four min_four
set_option linter.unusedVariables false
set_option linter.unusedSimpArgs false
def laws_lwNums.l0 : Nat → List Int → List Int → Int → Option (Bool)
 | 0, _, _, _ => none
 | k + 1, x0, x1, x5 => if x5 < (x0.length : Int) then (if 0 ≤ x5 then (if x5 < (x1.length : Int) then (if (rd x0 x5) = (rd x1 x5) then (laws_lwNums.l0 k x0 x1 (wrap64 (x5 + 1))) else (some false)) else (none)) else (none)) else (some true)
def laws_lwNums.f (k : Nat) (l0 : List Int) (l1 : List Int) : Option (Bool) := if (l0.length : Int) = (l1.length : Int) then (laws_lwNums.l0 k l0 l1 0) else (some false)
set_option maxHeartbeats 8000000 in
set_option maxRecDepth 100000 in
theorem laws_lwNums.calls (k : Nat) (A0 : Option Addr) (c0 : Nat) (l0 : List Int) (A1 : Option Addr) (c1 : Nat) (l1 : List Int) (r : Bool) (w : World) (hr0 : Kd.C (Kd.int .i64) w A0 l0.length l0) (hc0 : l0.length ≤ c0) (hr1 : Kd.C (Kd.int .i64) w A1 l1.length l1) (hc1 : l1.length ≤ c1) (h : laws_lwNums.f k l0 l1 = some r) :
  Calls Try.prog 36 #[.slice A0 l0.length c0, .slice A1 l1.length c1] w fun e w' => e = .returned (.bool r) ∧ Drawn0 w w' := by
 have HR0 := Aside0.mk hr0
 have HC0 := Aside0.mk hc0
 clear hr0 hc0
 have HR1 := Aside0.mk hr1
 have HC1 := Aside0.mk hc1
 clear hr1 hc1
 have H : (if (l0.length : Int) = (l1.length : Int) then (laws_lwNums.l0 k l0 l1 0) else (some false)) = some r := h
 clear h
 by_cases c3 : (l0.length : Int) = (l1.length : Int)
 ·rw [if_pos c3] at H
  have c3b0 : ((l0.length : Int) == (l1.length : Int)) = true := beq_iff_eq.mpr c3
  have c3b1 : ((l0.length : Int) != (l1.length : Int)) = false := bne_eq_false_iff_eq.mpr c3
  have c3b2 : (l0.length == l1.length) = true := by first | simpa using c3 | (simp at c3 ⊢; omega)
  clear c3
  have H' := Aside0.mk H
  clear H
  go_enter Try.func36, Try.ntmps36
  go_wp2
  repeat (go_quiet (fail); try go_wp2)
  go_loopg [5] k (fun kq v5 w' => ∃ (x5_1 : Int), v5 = .int .i64 x5_1 ∧ Aside0 (laws_lwNums.l0 kq l0 l1 x5_1 = some r) ∧ Aside0 (kq ≤ k) ∧ Drawn0 w w')
  case atStart => exact ⟨(0), (by first | rfl | (simp; done) | (simp [*]; done)), H', ⟨Nat.le_refl _⟩, by repeat (first | exact Drawn0.refl _ | apply Drawn0.step)⟩
  case round =>
   clear H'
   try clear c1
   try clear p2
   try clear c3
   try clear c3b0
   try clear c3b1
   try clear c3b2
   obtain ⟨x5_1, rfl, HA, HK1, ⟨m1, rfl⟩⟩ := hrel
   cases gk with
   | zero => exact absurd HA.out (by simp [laws_lwNums.l0])
   | succ k1 =>
    have H := HA.out
    clear HA
    simp only [laws_lwNums.l0] at H
    by_cases c4 : x5_1 < (l0.length : Int)
    ·rw [if_pos c4] at H
     have c4b0 : decide (x5_1 < (l0.length : Int)) = true := decide_eq_true c4
     clear c4
     by_cases c5 : 0 ≤ x5_1
     ·rw [if_pos c5] at H
      have c5b0 : decide (0 ≤ x5_1) = true := decide_eq_true c5
      clear c5
      by_cases c6 : x5_1 < (l1.length : Int)
      ·rw [if_pos c6] at H
       have c6b0 : decide (x5_1 < (l1.length : Int)) = true := decide_eq_true c6
       clear c6
       by_cases c7 : (rd l0 x5_1) = (rd l1 x5_1)
       ·rw [if_pos c7] at H
        have c7b0 : ((rd l0 x5_1) == (rd l1 x5_1)) = true := beq_iff_eq.mpr c7
        have c7b1 : ((rd l0 x5_1) != (rd l1 x5_1)) = false := bne_eq_false_iff_eq.mpr c7
        clear c7
        have H' := Aside0.mk H
        clear H
        have p101 : 0 ≤ (x5_1 : Int) := of_decide_eq_true (by first | (with_reducible assumption) | assumption)
        have q101 : x5_1 < (l0.length : Int) := of_decide_eq_true (by first | (with_reducible assumption) | assumption)
        obtain ⟨ad101, e101, hx101_0⟩ := Kd.at_int HR0.out x5_1 p101 q101
        cases e101
        replace p101 := eq_true p101
        replace q101 := eq_true q101
        have p102 : 0 ≤ (x5_1 : Int) := of_decide_eq_true (by first | (with_reducible assumption) | assumption)
        have q102 : x5_1 < (l1.length : Int) := of_decide_eq_true (by first | (with_reducible assumption) | assumption)
        obtain ⟨ad102, e102, hx102_0⟩ := Kd.at_int HR1.out x5_1 p102 q102
        cases e102
        replace p102 := eq_true p102
        replace q102 := eq_true q102
        go_wp2
        repeat (go_quiet (fail); try go_wp2)
        go_roundg k1
        case measure => have := HK1.out; omega
        case rel => exact ⟨(wrap64 (x5_1 + 1)), (by first | rfl | (simp; done) | (simp [*]; done)), H', ⟨by have := HK1.out; omega⟩, by repeat (first | exact Drawn0.refl _ | apply Drawn0.step)⟩
       ·rw [if_neg c7] at H
        have c7b0 : ((rd l0 x5_1) == (rd l1 x5_1)) = false := beq_eq_false_iff_ne.mpr c7
        have c7b1 : ((rd l0 x5_1) != (rd l1 x5_1)) = true := bne_iff_ne.mpr c7
        obtain rfl := Option.some.inj H
        have p101 : 0 ≤ (x5_1 : Int) := of_decide_eq_true (by first | (with_reducible assumption) | assumption)
        have q101 : x5_1 < (l0.length : Int) := of_decide_eq_true (by first | (with_reducible assumption) | assumption)
        obtain ⟨ad101, e101, hx101_0⟩ := Kd.at_int HR0.out x5_1 p101 q101
        cases e101
        replace p101 := eq_true p101
        replace q101 := eq_true q101
        have p102 : 0 ≤ (x5_1 : Int) := of_decide_eq_true (by first | (with_reducible assumption) | assumption)
        have q102 : x5_1 < (l1.length : Int) := of_decide_eq_true (by first | (with_reducible assumption) | assumption)
        obtain ⟨ad102, e102, hx102_0⟩ := Kd.at_int HR1.out x5_1 p102 q102
        cases e102
        replace p102 := eq_true p102
        replace q102 := eq_true q102
        go_wp2
        repeat (go_quiet (fail); try go_wp2)
        go_ret
        exact ⟨by first | rfl | (simp; done) | (simp [*]; done), by repeat (first | exact Drawn0.refl _ | apply Drawn0.step)⟩
      ·rw [if_neg c6] at H
       exact absurd H (by simp)
     ·rw [if_neg c5] at H
      exact absurd H (by simp)
    ·rw [if_neg c4] at H
     have c4b0 : decide (x5_1 < (l0.length : Int)) = false := decide_eq_false c4
     clear c4
     obtain rfl := Option.some.inj H
     go_wp2
     repeat (go_quiet (fail); try go_wp2)
     go_ret
     exact ⟨by first | rfl | (simp; done) | (simp [*]; done), by repeat (first | exact Drawn0.refl _ | apply Drawn0.step)⟩
 ·rw [if_neg c3] at H
  have c3b0 : ((l0.length : Int) == (l1.length : Int)) = false := beq_eq_false_iff_ne.mpr c3
  have c3b1 : ((l0.length : Int) != (l1.length : Int)) = true := bne_iff_ne.mpr c3
  have c3b2 : (l0.length == l1.length) = false := by first | simpa using c3 | (simp at c3 ⊢; omega)
  obtain rfl := Option.some.inj H
  go_enter Try.func36, Try.ntmps36
  go_wp2
  repeat (go_quiet (fail); try go_wp2)
  go_ret
  exact ⟨by first | rfl | (simp; done) | (simp [*]; done), by repeat (first | exact Drawn0.refl _ | apply Drawn0.step)⟩
end Go.Proofs.Ytgfadfahbhcllaa.Q
end
section
namespace Go.Proofs.Ytgfadfahbhcllaa.Q
open Go.RowKit Go.Proofs.YtgfadfahbhcllaaW.PrintWords Go.Proofs.YtgfadfahbhcllaaW.PrintLast Go.Proofs.Ytgfadfahbhcllaa.LK Go.Proofs.YtgfadfahbhcllaaW.PrintMore
attribute [local go_sem] max2_int min2_int max_two min_two max_three min_three max_four min_four
set_option linter.unusedVariables false
set_option linter.unusedSimpArgs false
mutual
def spec_DrawDecodeSnap.j0 : Nat → List Int → Int → Int → Int → List Int → Int → Int → Option (List Int)
 | 0, _, _, _, _, _, _, _ => none
 | k + 1, x4, x5, x6, x7, x105000, x105001, x105002 => if x5 = 1 then (if 0 ≤ x6 then (if x6 ≤ (x4.length : Int) then (spec_DrawDecodeSnap.j1 k (x4.take (x6 : Int).toNat) x5 x6 x7 x105000 x105001 x105002) else (none)) else (none)) else (spec_DrawDecodeSnap.j1 k x4 x5 x6 x7 x105000 x105001 x105002)
def spec_DrawDecodeSnap.j1 : Nat → List Int → Int → Int → Int → List Int → Int → Int → Option (List Int)
 | 0, _, _, _, _, _, _, _ => none
 | k + 1, x4, x5, x6, x7, x105000, x105001, x105002 => if x5 = 2 then (if 0 ≤ (Int.tmod x6 120) then (if (Int.tmod x6 120) < (x4.length : Int) then ((some (x4.set ((Int.tmod x6 120) : Int).toNat (Go.bits .xor .u8 (rd x4 (Int.tmod x6 120)) ((x7) % 256)) : List Int)).bind fun y133 => (if 120 ≤ (x4.length : Int) then ((spec_Crc32.f k (y133.take 120)).bind fun t144 => ((spec_l2Four.f t144).bind fun t145 => (if 124 ≤ (x4.length : Int) then ((spec_l2Cat.f k (([(y133.take 120), t145, (y133.drop 124)] : List (List Int)))).bind fun t156 => (spec_DrawDecodeSnap.j2 k t156 x5 x105000 x105001 x105002)) else (none)))) else (none))) else (none)) else (none)) else (spec_DrawDecodeSnap.j2 k x4 x5 x105000 x105001 x105002)
def spec_DrawDecodeSnap.j2 : Nat → List Int → Int → List Int → Int → Int → Option (List Int)
 | 0, _, _, _, _, _ => none
 | k + 1, x4, x5, x105000, x105001, x105002 => if x5 = 3 then (if 64 ≤ (x4.length : Int) then ((some (x4.take (64 : Int).toNat : List Int)).bind fun y159 => ((spec_l6DrawSnap.f k x105000 x105001 x105002).bind fun bt162 => ((spec_EncodeSnap.f k bt162.1 bt162.2.1 bt162.2.2.1 bt162.2.2.2.1).bind fun t172 => (if 64 ≤ (t172.length : Int) then ((some (t172.drop 64 : List Int)).bind fun y175 => (if y159.length + y175.length < 140737488355328 then (some (y159 ++ y175)) else (none))) else (none))))) else (none)) else (some x4)
end
def spec_DrawDecodeSnap.f (k : Nat) (l0 : List Int) : Option (List Int) := (spec_l1New.f k l0).bind fun bt101 => ((spec_l6DrawSnap.f k bt101.1 bt101.2.1 bt101.2.2).bind fun bt105 => ((spec_EncodeSnap.f k bt105.1 bt105.2.1 bt105.2.2.1 bt105.2.2.2.1).bind fun t115 => ((spec_l1Below.f bt101.1 bt105.2.2.2.2.1 bt105.2.2.2.2.2 7).bind fun bt118 => ((spec_l1Below.f bt101.1 bt118.2.1 bt118.2.2 128).bind fun bt121 => ((spec_l1Below.f bt101.1 bt121.2.1 bt121.2.2 255).bind fun bt124 => (if bt118.1 = 0 then (if 0 ≤ bt121.1 then (if bt121.1 < (t115.length : Int) then (spec_DrawDecodeSnap.j0 k (t115.set (bt121.1 : Int).toNat (Go.bits .xor .u8 (rd t115 bt121.1) ((wrap64 (1 + bt124.1)) % 256))) bt118.1 bt121.1 (wrap64 (1 + bt124.1)) bt101.1 bt124.2.1 bt124.2.2) else (none)) else (none)) else (spec_DrawDecodeSnap.j0 k t115 bt118.1 bt121.1 (wrap64 (1 + bt124.1)) bt101.1 bt124.2.1 bt124.2.2)))))))
def spec_DrawDecodeSnap.T13 : Bool × List (List Nat × List Nat) := (true, [([], []), ([0], [0]), ([], []), ([2], [2]), ([3], [3]), ([4, 4], [4]), ([], []), ([6], [6]), ([1, 5, 7], [1, 5, 7]), ([8, 5], [8]), ([9, 9, 0, 1, 2, 3, 4, 5, 6, 7, 8, 9], [0, 2, 6, 9])])
def spec_DrawDecodeSnap.B13 : List Nat := [0, 1, 0, 4, 12, 28, 0, 64, 255, 511, 1023]
theorem spec_DrawDecodeSnap.tab13 : rtab .any (opsOf Try.f37 13) = spec_DrawDecodeSnap.T13 := by kernel_rfl
theorem spec_DrawDecodeSnap.bits13 : waitsOk spec_DrawDecodeSnap.T13.2 spec_DrawDecodeSnap.B13 = true := by kernel_rfl
def spec_DrawDecodeSnap.T15 : Bool × List (List Nat × List Nat) := (true, [([], []), ([0], [0]), ([], []), ([2], [2]), ([3, 3], [3]), ([4], [4]), ([1, 5, 4], [1, 5]), ([6, 6, 0, 1, 2, 3, 4, 5, 6], [0, 6])])
def spec_DrawDecodeSnap.B15 : List Nat := [0, 1, 0, 4, 12, 28, 63, 127]
theorem spec_DrawDecodeSnap.tab15 : rtab .any (opsOf Try.f37 15) = spec_DrawDecodeSnap.T15 := by kernel_rfl
theorem spec_DrawDecodeSnap.bits15 : waitsOk spec_DrawDecodeSnap.T15.2 spec_DrawDecodeSnap.B15 = true := by kernel_rfl
set_option maxHeartbeats 8000000 in
set_option maxRecDepth 100000 in
theorem spec_DrawDecodeSnap.calls (k : Nat) (A0 : Option Addr) (c0 : Nat) (l0 : List Int) (r : List Int) (w : World) (hr0 : Kd.C (Kd.int .u8) w A0 l0.length l0) (hc0 : l0.length ≤ c0) (h : spec_DrawDecodeSnap.f k l0 = some r) :
  Calls Try.prog 37 #[.slice A0 l0.length c0] w fun e w' => ∃ v0_ : Value, e = .returned (v0_) ∧ Kd.R (Kd.int .u8) 5 w' w.heap.size (fun _ => True) v0_ r ∧ Below w.heap.size w w' := by
 have HR0 := Aside0.mk hr0
 have HC0 := Aside0.mk hc0
 clear hr0 hc0
 have HB := Aside0.mk (Below.refl w.heap.size w)
 have H : ((spec_l1New.f k l0).bind fun bt101 => ((spec_l6DrawSnap.f k bt101.1 bt101.2.1 bt101.2.2).bind fun bt105 => ((spec_EncodeSnap.f k bt105.1 bt105.2.1 bt105.2.2.1 bt105.2.2.2.1).bind fun t115 => ((spec_l1Below.f bt101.1 bt105.2.2.2.2.1 bt105.2.2.2.2.2 7).bind fun bt118 => ((spec_l1Below.f bt101.1 bt118.2.1 bt118.2.2 128).bind fun bt121 => ((spec_l1Below.f bt101.1 bt121.2.1 bt121.2.2 255).bind fun bt124 => (if bt118.1 = 0 then (if 0 ≤ bt121.1 then (if bt121.1 < (t115.length : Int) then (spec_DrawDecodeSnap.j0 k (t115.set (bt121.1 : Int).toNat (Go.bits .xor .u8 (rd t115 bt121.1) ((wrap64 (1 + bt124.1)) % 256))) bt118.1 bt121.1 (wrap64 (1 + bt124.1)) bt101.1 bt124.2.1 bt124.2.2) else (none)) else (none)) else (spec_DrawDecodeSnap.j0 k t115 bt118.1 bt121.1 (wrap64 (1 + bt124.1)) bt101.1 bt124.2.1 bt124.2.2)))))))) = some r := h
 clear h
 replace H := Option.bind_eq_some_iff.mp H
 obtain ⟨⟨t101, t102, t103⟩, A20, H⟩ := H
 replace H : ((spec_l6DrawSnap.f k t101 t102 t103).bind fun bt105 => ((spec_EncodeSnap.f k bt105.1 bt105.2.1 bt105.2.2.1 bt105.2.2.2.1).bind fun t115 => ((spec_l1Below.f t101 bt105.2.2.2.2.1 bt105.2.2.2.2.2 7).bind fun bt118 => ((spec_l1Below.f t101 bt118.2.1 bt118.2.2 128).bind fun bt121 => ((spec_l1Below.f t101 bt121.2.1 bt121.2.2 255).bind fun bt124 => (if bt118.1 = 0 then (if 0 ≤ bt121.1 then (if bt121.1 < (t115.length : Int) then (spec_DrawDecodeSnap.j0 k (t115.set (bt121.1 : Int).toNat (Go.bits .xor .u8 (rd t115 bt121.1) ((wrap64 (1 + bt124.1)) % 256))) bt118.1 bt121.1 (wrap64 (1 + bt124.1)) t101 bt124.2.1 bt124.2.2) else (none)) else (none)) else (spec_DrawDecodeSnap.j0 k t115 bt118.1 bt121.1 (wrap64 (1 + bt124.1)) t101 bt124.2.1 bt124.2.2))))))) = some r := H
 have A2 := Aside0.mk A20
 clear A20
 replace H := Option.bind_eq_some_iff.mp H
 obtain ⟨⟨t105, t106, t107, t110, t113, t114⟩, A30, H⟩ := H
 replace H : ((spec_EncodeSnap.f k t105 t106 t107 t110).bind fun t115 => ((spec_l1Below.f t101 t113 t114 7).bind fun bt118 => ((spec_l1Below.f t101 bt118.2.1 bt118.2.2 128).bind fun bt121 => ((spec_l1Below.f t101 bt121.2.1 bt121.2.2 255).bind fun bt124 => (if bt118.1 = 0 then (if 0 ≤ bt121.1 then (if bt121.1 < (t115.length : Int) then (spec_DrawDecodeSnap.j0 k (t115.set (bt121.1 : Int).toNat (Go.bits .xor .u8 (rd t115 bt121.1) ((wrap64 (1 + bt124.1)) % 256))) bt118.1 bt121.1 (wrap64 (1 + bt124.1)) t101 bt124.2.1 bt124.2.2) else (none)) else (none)) else (spec_DrawDecodeSnap.j0 k t115 bt118.1 bt121.1 (wrap64 (1 + bt124.1)) t101 bt124.2.1 bt124.2.2)))))) = some r := H
 have A3 := Aside0.mk A30
 clear A30
 replace H := Option.bind_eq_some_iff.mp H
 obtain ⟨t115, A40, H⟩ := H
 replace H : ((spec_l1Below.f t101 t113 t114 7).bind fun bt118 => ((spec_l1Below.f t101 bt118.2.1 bt118.2.2 128).bind fun bt121 => ((spec_l1Below.f t101 bt121.2.1 bt121.2.2 255).bind fun bt124 => (if bt118.1 = 0 then (if 0 ≤ bt121.1 then (if bt121.1 < (t115.length : Int) then (spec_DrawDecodeSnap.j0 k (t115.set (bt121.1 : Int).toNat (Go.bits .xor .u8 (rd t115 bt121.1) ((wrap64 (1 + bt124.1)) % 256))) bt118.1 bt121.1 (wrap64 (1 + bt124.1)) t101 bt124.2.1 bt124.2.2) else (none)) else (none)) else (spec_DrawDecodeSnap.j0 k t115 bt118.1 bt121.1 (wrap64 (1 + bt124.1)) t101 bt124.2.1 bt124.2.2))))) = some r := H
 have A4 := Aside0.mk A40
 clear A40
 replace H := Option.bind_eq_some_iff.mp H
 obtain ⟨⟨t118, t119, t120⟩, A50, H⟩ := H
 replace H : ((spec_l1Below.f t101 t119 t120 128).bind fun bt121 => ((spec_l1Below.f t101 bt121.2.1 bt121.2.2 255).bind fun bt124 => (if t118 = 0 then (if 0 ≤ bt121.1 then (if bt121.1 < (t115.length : Int) then (spec_DrawDecodeSnap.j0 k (t115.set (bt121.1 : Int).toNat (Go.bits .xor .u8 (rd t115 bt121.1) ((wrap64 (1 + bt124.1)) % 256))) t118 bt121.1 (wrap64 (1 + bt124.1)) t101 bt124.2.1 bt124.2.2) else (none)) else (none)) else (spec_DrawDecodeSnap.j0 k t115 t118 bt121.1 (wrap64 (1 + bt124.1)) t101 bt124.2.1 bt124.2.2)))) = some r := H
 have A5 := Aside0.mk A50
 clear A50
 replace H := Option.bind_eq_some_iff.mp H
 obtain ⟨⟨t121, t122, t123⟩, A60, H⟩ := H
 replace H : ((spec_l1Below.f t101 t122 t123 255).bind fun bt124 => (if t118 = 0 then (if 0 ≤ t121 then (if t121 < (t115.length : Int) then (spec_DrawDecodeSnap.j0 k (t115.set (t121 : Int).toNat (Go.bits .xor .u8 (rd t115 t121) ((wrap64 (1 + bt124.1)) % 256))) t118 t121 (wrap64 (1 + bt124.1)) t101 bt124.2.1 bt124.2.2) else (none)) else (none)) else (spec_DrawDecodeSnap.j0 k t115 t118 t121 (wrap64 (1 + bt124.1)) t101 bt124.2.1 bt124.2.2))) = some r := H
 have A6 := Aside0.mk A60
 clear A60
 replace H := Option.bind_eq_some_iff.mp H
 obtain ⟨⟨t124, t125, t126⟩, A70, H⟩ := H
 replace H : (if t118 = 0 then (if 0 ≤ t121 then (if t121 < (t115.length : Int) then (spec_DrawDecodeSnap.j0 k (t115.set (t121 : Int).toNat (Go.bits .xor .u8 (rd t115 t121) ((wrap64 (1 + t124)) % 256))) t118 t121 (wrap64 (1 + t124)) t101 t125 t126) else (none)) else (none)) else (spec_DrawDecodeSnap.j0 k t115 t118 t121 (wrap64 (1 + t124)) t101 t125 t126)) = some r := H
 have A7 := Aside0.mk A70
 clear A70
 have HC8 := Aside0.mk H
 clear H
 go_enter Try.func37, Try.ntmps37
 go_upto_if 22 with (first | ((with_reducible refine gate_callee (f := 57) rfl ?_); refine goesL_ (some 10) rfl rfl Try.func57 (by kernel_rfl) rfl #[.slice A0 l0.length c0] rfl (by (try simp only [List.map_toArray, List.map_cons, List.map_nil]); first | done | rfl | (simp only [List.length_drop, List.length_take]; rfl)) ?_; (with_reducible refine (spec_l1New.calls k _ _ l0 t101 t102 t103 w _ ?side1 ?side2 ?side3 A2.out).mono ?_); (case side1 => repeat (first | (with_reducible first | exact HB.out | apply below_alloc | apply pw_below_drewN | apply below_drew1) | exact HB.out)); (case side2 => exact HR0.out); (case side3 => exact HC0.out); rintro e w9 ⟨g104, rfl, hi, hb, hb2⟩; refine ⟨_, rfl, ?_⟩; have n0_ := Aside0.mk (hb); have n1_ := Aside0.mk (hi); clear HB; have HB := n0_; have HI104 := n1_; clear n0_ n1_; (try clear hb); (try clear hb2); (try clear hk); (try clear hi)) | ((with_reducible refine gate_callee (f := 73) rfl ?_); refine goesL_ (some 12) rfl rfl Try.func73 (by kernel_rfl) rfl #[.pointer (some ⟨g104, 0, none⟩)] rfl (by (try simp only [List.map_toArray, List.map_cons, List.map_nil]); first | done | rfl | (simp only [List.length_drop, List.length_take]; rfl)) ?_; (with_reducible refine (spec_l6DrawSnap.calls k g104 t101 t102 t103 t105 t106 t107 t110 t113 t114 w _ ?side1 ?side2 A3.out).mono ?_); (case side1 => repeat (first | (with_reducible first | exact HI104.out | apply IsS121.alloc | apply IsS121.drewN | apply IsS121.drew | apply IsS121.set_1 | apply IsS121.set_2) | exact HI104.out)); (case side2 => repeat (first | (with_reducible first | exact HB.out | apply below_alloc | apply pw_below_drewN | apply below_drew1 | refine below_set ?_ (IsS121.ge HI104.out)) | exact HB.out)); rintro e w10 ⟨v108, v111, rfl, ho0, ho1, hi, hb, hk⟩; refine ⟨_, rfl, ?_⟩; have n0_ := Aside0.mk (Kd.R_lower ho0 (below_size (by repeat (first | (with_reducible first | exact HB.out | apply below_alloc | apply pw_below_drewN | apply below_drew1 | refine below_set ?_ (IsS121.ge HI104.out)) | exact HB.out)))); have n1_ := Aside0.mk (Kd.R_lower ho1 (below_size (by repeat (first | (with_reducible first | exact HB.out | apply below_alloc | apply pw_below_drewN | apply below_drew1 | refine below_set ?_ (IsS121.ge HI104.out)) | exact HB.out)))); have n2_ := Aside0.mk (hb); have n3_ := Aside0.mk (hi); clear HB; clear HI104; have HO109 := n0_; have HO112 := n1_; have HB := n2_; have HI104 := n3_; clear n0_ n1_ n2_ n3_; (try clear hb); (try clear hb2); (try clear hk); (try clear hi); (try clear ho0); (try clear ho1); obtain ⟨Ao11, co11, eo11⟩ := Kd.R_slice HO109.out; subst eo11; obtain ⟨Ao12, co12, eo12⟩ := Kd.R_slice HO112.out; subst eo12) | ((with_reducible refine gate_callee (f := 25) rfl ?_); refine goesL_ (some 13) rfl rfl Try.func25 (by kernel_rfl) rfl #[.agg #[.int .u32 t105, .int .u32 t106, .slice Ao11 t107.length co11, .slice Ao12 t110.length co12]] rfl (by (try simp only [List.map_toArray, List.map_cons, List.map_nil]); first | done | rfl | (simp only [List.length_drop, List.length_take]; rfl)) ?_; (with_reducible refine (spec_EncodeSnap.calls k t105 t106 _ _ t107 _ _ t110 t115 _ ?side1 ?side2 ?side3 ?side4 A4.out).mono ?_); (case side1 => repeat (first | exact (Kd.R_reads' HO109.out).2.2 | (with_reducible refine Kd.C_alloc ?_ _) | (with_reducible refine Kd.C_drewN ?_ _) | (with_reducible refine Kd.C_drew ?_))); (case side2 => exact (Kd.R_reads' HO109.out).2.1); (case side3 => repeat (first | exact (Kd.R_reads' HO112.out).2.2 | (with_reducible refine Kd.C_alloc ?_ _) | (with_reducible refine Kd.C_drewN ?_ _) | (with_reducible refine Kd.C_drew ?_))); (case side4 => exact (Kd.R_reads' HO112.out).2.1); rintro e w13 ⟨v116, rfl, ho0, hb⟩; refine ⟨_, rfl, ?_⟩; have n0_ := Aside0.mk (Kd.R_below (by (with_reducible repeat (first | apply Kd.R_alloc | apply Kd.R_drewN | apply Kd.R_drew)); exact HO109.out) hb); have n1_ := Aside0.mk (Kd.R_below (by (with_reducible repeat (first | apply Kd.R_alloc | apply Kd.R_drewN | apply Kd.R_drew)); exact HO112.out) hb); have n2_ := Aside0.mk (Kd.R_lower ho0 (below_size (by repeat (first | (with_reducible first | exact HB.out | apply below_alloc | apply pw_below_drewN | apply below_drew1 | refine below_set ?_ (IsS121.ge HI104.out)) | exact HB.out)))); have n3_ := Aside0.mk (IsS121.below (by repeat (first | (with_reducible first | exact HI104.out | apply IsS121.alloc | apply IsS121.drewN | apply IsS121.drew | apply IsS121.set_1 | apply IsS121.set_2) | exact HI104.out)) hb); have n4_ := Aside0.mk (below_step (by repeat (first | (with_reducible first | exact HB.out | apply below_alloc | apply pw_below_drewN | apply below_drew1 | refine below_set ?_ (IsS121.ge HI104.out)) | exact HB.out)) hb); clear HO109; clear HO112; clear HI104; clear HB; have HO109 := n0_; have HO112 := n1_; have HO117 := n2_; have HI104 := n3_; have HB := n4_; clear n0_ n1_ n2_ n3_ n4_; (try clear hb); (try clear hb2); (try clear hk); (try clear hi); (try clear ho0)) | ((with_reducible refine gate_callee (f := 60) rfl ?_); refine goesL_ (some 15) rfl rfl Try.func60 (by kernel_rfl) rfl #[.pointer (some ⟨g104, 0, none⟩), .int .i64 7] rfl (by (try simp only [List.map_toArray, List.map_cons, List.map_nil]); first | done | rfl | (simp only [List.length_drop, List.length_take]; rfl)) ?_; (with_reducible refine (spec_l1Below.calls g104 t101 t113 t114 7 t118 t119 t120 w _ ?side1 ?side2 A5.out).mono ?_); (case side1 => repeat (first | (with_reducible first | exact HI104.out | apply IsS121.alloc | apply IsS121.drewN | apply IsS121.drew | apply IsS121.set_1 | apply IsS121.set_2) | exact HI104.out)); (case side2 => repeat (first | (with_reducible first | exact HB.out | apply below_alloc | apply pw_below_drewN | apply below_drew1 | refine below_set ?_ (IsS121.ge HI104.out)) | exact HB.out)); rintro e w14 ⟨rfl, hi, hb, hk⟩; refine ⟨_, rfl, ?_⟩; have n0_ := Aside0.mk (Kd.R_mono (Kd.R_keep (IsS121.apart (show IsS121 w _ g104 t101 t113 t114 from by repeat (first | (with_reducible first | exact HI104.out | apply IsS121.alloc | apply IsS121.drewN | apply IsS121.drew | apply IsS121.set_1 | apply IsS121.set_2) | exact HI104.out)) (by (with_reducible repeat (first | apply Kd.R_alloc | apply Kd.R_drewN | apply Kd.R_drew)); exact HO109.out) (by decide)) hk (fun _ h => h.2)) (fun _ h => h.1)); have n1_ := Aside0.mk (Kd.R_mono (Kd.R_keep (IsS121.apart (show IsS121 w _ g104 t101 t113 t114 from by repeat (first | (with_reducible first | exact HI104.out | apply IsS121.alloc | apply IsS121.drewN | apply IsS121.drew | apply IsS121.set_1 | apply IsS121.set_2) | exact HI104.out)) (by (with_reducible repeat (first | apply Kd.R_alloc | apply Kd.R_drewN | apply Kd.R_drew)); exact HO112.out) (by decide)) hk (fun _ h => h.2)) (fun _ h => h.1)); have n2_ := Aside0.mk (Kd.R_mono (Kd.R_keep (IsS121.apart (show IsS121 w _ g104 t101 t113 t114 from by repeat (first | (with_reducible first | exact HI104.out | apply IsS121.alloc | apply IsS121.drewN | apply IsS121.drew | apply IsS121.set_1 | apply IsS121.set_2) | exact HI104.out)) (by (with_reducible repeat (first | apply Kd.R_alloc | apply Kd.R_drewN | apply Kd.R_drew)); exact HO117.out) (by decide)) hk (fun _ h => h.2)) (fun _ h => h.1)); have n3_ := Aside0.mk (hb); have n4_ := Aside0.mk (hi); clear HO109; clear HO112; clear HO117; clear HB; clear HI104; have HO109 := n0_; have HO112 := n1_; have HO117 := n2_; have HB := n3_; have HI104 := n4_; clear n0_ n1_ n2_ n3_ n4_; (try clear hb); (try clear hb2); (try clear hk); (try clear hi)) | ((with_reducible refine gate_callee (f := 60) rfl ?_); refine goesL_ (some 17) rfl rfl Try.func60 (by kernel_rfl) rfl #[.pointer (some ⟨g104, 0, none⟩), .int .i64 128] rfl (by (try simp only [List.map_toArray, List.map_cons, List.map_nil]); first | done | rfl | (simp only [List.length_drop, List.length_take]; rfl)) ?_; (with_reducible refine (spec_l1Below.calls g104 t101 t119 t120 128 t121 t122 t123 w _ ?side1 ?side2 A6.out).mono ?_); (case side1 => repeat (first | (with_reducible first | exact HI104.out | apply IsS121.alloc | apply IsS121.drewN | apply IsS121.drew | apply IsS121.set_1 | apply IsS121.set_2) | exact HI104.out)); (case side2 => repeat (first | (with_reducible first | exact HB.out | apply below_alloc | apply pw_below_drewN | apply below_drew1 | refine below_set ?_ (IsS121.ge HI104.out)) | exact HB.out)); rintro e w15 ⟨rfl, hi, hb, hk⟩; refine ⟨_, rfl, ?_⟩; have n0_ := Aside0.mk (Kd.R_mono (Kd.R_keep (IsS121.apart (show IsS121 w _ g104 t101 t119 t120 from by repeat (first | (with_reducible first | exact HI104.out | apply IsS121.alloc | apply IsS121.drewN | apply IsS121.drew | apply IsS121.set_1 | apply IsS121.set_2) | exact HI104.out)) (by (with_reducible repeat (first | apply Kd.R_alloc | apply Kd.R_drewN | apply Kd.R_drew)); exact HO109.out) (by decide)) hk (fun _ h => h.2)) (fun _ h => h.1)); have n1_ := Aside0.mk (Kd.R_mono (Kd.R_keep (IsS121.apart (show IsS121 w _ g104 t101 t119 t120 from by repeat (first | (with_reducible first | exact HI104.out | apply IsS121.alloc | apply IsS121.drewN | apply IsS121.drew | apply IsS121.set_1 | apply IsS121.set_2) | exact HI104.out)) (by (with_reducible repeat (first | apply Kd.R_alloc | apply Kd.R_drewN | apply Kd.R_drew)); exact HO112.out) (by decide)) hk (fun _ h => h.2)) (fun _ h => h.1)); have n2_ := Aside0.mk (Kd.R_mono (Kd.R_keep (IsS121.apart (show IsS121 w _ g104 t101 t119 t120 from by repeat (first | (with_reducible first | exact HI104.out | apply IsS121.alloc | apply IsS121.drewN | apply IsS121.drew | apply IsS121.set_1 | apply IsS121.set_2) | exact HI104.out)) (by (with_reducible repeat (first | apply Kd.R_alloc | apply Kd.R_drewN | apply Kd.R_drew)); exact HO117.out) (by decide)) hk (fun _ h => h.2)) (fun _ h => h.1)); have n3_ := Aside0.mk (hb); have n4_ := Aside0.mk (hi); clear HO109; clear HO112; clear HO117; clear HB; clear HI104; have HO109 := n0_; have HO112 := n1_; have HO117 := n2_; have HB := n3_; have HI104 := n4_; clear n0_ n1_ n2_ n3_ n4_; (try clear hb); (try clear hb2); (try clear hk); (try clear hi)) | ((with_reducible refine gate_callee (f := 60) rfl ?_); refine goesL_ (some 19) rfl rfl Try.func60 (by kernel_rfl) rfl #[.pointer (some ⟨g104, 0, none⟩), .int .i64 255] rfl (by (try simp only [List.map_toArray, List.map_cons, List.map_nil]); first | done | rfl | (simp only [List.length_drop, List.length_take]; rfl)) ?_; (with_reducible refine (spec_l1Below.calls g104 t101 t122 t123 255 t124 t125 t126 w _ ?side1 ?side2 A7.out).mono ?_); (case side1 => repeat (first | (with_reducible first | exact HI104.out | apply IsS121.alloc | apply IsS121.drewN | apply IsS121.drew | apply IsS121.set_1 | apply IsS121.set_2) | exact HI104.out)); (case side2 => repeat (first | (with_reducible first | exact HB.out | apply below_alloc | apply pw_below_drewN | apply below_drew1 | refine below_set ?_ (IsS121.ge HI104.out)) | exact HB.out)); rintro e w16 ⟨rfl, hi, hb, hk⟩; refine ⟨_, rfl, ?_⟩; have n0_ := Aside0.mk (Kd.R_mono (Kd.R_keep (IsS121.apart (show IsS121 w _ g104 t101 t122 t123 from by repeat (first | (with_reducible first | exact HI104.out | apply IsS121.alloc | apply IsS121.drewN | apply IsS121.drew | apply IsS121.set_1 | apply IsS121.set_2) | exact HI104.out)) (by (with_reducible repeat (first | apply Kd.R_alloc | apply Kd.R_drewN | apply Kd.R_drew)); exact HO109.out) (by decide)) hk (fun _ h => h.2)) (fun _ h => h.1)); have n1_ := Aside0.mk (Kd.R_mono (Kd.R_keep (IsS121.apart (show IsS121 w _ g104 t101 t122 t123 from by repeat (first | (with_reducible first | exact HI104.out | apply IsS121.alloc | apply IsS121.drewN | apply IsS121.drew | apply IsS121.set_1 | apply IsS121.set_2) | exact HI104.out)) (by (with_reducible repeat (first | apply Kd.R_alloc | apply Kd.R_drewN | apply Kd.R_drew)); exact HO112.out) (by decide)) hk (fun _ h => h.2)) (fun _ h => h.1)); have n2_ := Aside0.mk (Kd.R_mono (Kd.R_keep (IsS121.apart (show IsS121 w _ g104 t101 t122 t123 from by repeat (first | (with_reducible first | exact HI104.out | apply IsS121.alloc | apply IsS121.drewN | apply IsS121.drew | apply IsS121.set_1 | apply IsS121.set_2) | exact HI104.out)) (by (with_reducible repeat (first | apply Kd.R_alloc | apply Kd.R_drewN | apply Kd.R_drew)); exact HO117.out) (by decide)) hk (fun _ h => h.2)) (fun _ h => h.1)); have n3_ := Aside0.mk (hb); have n4_ := Aside0.mk (hi); clear HO109; clear HO112; clear HO117; clear HB; clear HI104; have HO109 := n0_; have HO112 := n1_; have HO117 := n2_; have HB := n3_; have HI104 := n4_; clear n0_ n1_ n2_ n3_ n4_; (try clear hb); (try clear hb2); (try clear hk); (try clear hi)))
 (try simp only [Act.put, List.setIfInBounds_toArray, List.set_cons_zero, List.set_cons_succ])
 go_cut [] (fun wc => ∃ (kq : Nat) (x4_7 : List Int), Aside0 (spec_DrawDecodeSnap.j0 kq x4_7 t118 t121 (wrap64 (1 + t124)) t101 t125 t126 = some r) ∧ Aside0 (kq ≤ k) ∧ Aside0 (Kd.R (Kd.int .u8) 5 wc w.heap.size (fun _ => True) v116 x4_7) ∧ Aside0 (IsS121 w wc g104 t101 t125 t126) ∧ Aside0 (Below w.heap.size w wc))
 case first =>
  have H := HC8.out
  clear HC8
  by_cases c17 : t118 = 0
  ·rw [if_pos c17] at H
   have c17b0 : (t118 == 0) = true := beq_iff_eq.mpr c17
   have c17b1 : (t118 != 0) = false := bne_eq_false_iff_eq.mpr c17
   clear c17
   (first | rw [c17b0] | (simp only [i64_w, i32_w]; rw [c17b0]) | skip)
   by_cases c18 : 0 ≤ t121
   ·rw [if_pos c18] at H
    have c18b0 : decide (0 ≤ t121) = true := decide_eq_true c18
    clear c18
    by_cases c19 : t121 < (t115.length : Int)
    ·rw [if_pos c19] at H
     have c19b0 : decide (t121 < (t115.length : Int)) = true := decide_eq_true c19
     clear c19
     obtain ⟨y128, hy128⟩ : ∃ y_ : List Int, y_ = (t115.set (t121 : Int).toNat (Go.bits .xor .u8 (rd t115 t121) ((wrap64 (1 + t124)) % 256))) := ⟨_, rfl⟩
     replace H : (spec_DrawDecodeSnap.j0 k y128 t118 t121 (wrap64 (1 + t124)) t101 t125 t126) = some r := by first | (rw [hy128]; with_reducible exact H) | (have H2_ := (Option.bind_some _ _).symm.trans H; rw [hy128]; with_reducible exact H2_) | (have H2_ := (Option.bind_some _ _).symm.trans H; with_reducible exact H2_) | with_reducible exact H | (rw [hy128]; exact H) | exact H
     have Ny128 := Aside0.mk hy128
     clear hy128
     have H' := Aside0.mk H
     clear H
     obtain ⟨Ao21, co21, eo21⟩ := Kd.R_slice HO117.out
     subst eo21
     have p127 : 0 ≤ (t121 : Int) := of_decide_eq_true (by first | (with_reducible assumption) | assumption)
     have q127 : t121 < (t115.length : Int) := of_decide_eq_true (by first | (with_reducible assumption) | assumption)
     obtain ⟨ad127, e127, hx127_0⟩ := Kd.at_int (Kd.R_reads' HO117.out).2.2 t121 p127 q127
     cases e127
     replace p127 := eq_true p127
     replace q127 := eq_true q127
     have p20 : 0 ≤ (t121 : Int) := of_decide_eq_true (by first | (with_reducible assumption) | assumption)
     have q20 : (t121 : Int) < ((t115.length : Int) : Int) := of_decide_eq_true (by first | (with_reducible assumption) | assumption)
     obtain ⟨go20, co20, eo20, gb20, gl20, cl20, HG20⟩ := Kd.R_form HO117.out (by omega)
     (first | cases eo20 | (injection eo20 with ea_ en_ ec_; (first | subst ea_ | (injection ea_ with ea_; subst ea_)); subst ec_; clear en_))
     have GB20 := Aside0.mk gb20
     have GG20 := Aside0.mk HG20
     clear gb20 gl20 HG20
     (first | simp only [add_plain] at hx127_0 | skip)
     obtain ⟨hx20_0, hf20_0⟩ := Kd.R_celln 0 HO117.out (t121 : Int) p20 q20
     replace p20 := eq_true p20
     replace q20 := eq_true q20
     have HP22 := Kd.R_putg HO117.out (t121 : Int) (Go.bits .xor .u8 (rd t115 t121) ((wrap64 (1 + t124)) % 256))
     go_wp2_with (first | ((with_reducible refine gate_store (t := 5) (p := 32) rfl ?_); refine store_event (t := 5) (p := 32) (v := ?vo_w23) (w1 := (w16.setCell ⟨go20, (t121 : Int).toNat, none⟩ (.int .u8 (Go.bits .xor .u8 (rd t115 t121) ((wrap64 (1 + t124)) % 256))))) ?hg ?ho ?hn ?hr ?_; (case ho => rfl); (case hg => rfl); (case hn => rfl); (case hr => first | (go_simp; done) | (go_simp; rfl)); intro w23 hw; have hg : w16.grownBy w23 (some go20) := (by rw [hw]; exact HP22.2); have hp_ : Kd.R (Kd.int .u8) 5 w23 w.heap.size (fun _ => True) (.slice (some ⟨go20, 0, none⟩) t115.length co21) y128 := (by rw [hw, Ny128.out]; exact HP22.1); clear HP22; have n0_ := Aside0.mk (IsS121.grown (by repeat (first | (with_reducible first | exact HI104.out | apply IsS121.alloc | apply IsS121.drewN | apply IsS121.drew | apply IsS121.set_1 | apply IsS121.set_2) | exact HI104.out)) hg (IsS121.own_ne HI104.out HO117.out (by decide))); have n1_ := Aside0.mk (Kd.R_over' (v := (.slice (some ⟨go20, 0, none⟩) t115.length co21)) (by (with_reducible repeat (first | apply Kd.R_alloc | apply Kd.R_drewN | apply Kd.R_drew)); exact HO109.out) (Kd.R_typed HO117.out) (by decide) hg); have n2_ := Aside0.mk (Kd.R_over' (v := (.slice (some ⟨go20, 0, none⟩) t115.length co21)) (by (with_reducible repeat (first | apply Kd.R_alloc | apply Kd.R_drewN | apply Kd.R_drew)); exact HO112.out) (Kd.R_typed HO117.out) (by decide) hg); have n3_ := Aside0.mk (hp_); have n4_ := Aside0.mk ((by rw [hw]; exact below_set (HB.out) GB20.out : Below w.heap.size w w23)); clear HI104; clear HO109; clear HO112; clear HO117; clear HB; have HI104 := n0_; have HO109 := n1_; have HO112 := n2_; have HO117 := n3_; have HB := n4_; clear n0_ n1_ n2_ n3_ n4_; clear hg hw hp_))
     go_meet
     case rel => exact ⟨_, (y128), H', ⟨by first | omega | exact Nat.le_refl _⟩, ⟨by (with_reducible repeat (first | apply Kd.R_alloc | apply Kd.R_drewN | apply Kd.R_drew)); exact HO117.out⟩, ⟨by repeat (first | (with_reducible first | exact HI104.out | apply IsS121.alloc | apply IsS121.drewN | apply IsS121.drew | apply IsS121.set_1 | apply IsS121.set_2) | exact HI104.out)⟩, ⟨by repeat (first | (with_reducible first | exact HB.out | apply below_alloc | apply pw_below_drewN | apply below_drew1 | refine below_set ?_ (IsS121.ge HI104.out)) | exact HB.out)⟩⟩
    ·rw [if_neg c19] at H
     exact absurd H (by simp)
   ·rw [if_neg c18] at H
    exact absurd H (by simp)
  ·rw [if_neg c17] at H
   have c17b0 : (t118 == 0) = false := beq_eq_false_iff_ne.mpr c17
   have c17b1 : (t118 != 0) = true := bne_iff_ne.mpr c17
   (first | rw [c17b0] | (simp only [i64_w, i32_w]; rw [c17b0]) | skip)
   have H' := Aside0.mk H
   clear H
   go_wp2
   go_meet
   case rel => exact ⟨_, (t115), H', ⟨by first | omega | exact Nat.le_refl _⟩, ⟨by (with_reducible repeat (first | apply Kd.R_alloc | apply Kd.R_drewN | apply Kd.R_drew)); exact HO117.out⟩, ⟨by repeat (first | (with_reducible first | exact HI104.out | apply IsS121.alloc | apply IsS121.drewN | apply IsS121.drew | apply IsS121.set_1 | apply IsS121.set_2) | exact HI104.out)⟩, ⟨by repeat (first | (with_reducible first | exact HB.out | apply below_alloc | apply pw_below_drewN | apply below_drew1 | refine below_set ?_ (IsS121.ge HI104.out)) | exact HB.out)⟩⟩
 case rest =>
  clear HC8
  try clear c1
  try clear p1
  try clear q1
  try clear hx1
  try clear c2
  try clear p2
  try clear q2
  try clear hx2
  try clear hf2
  try clear c3
  try clear c5
  try clear c6
  try clear p6
  try clear c7
  try clear p12
  try clear q12
  try clear hx12
  try clear c17
  try clear c17b0
  try clear c17b1
  try clear c18
  try clear c18b0
  try clear c19
  try clear c19b0
  try clear p20
  try clear q20
  try clear hx20
  try clear hf20
  try clear hx127_0
  try clear hx20_0
  try clear p127
  try clear p20
  try clear q127
  try clear q20
  obtain ⟨kq, x4_7, HA, HJ7, HO_4, HI104, HB⟩ := hcut
  cases kq with
  | zero => exact absurd HA.out (by simp [spec_DrawDecodeSnap.j0])
  | succ kj7 =>
   have H := HA.out
   clear HA
   simp only [spec_DrawDecodeSnap.j0] at H
   have HC24 := Aside0.mk H
   clear H
   go_upto_if 34 with (fail)
   go_cut [4] (fun v4 wc => ∃ (kq : Nat) (x4_23 : List Int), Aside0 (spec_DrawDecodeSnap.j1 kq x4_23 t118 t121 (wrap64 (1 + t124)) t101 t125 t126 = some r) ∧ Aside0 (kq ≤ kj7) ∧ Aside0 (Kd.R (Kd.int .u8) 5 wc w.heap.size (fun _ => True) v4 x4_23) ∧ Aside0 (IsS121 w wc g104 t101 t125 t126) ∧ Aside0 (Below w.heap.size w wc))
   case first =>
    have H := HC24.out
    clear HC24
    by_cases c25 : t118 = 1
    ·rw [if_pos c25] at H
     have c25b0 : (t118 == 1) = true := beq_iff_eq.mpr c25
     have c25b1 : (t118 != 1) = false := bne_eq_false_iff_eq.mpr c25
     clear c25
     (first | rw [c25b0] | (simp only [i64_w, i32_w]; rw [c25b0]) | skip)
     by_cases c26 : 0 ≤ t121
     ·rw [if_pos c26] at H
      have c26b0 := eq_true c26
      have c26b1 : decide (0 ≤ t121) = true := decide_eq_true c26
      clear c26
      by_cases c27 : t121 ≤ (x4_7.length : Int)
      ·rw [if_pos c27] at H
       have c27b0 := eq_true c27
       have c27b1 : decide (t121 ≤ (x4_7.length : Int)) = true := decide_eq_true c27
       clear c27
       obtain ⟨y129, hy129⟩ : ∃ y_ : List Int, y_ = (x4_7.take (t121 : Int).toNat) := ⟨_, rfl⟩
       replace H : (spec_DrawDecodeSnap.j1 kj7 y129 t118 t121 (wrap64 (1 + t124)) t101 t125 t126) = some r := by first | (rw [hy129]; with_reducible exact H) | (have H2_ := (Option.bind_some _ _).symm.trans H; rw [hy129]; with_reducible exact H2_) | (have H2_ := (Option.bind_some _ _).symm.trans H; with_reducible exact H2_) | with_reducible exact H | (rw [hy129]; exact H) | exact H
       have Ny129 := Aside0.mk hy129
       clear hy129
       have H' := Aside0.mk H
       clear H
       obtain ⟨Ao28, co28, eo28⟩ := Kd.R_slice HO_4.out
       subst eo28
       have q29 : (t121 : Int) ≤ ((x4_7.length : Int) : Int) := of_decide_eq_true (by first | (with_reducible assumption) | assumption)
       obtain ⟨i029, hi029, _, hsz29, _⟩ := info_parts info5
       have hcut29 := cut_to (P := Try.prog) 25 5 .i64 Try.underlying25 hi029 Ao28 x4_7.length co28 t121 (of_decide_eq_true (by first | (with_reducible assumption) | assumption)) q29 (Kd.R_reads' HO_4.out).2.1
       have hr29 := Kd.R_take (m := (t121 : Int).toNat) HO_4.out (by omega)
       have hy29 : y129.length = (t121 : Int).toNat := (by rw [Ny129.out, List.length_take]; omega)
       rw [← Ny129.out] at hr29
       rw [← hy29] at hr29 hcut29
       clear hy29 hi029 hsz29 HO_4
       have HO131 := Aside0.mk hr29
       clear hr29
       replace q29 := eq_true q29
       go_wp2
       go_meet
       case rel => exact ⟨_, (y129), H', ⟨by have := HJ7.out; first | omega | exact Nat.le_refl _⟩, ⟨by (with_reducible repeat (first | apply Kd.R_alloc | apply Kd.R_drewN | apply Kd.R_drew)); exact HO131.out⟩, ⟨by repeat (first | (with_reducible first | exact HI104.out | apply IsS121.alloc | apply IsS121.drewN | apply IsS121.drew | apply IsS121.set_1 | apply IsS121.set_2) | exact HI104.out)⟩, ⟨by repeat (first | (with_reducible first | exact HB.out | apply below_alloc | apply pw_below_drewN | apply below_drew1 | refine below_set ?_ (IsS121.ge HI104.out)) | exact HB.out)⟩⟩
      ·rw [if_neg c27] at H
       exact absurd H (by simp)
     ·rw [if_neg c26] at H
      exact absurd H (by simp)
    ·rw [if_neg c25] at H
     have c25b0 : (t118 == 1) = false := beq_eq_false_iff_ne.mpr c25
     have c25b1 : (t118 != 1) = true := bne_iff_ne.mpr c25
     (first | rw [c25b0] | (simp only [i64_w, i32_w]; rw [c25b0]) | skip)
     have H' := Aside0.mk H
     clear H
     go_wp2
     go_meet
     case rel => exact ⟨_, (x4_7), H', ⟨by have := HJ7.out; first | omega | exact Nat.le_refl _⟩, ⟨by (with_reducible repeat (first | apply Kd.R_alloc | apply Kd.R_drewN | apply Kd.R_drew)); exact HO_4.out⟩, ⟨by repeat (first | (with_reducible first | exact HI104.out | apply IsS121.alloc | apply IsS121.drewN | apply IsS121.drew | apply IsS121.set_1 | apply IsS121.set_2) | exact HI104.out)⟩, ⟨by repeat (first | (with_reducible first | exact HB.out | apply below_alloc | apply pw_below_drewN | apply below_drew1 | refine below_set ?_ (IsS121.ge HI104.out)) | exact HB.out)⟩⟩
   case rest =>
    clear HC24
    try clear c1
    try clear p1
    try clear q1
    try clear hx1
    try clear c2
    try clear p2
    try clear q2
    try clear hx2
    try clear hf2
    try clear c3
    try clear c5
    try clear c6
    try clear p6
    try clear c7
    try clear p12
    try clear q12
    try clear hx12
    try clear c17
    try clear c17b0
    try clear c17b1
    try clear c18
    try clear c18b0
    try clear c19
    try clear c19b0
    try clear p20
    try clear q20
    try clear hx20
    try clear hf20
    try clear c25
    try clear c25b0
    try clear c25b1
    try clear c26
    try clear c26b0
    try clear c26b1
    try clear c27
    try clear c27b0
    try clear c27b1
    try clear q29
    try clear hx127_0
    try clear hx20_0
    try clear p1
    try clear p12
    try clear p127
    try clear p2
    try clear p20
    try clear p6
    try clear q1
    try clear q12
    try clear q127
    try clear q2
    try clear q20
    try clear q29
    obtain ⟨kq, x4_23, HA, HJ23, HO_4, HI104, HB⟩ := hcut
    cases kq with
    | zero => exact absurd HA.out (by simp [spec_DrawDecodeSnap.j1])
    | succ kj23 =>
     have H := HA.out
     clear HA
     simp only [spec_DrawDecodeSnap.j1] at H
     have HC30 := Aside0.mk H
     clear H
     go_upto_if 39 with (fail)
     go_cut [4] (fun v4 wc => ∃ (kq : Nat) (x4_29 : List Int), Aside0 (spec_DrawDecodeSnap.j2 kq x4_29 t118 t101 t125 t126 = some r) ∧ Aside0 (kq ≤ kj23) ∧ Aside0 (Kd.R (Kd.int .u8) 5 wc w.heap.size (fun _ => True) v4 x4_29) ∧ Aside0 (IsS121 w wc g104 t101 t125 t126) ∧ Aside0 (Below w.heap.size w wc))
     case first =>
      have H := HC30.out
      clear HC30
      by_cases c31 : t118 = 2
      ·rw [if_pos c31] at H
       have c31b0 : (t118 == 2) = true := beq_iff_eq.mpr c31
       have c31b1 : (t118 != 2) = false := bne_eq_false_iff_eq.mpr c31
       clear c31
       (first | rw [c31b0] | (simp only [i64_w, i32_w]; rw [c31b0]) | skip)
       obtain ⟨ji32, hji32⟩ : ∃ j_ : Int, (Int.tmod t121 120) = j_ := ⟨_, rfl⟩
       replace H : (if 0 ≤ (ji32) then (if (ji32) < (x4_23.length : Int) then ((some (x4_23.set ((ji32) : Int).toNat (Go.bits .xor .u8 (rd x4_23 (ji32)) (((wrap64 (1 + t124))) % 256)) : List Int)).bind fun y133 => (if 120 ≤ (x4_23.length : Int) then ((spec_Crc32.f kj23 (y133.take 120)).bind fun t144 => ((spec_l2Four.f t144).bind fun t145 => (if 124 ≤ (x4_23.length : Int) then ((spec_l2Cat.f kj23 (([(y133.take 120), t145, (y133.drop 124)] : List (List Int)))).bind fun t156 => (spec_DrawDecodeSnap.j2 kj23 t156 t118 t101 t125 t126)) else (none)))) else (none))) else (none)) else (none)) = some r := by first | (rw [hji32] at H; exact H) | (simp only [hji32] at H ⊢; exact H)
       by_cases c33 : 0 ≤ (ji32)
       ·rw [if_pos c33] at H
        have c33b0 : decide (0 ≤ (ji32)) = true := decide_eq_true c33
        clear c33
        by_cases c34 : (ji32) < (x4_23.length : Int)
        ·rw [if_pos c34] at H
         have c34b0 : decide ((ji32) < (x4_23.length : Int)) = true := decide_eq_true c34
         clear c34
         obtain ⟨y133, hy133⟩ : ∃ y_ : List Int, y_ = (x4_23.set ((ji32) : Int).toNat (Go.bits .xor .u8 (rd x4_23 (ji32)) (((wrap64 (1 + t124))) % 256))) := ⟨_, rfl⟩
         replace H : (if 120 ≤ (x4_23.length : Int) then ((spec_Crc32.f kj23 (y133.take 120)).bind fun t144 => ((spec_l2Four.f t144).bind fun t145 => (if 124 ≤ (x4_23.length : Int) then ((spec_l2Cat.f kj23 (([(y133.take 120), t145, (y133.drop 124)] : List (List Int)))).bind fun t156 => (spec_DrawDecodeSnap.j2 kj23 t156 t118 t101 t125 t126)) else (none)))) else (none)) = some r := by first | (rw [hy133]; with_reducible exact H) | (have H2_ := (Option.bind_some _ _).symm.trans H; rw [hy133]; with_reducible exact H2_) | (have H2_ := (Option.bind_some _ _).symm.trans H; with_reducible exact H2_) | with_reducible exact H | (rw [hy133]; exact H) | exact H
         have Ny133 := Aside0.mk hy133
         clear hy133
         by_cases c36 : 120 ≤ (x4_23.length : Int)
         ·rw [if_pos c36] at H
          have c36b0 := eq_true c36
          have c36b1 : decide (120 ≤ (x4_23.length : Int)) = true := decide_eq_true c36
          clear c36
          obtain ⟨y134, hy134⟩ : ∃ y_ : List Int, y_ = (y133.take 120) := ⟨_, rfl⟩
          replace H : ((spec_Crc32.f kj23 (y133.take 120)).bind fun t144 => ((spec_l2Four.f t144).bind fun t145 => (if 124 ≤ (x4_23.length : Int) then ((spec_l2Cat.f kj23 (([y134, t145, (y133.drop 124)] : List (List Int)))).bind fun t156 => (spec_DrawDecodeSnap.j2 kj23 t156 t118 t101 t125 t126)) else (none)))) = some r := by first | (rw [hy134]; with_reducible exact H) | (have H2_ := (Option.bind_some _ _).symm.trans H; rw [hy134]; with_reducible exact H2_) | (have H2_ := (Option.bind_some _ _).symm.trans H; with_reducible exact H2_) | with_reducible exact H | (rw [hy134]; exact H) | exact H
          have Ny134 := Aside0.mk hy134
          clear hy134
          have c37b0 := eq_true (of_decide_eq_true (by first | (with_reducible assumption) | assumption) : 120 ≤ (x4_23.length : Int))
          obtain ⟨y139, hy139⟩ : ∃ y_ : List Int, y_ = (y133.take 120) := ⟨_, rfl⟩
          replace H : ((spec_Crc32.f kj23 y139).bind fun t144 => ((spec_l2Four.f t144).bind fun t145 => (if 124 ≤ (x4_23.length : Int) then ((spec_l2Cat.f kj23 (([y134, t145, (y133.drop 124)] : List (List Int)))).bind fun t156 => (spec_DrawDecodeSnap.j2 kj23 t156 t118 t101 t125 t126)) else (none)))) = some r := by first | (rw [hy139]; with_reducible exact H) | (have H2_ := (Option.bind_some _ _).symm.trans H; rw [hy139]; with_reducible exact H2_) | (have H2_ := (Option.bind_some _ _).symm.trans H; with_reducible exact H2_) | with_reducible exact H | (rw [hy139]; exact H) | exact H
          have Ny139 := Aside0.mk hy139
          clear hy139
          replace H := Option.bind_eq_some_iff.mp H
          obtain ⟨t144, A380, H⟩ := H
          replace H : ((spec_l2Four.f t144).bind fun t145 => (if 124 ≤ (x4_23.length : Int) then ((spec_l2Cat.f kj23 (([y134, t145, (y133.drop 124)] : List (List Int)))).bind fun t156 => (spec_DrawDecodeSnap.j2 kj23 t156 t118 t101 t125 t126)) else (none))) = some r := H
          have A38 := Aside0.mk A380
          clear A380
          replace H := Option.bind_eq_some_iff.mp H
          obtain ⟨t145, A390, H⟩ := H
          replace H : (if 124 ≤ (x4_23.length : Int) then ((spec_l2Cat.f kj23 (([y134, t145, (y133.drop 124)] : List (List Int)))).bind fun t156 => (spec_DrawDecodeSnap.j2 kj23 t156 t118 t101 t125 t126)) else (none)) = some r := H
          have A39 := Aside0.mk A390
          clear A390
          by_cases c40 : 124 ≤ (x4_23.length : Int)
          ·rw [if_pos c40] at H
           have c40b0 := eq_true c40
           have c40b1 : decide (124 ≤ (x4_23.length : Int)) = true := decide_eq_true c40
           clear c40
           obtain ⟨y148, hy148⟩ : ∃ y_ : List Int, y_ = (y133.drop 124) := ⟨_, rfl⟩
           replace H : ((spec_l2Cat.f kj23 (([y134, t145, y148] : List (List Int)))).bind fun t156 => (spec_DrawDecodeSnap.j2 kj23 t156 t118 t101 t125 t126)) = some r := by first | (rw [hy148]; with_reducible exact H) | (have H2_ := (Option.bind_some _ _).symm.trans H; rw [hy148]; with_reducible exact H2_) | (have H2_ := (Option.bind_some _ _).symm.trans H; with_reducible exact H2_) | with_reducible exact H | (rw [hy148]; exact H) | exact H
           have Ny148 := Aside0.mk hy148
           clear hy148
           obtain ⟨y153, hy153⟩ : ∃ y_ : List (List Int), y_ = (([y134, t145, y148] : List (List Int))) := ⟨_, rfl⟩
           replace H : ((spec_l2Cat.f kj23 y153).bind fun t156 => (spec_DrawDecodeSnap.j2 kj23 t156 t118 t101 t125 t126)) = some r := by first | (rw [hy153]; with_reducible exact H) | (have H2_ := (Option.bind_some _ _).symm.trans H; rw [hy153]; with_reducible exact H2_) | (have H2_ := (Option.bind_some _ _).symm.trans H; with_reducible exact H2_) | with_reducible exact H | (rw [hy153]; exact H) | exact H
           have Ny153 := Aside0.mk hy153
           clear hy153
           replace H := Option.bind_eq_some_iff.mp H
           obtain ⟨t156, A410, H⟩ := H
           replace H : (spec_DrawDecodeSnap.j2 kj23 t156 t118 t101 t125 t126) = some r := H
           have A41 := Aside0.mk A410
           clear A410
           have H' := Aside0.mk H
           clear H
           obtain ⟨Ao42, co42, eo42⟩ := Kd.R_slice HO_4.out
           subst eo42
           have p132 : 0 ≤ ((ji32) : Int) := of_decide_eq_true (by first | (with_reducible assumption) | assumption)
           have q132 : (ji32) < (x4_23.length : Int) := of_decide_eq_true (by first | (with_reducible assumption) | assumption)
           obtain ⟨ad132, e132, hx132_0⟩ := Kd.at_int (Kd.R_reads' HO_4.out).2.2 (ji32) p132 q132
           cases e132
           replace p132 := eq_true p132
           replace q132 := eq_true q132
           have p35 : 0 ≤ ((ji32) : Int) := of_decide_eq_true (by first | (with_reducible assumption) | assumption)
           have q35 : ((ji32) : Int) < ((x4_23.length : Int) : Int) := of_decide_eq_true (by first | (with_reducible assumption) | assumption)
           obtain ⟨go35, co35, eo35, gb35, gl35, cl35, HG35⟩ := Kd.R_form HO_4.out (by omega)
           (first | cases eo35 | (injection eo35 with ea_ en_ ec_; (first | subst ea_ | (injection ea_ with ea_; subst ea_)); subst ec_; clear en_))
           have GB35 := Aside0.mk gb35
           have GG35 := Aside0.mk HG35
           clear gb35 gl35 HG35
           (first | simp only [add_plain] at hx132_0 | skip)
           obtain ⟨hx35_0, hf35_0⟩ := Kd.R_celln 0 HO_4.out ((ji32) : Int) p35 q35
           replace p35 := eq_true p35
           replace q35 := eq_true q35
           have HP43 := Kd.R_putg HO_4.out ((ji32) : Int) (Go.bits .xor .u8 (rd x4_23 (ji32)) (((wrap64 (1 + t124))) % 256))
           try go_wp2_with (first | ((with_reducible refine gate_store (t := 5) (p := 51) rfl ?_); refine store_event (t := 5) (p := 51) (v := ?vo_w44) (w1 := (wc.setCell ⟨go35, ((ji32) : Int).toNat, none⟩ (.int .u8 (Go.bits .xor .u8 (rd x4_23 (ji32)) (((wrap64 (1 + t124))) % 256))))) ?hg ?ho ?hn ?hr ?_; (case ho => rfl); (case hg => rfl); (case hn => rfl); (case hr => first | (go_simp; done) | (go_simp; rfl)); intro w44 hw; have hg : wc.grownBy w44 (some go35) := (by rw [hw]; exact HP43.2); have hp_ : Kd.R (Kd.int .u8) 5 w44 w.heap.size (fun _ => True) (.slice (some ⟨go35, 0, none⟩) x4_23.length co42) y133 := (by rw [hw, Ny133.out]; exact HP43.1); clear HP43; have n0_ := Aside0.mk (hp_); have n1_ := Aside0.mk (IsS121.grown (by repeat (first | (with_reducible first | exact HI104.out | apply IsS121.alloc | apply IsS121.drewN | apply IsS121.drew | apply IsS121.set_1 | apply IsS121.set_2) | exact HI104.out)) hg (IsS121.own_ne HI104.out HO_4.out (by decide))); have n2_ := Aside0.mk ((by rw [hw]; exact below_set (HB.out) GB35.out : Below w.heap.size w w44)); clear HO_4; clear HI104; clear HB; have HO_4 := n0_; have HI104 := n1_; have HB := n2_; clear n0_ n1_ n2_; clear hg hw hp_))
           have n0_ := Aside0.mk (Kd.R_drew HO_4.out)
           have n1_ := Aside0.mk (IsS121.drew HI104.out)
           have n2_ := Aside0.mk (below_drew1 HB.out)
           clear HO_4
           clear HI104
           clear HB
           have HO_4 := n0_
           have HI104 := n1_
           have HB := n2_
           clear n0_ n1_ n2_
           have hlx46 := (Kd.R_reads' HO_4.out).1
           have q46 : (120 : Int) ≤ ((x4_23.length : Int) : Int) := of_decide_eq_true (by first | (with_reducible assumption) | assumption)
           obtain ⟨i046, hi046, _, hsz46, _⟩ := info_parts info5
           have hroom46 : x4_23.length ≤ co42 := (Kd.R_reads' HO_4.out).2.1
           have hroomc46 : y133.length ≤ co42 := (by rw [← hlx46]; exact hroom46)
           have hC46 : Kd.F (Kd.int .u8) _ _ (some ⟨go35, 0, none⟩) y133.length y133 := (Kd.V_at (base := w.heap.size) (Kd.R_V (IsS121.apart HI104.out (HO_4.out) (by decide)))).2.2
           have hcut46 := cut_to (P := Try.prog) 25 5 .i64 Try.underlying25 hi046 (some ⟨go35, 0, none⟩) x4_23.length co42 120 (by omega) q46 hroom46
           have hr46 := Kd.F_take (m := 120) hC46 (by omega)
           have hy46 : y134.length = (120 : Int).toNat := (by rw [Ny134.out, List.length_take]; omega)
           rw [← Ny134.out] at hr46
           rw [← hy46] at hcut46
           have HO138 := Aside0.mk (show Kd.V (Kd.int .u8) 5 _ w.heap.size _ (.slice (some ⟨go35, 0, none⟩) y134.length co42) y134 from Kd.V_mk (by omega) hr46)
           have HC138 := Aside0.mk (show y134.length ≤ co42 from by omega)
           clear hr46 hC46 hroom46 hi046 hsz46 hroomc46
           have KY46 := Aside0.mk hy46
           clear hy46
           clear hlx46
           replace q46 := eq_true q46
           have hlx47 := (Kd.R_reads' HO_4.out).1
           have q47 : (120 : Int) ≤ ((x4_23.length : Int) : Int) := of_decide_eq_true (by first | (with_reducible assumption) | assumption)
           obtain ⟨i047, hi047, _, hsz47, _⟩ := info_parts info5
           have hroom47 : x4_23.length ≤ co42 := (Kd.R_reads' HO_4.out).2.1
           have hroomc47 : y133.length ≤ co42 := (by rw [← hlx47]; exact hroom47)
           have hC47 : Kd.F (Kd.int .u8) _ _ (some ⟨go35, 0, none⟩) y133.length y133 := (Kd.V_at (base := w.heap.size) (Kd.R_V (IsS121.apart HI104.out (HO_4.out) (by decide)))).2.2
           have hcut47 := cut_to (P := Try.prog) 25 5 .i64 Try.underlying25 hi047 (some ⟨go35, 0, none⟩) x4_23.length co42 120 (by omega) q47 hroom47
           have hr47 := Kd.F_take (m := 120) hC47 (by omega)
           have hy47 : y139.length = (120 : Int).toNat := (by rw [Ny139.out, List.length_take]; omega)
           rw [← Ny139.out] at hr47
           rw [← hy47] at hcut47
           have HO143 := Aside0.mk (show Kd.V (Kd.int .u8) 5 _ w.heap.size _ (.slice (some ⟨go35, 0, none⟩) y139.length co42) y139 from Kd.V_mk (by omega) hr47)
           have HC143 := Aside0.mk (show y139.length ≤ co42 from by omega)
           clear hr47 hC47 hroom47 hi047 hsz47 hroomc47
           have KY47 := Aside0.mk hy47
           clear hy47
           clear hlx47
           replace q47 := eq_true q47
           have hlx48 := (Kd.R_reads' HO_4.out).1
           have q48 : (124 : Int) ≤ ((x4_23.length : Int) : Int) := of_decide_eq_true (by first | (with_reducible assumption) | assumption)
           obtain ⟨i048, hi048, _, hsz48, _⟩ := info_parts info5
           have hroom48 : x4_23.length ≤ co42 := (Kd.R_reads' HO_4.out).2.1
           have hroomc48 : y133.length ≤ co42 := (by rw [← hlx48]; exact hroom48)
           have hC48 : Kd.F (Kd.int .u8) _ _ (some ⟨go35, 0, none⟩) y133.length y133 := (Kd.V_at (base := w.heap.size) (Kd.R_V (IsS121.apart HI104.out (HO_4.out) (by decide)))).2.2
           have hcut48 := cut_from (P := Try.prog) 25 5 .i64 Try.underlying25 hi048 1 hsz48 (some ⟨go35, 0, none⟩) x4_23.length co42 124 (by omega) q48
           have hr48 := Kd.F_cut (m := (124 : Int).toNat) (c := co42) hC48 (by omega) hroomc48
           obtain ⟨A48, hA48⟩ : ∃ A1, A1 = (if co42 = (124 : Int).toNat then (some ⟨go35, 0, none⟩) else ((some ⟨go35, 0, none⟩) : Option Addr).map (·.add ((124 : Int).toNat * 1))) := ⟨_, rfl⟩
           obtain ⟨c48, hc48⟩ : ∃ c1, c1 = co42 - (124 : Int).toNat := ⟨_, rfl⟩
           have hy48 : y148.length = x4_23.length - (124 : Int).toNat := (by rw [Ny148.out, List.length_drop] <;> omega)
           rw [show (y133).drop (124 : Int).toNat = y148 from Ny148.out.symm] at hr48
           replace hr48 : Kd.F (Kd.int .u8) _ _ A48 y148.length y148 := (by rw [hA48]; exact hr48)
           rw [← hy48, ← hA48, ← hc48] at hcut48
           have HO152 := Aside0.mk (show Kd.V (Kd.int .u8) 5 _ w.heap.size _ (.slice A48 y148.length c48) y148 from Kd.V_mk (by rw [hy48, hc48]; exact Nat.sub_le_sub_right hroom48 _) hr48)
           have HC152 := Aside0.mk (show y148.length ≤ c48 from by rw [hy48, hc48]; exact Nat.sub_le_sub_right hroom48 _)
           clear hr48 hC48 hroom48 hi048 hsz48 hc48 hroomc48
           have KY48 := Aside0.mk hy48
           have KA48 := Aside0.mk hA48
           clear hy48 hA48
           clear hlx48
           replace q48 := eq_true q48
           refine start_ (n := 11) (S := fun w' => True) (ds := []) #[false, false, false, false, false, false, false, false, false, false, false] (by kernel_rfl) rfl rfl trivial (fun hHeld => ?_); refine with_tabW spec_DrawDecodeSnap.tab13 spec_DrawDecodeSnap.bits13 (fun HT_ HW_ => ?_)
           generalize w44.drew = w45 at HO_4 HI104 HB HO138 HO143 HO152 hHeld ⊢
           refine pure_ (i := 0) (N := some 52) (v := ?_) (a' := ?_) #[true, false, false, false, false, false, false, false, false, false, false] rfl rfl (any_of HT_.out (by kernel_rfl)) (fun _ _ _ h => h) (Or.inl ⟨by rfl, ?_⟩) ?_ ?_
           rotate_left
           ·intro w'
            go_simp
            with_reducible rfl
           rotate_left
           ·simp only [Act.put, List.setIfInBounds_toArray, List.set_cons_zero, List.set_cons_succ, i64_w, i32_w]
            rfl
           refine pure_ (i := 1) (N := some 53) (v := ?_) (a' := ?_) #[true, true, false, false, false, false, false, false, false, false, false] rfl rfl (any_of HT_.out (by kernel_rfl)) (fun _ _ _ h => h) (Or.inl ⟨by rfl, ?_⟩) ?_ ?_
           rotate_left
           ·intro w'
            go_simp
            with_reducible rfl
           rotate_left
           ·simp only [Act.put, List.setIfInBounds_toArray, List.set_cons_zero, List.set_cons_succ, i64_w, i32_w]
            rfl
           refine pure_ (i := 2) (N := some 54) (v := ?_) (a' := ?_) #[true, true, true, false, false, false, false, false, false, false, false] rfl rfl (any_of HT_.out (by kernel_rfl)) (fun _ _ _ h => h) (Or.inl ⟨by rfl, ?_⟩) ?_ ?_
           rotate_left
           ·intro w'
            go_simp
            with_reducible rfl
           rotate_left
           ·simp only [Act.put, List.setIfInBounds_toArray, List.set_cons_zero, List.set_cons_succ, i64_w, i32_w]
            rfl
           refine pure_ (i := 3) (N := some 55) (v := ?_) (a' := ?_) #[true, true, true, true, false, false, false, false, false, false, false] rfl rfl (any_of HT_.out (by kernel_rfl)) (fun _ _ _ h => h) (Or.inl ⟨by rfl, ?_⟩) ?_ ?_
           rotate_left
           ·intro w'
            go_simp
            with_reducible rfl
           rotate_left
           ·simp only [Act.put, List.setIfInBounds_toArray, List.set_cons_zero, List.set_cons_succ, i64_w, i32_w]
            rfl
           refine pure_ (i := 6) (N := some 58) (v := ?_) (a' := ?_) #[true, true, true, true, false, false, true, false, false, false, false] rfl rfl (any_of HT_.out (by kernel_rfl)) (fun _ _ _ h => h) (Or.inl ⟨by rfl, ?_⟩) ?_ ?_
           rotate_left
           ·intro w'
            go_simp
            with_reducible rfl
           rotate_left
           ·simp only [Act.put, List.setIfInBounds_toArray, List.set_cons_zero, List.set_cons_succ, i64_w, i32_w]
            rfl
           refine pure_ (i := 7) (N := some 59) (v := ?_) (a' := ?_) #[true, true, true, true, false, false, true, true, false, false, false] rfl rfl (any_of HT_.out (by kernel_rfl)) (fun _ _ _ h => h) (Or.inl ⟨by rfl, ?_⟩) ?_ ?_
           rotate_left
           ·intro w'
            go_simp
            with_reducible rfl
           rotate_left
           ·simp only [Act.put, List.setIfInBounds_toArray, List.set_cons_zero, List.set_cons_succ, i64_w, i32_w]
            rfl
           refine one_ (i := 4) (N := some 56) #[true, true, true, true, true, false, true, true, false, false, false] rfl rfl (one_of HT_.out (by kernel_rfl)) (by decide) (fun K hK => ?_)
           refine goes_ Try.func50 (by kernel_rfl) rfl #[.slice (some ⟨go35, 0, none⟩) y139.length co42] (by rfl) rfl rfl (by (try simp only [List.map_toArray, List.map_cons, List.map_nil]); first | done | rfl | (simp only [List.length_drop, List.length_take]; rfl) | (rw [show y139.length = y134.length from KY47.out.trans KY46.out.symm]; rfl)) ?_
           with_reducible refine (spec_Crc32.calls kj23 _ _ y139 t144 _ ?side1 ?side2 A38.out).mono ?_
           (case side1 => repeat (first | exact (Kd.V_reads' HO143.out).2.2 | (with_reducible refine Kd.C_alloc ?_ _) | (with_reducible refine Kd.C_drewN ?_ _) | (with_reducible refine Kd.C_drew ?_)))
           (case side2 => exact (Kd.V_reads' HO143.out).2.1)
           rintro e w' ⟨rfl, ⟨nd, rfl⟩⟩
           refine ⟨_, rfl, ?_⟩
           refine hK.out _ _ trivial (fun hHeld => ?_)
           clear hK K
           refine norm_ (a' := ?_) ?_ ?_
           rotate_left
           ·show Act.put _ (some 56) _ = _
            simp only [Act.put, List.setIfInBounds_toArray, List.set_cons_zero, List.set_cons_succ, i64_w, i32_w]
            rfl
           refine one_ (i := 5) (N := some 57) #[true, true, true, true, true, true, true, true, false, false, false] rfl rfl (one_of HT_.out (by kernel_rfl)) (by decide) (fun K hK => ?_)
           refine goes_ Try.func48 (by kernel_rfl) rfl #[.int .u32 t144] (by rfl) rfl rfl (by (try simp only [List.map_toArray, List.map_cons, List.map_nil]); first | done | rfl | (simp only [List.length_drop, List.length_take]; rfl)) ?_
           with_reducible refine (spec_l2Four.calls t144 t145 _ A39.out).mono ?_
           rintro e w49 ⟨v146, rfl, ho0, hb⟩
           refine ⟨_, rfl, ?_⟩
           have n0_ := Aside0.mk (Kd.R_elder' (by (with_reducible repeat (first | apply Kd.R_alloc | apply Kd.R_drewN | apply Kd.R_drew)); exact HO_4.out) (Kd.R_base ho0) hb)
           have n1_ := Aside0.mk (Kd.V_elder' (by (with_reducible repeat (first | apply Kd.V_alloc | apply Kd.V_drewN | apply Kd.V_drew)); exact HO138.out) (Kd.R_base ho0) hb)
           have n2_ := Aside0.mk (Kd.V_elder' (by (with_reducible repeat (first | apply Kd.V_alloc | apply Kd.V_drewN | apply Kd.V_drew)); exact HO143.out) (Kd.R_base ho0) hb)
           have n3_ := Aside0.mk (Kd.V_elder' (by (with_reducible repeat (first | apply Kd.V_alloc | apply Kd.V_drewN | apply Kd.V_drew)); exact HO152.out) (Kd.R_base ho0) hb)
           have n4_ := Aside0.mk (Kd.R_lower (Kd.R_new' ho0 (Kd.R_lt (by (with_reducible repeat (first | apply Kd.R_alloc | apply Kd.R_drewN | apply Kd.R_drew)); exact HO_4.out))) (below_size (by repeat (first | (with_reducible first | exact HB.out | apply below_alloc | apply pw_below_drewN | apply below_drew1 | refine below_set ?_ (IsS121.ge HI104.out)) | exact HB.out))))
           have n5_ := Aside0.mk (IsS121.below (by repeat (first | (with_reducible first | exact HI104.out | apply IsS121.alloc | apply IsS121.drewN | apply IsS121.drew | apply IsS121.set_1 | apply IsS121.set_2) | exact HI104.out)) hb)
           have n6_ := Aside0.mk (below_step (by repeat (first | (with_reducible first | exact HB.out | apply below_alloc | apply pw_below_drewN | apply below_drew1 | refine below_set ?_ (IsS121.ge HI104.out)) | exact HB.out)) hb)
           clear HO_4
           clear HO138
           clear HO143
           clear HO152
           clear HI104
           clear HB
           have HO_4 := n0_
           have HO138 := n1_
           have HO143 := n2_
           have HO152 := n3_
           have HO147 := n4_
           have HI104 := n5_
           have HB := n6_
           clear n0_ n1_ n2_ n3_ n4_ n5_ n6_
           (try clear hb)
           (try clear hb2)
           (try clear hk)
           (try clear hi)
           (try clear ho0)
           obtain ⟨Ao50, co50, eo50⟩ := Kd.R_slice HO147.out
           (first | subst eo50 | (injection eo50 with f1_ f2_ f3_; have f4_ := f1_.symm; have f5_ := f3_.symm; clear f1_ f2_ f3_; subst f4_; subst f5_))
           refine hK.out _ _ trivial (fun hHeld => ?_)
           clear hK K
           refine norm_ (a' := ?_) ?_ ?_
           rotate_left
           ·show Act.put _ (some 57) _ = _
            simp only [Act.put, List.setIfInBounds_toArray, List.set_cons_zero, List.set_cons_succ, i64_w, i32_w]
            rfl
           refine one_ (i := 8) (N := some 60) #[true, true, true, true, true, true, true, true, true, false, false] rfl rfl (one_of HT_.out (by kernel_rfl)) (by decide) (fun K hK => ?_)
           refine Kd.N_lit_step (Kd.slice 5 (Kd.int .u8)) _ 25 ?hg (N' := 60) ?hd (xs := ([y134, t145, y148] : List (List Int))) (inner := [.slice (some ⟨go35, 0, none⟩) y134.length co42, .slice Ao50 t145.length co50, .slice A48 y148.length c48]) (ok := (fun k_ => k_ ≠ g104)) (okp := (fun k_ => k_ ≠ g104)) ?hr ?hp (fun _ hk => hk) ((show ∀ k_, w49.heap.size ≤ k_ → (fun k_ => k_ ≠ g104) k_ from fun k_ hk => IsS121.fresh (by repeat (first | (with_reducible first | exact HI104.out | apply IsS121.alloc | apply IsS121.drewN | apply IsS121.drew | apply IsS121.set_1 | apply IsS121.set_2) | exact HI104.out)) k_ hk) _ (Nat.le_refl _)) (Below.refl _ _) (Nat.le_refl _) (by simp) ?_; (case hd => rfl); (case hg => rfl); (case hr => first | (go_simp; done) | (go_simp; rfl)); (case hp => exact (Reps.one (show Kd.FK (Kd.slice 5 (Kd.int .u8)) _ _ y134 [.slice (some ⟨go35, 0, none⟩) y134.length co42] from (Kd.FK_slice_mk (Kd.V_reads' (Kd.V_mono (ok' := (fun k_ => k_ ≠ g104)) (HO138.out) (fun k_ hk => hk.1.2))).2.1 (Kd.V_F (Kd.V_mono (ok' := (fun k_ => k_ ≠ g104)) (HO138.out) (fun k_ hk => hk.1.2))))) (Reps.one (show Kd.FK (Kd.slice 5 (Kd.int .u8)) _ _ t145 [.slice Ao50 t145.length co50] from (Kd.FK_slice_mk (Kd.R_reads' (Kd.R_mono (ok' := (fun k_ => k_ ≠ g104)) (IsS121.apart HI104.out (HO147.out) (by decide)) (fun k_ hk => hk.2))).2.1 (Kd.R_F (Kd.R_mono (ok' := (fun k_ => k_ ≠ g104)) (IsS121.apart HI104.out (HO147.out) (by decide)) (fun k_ hk => hk.2))))) (Reps.one (show Kd.FK (Kd.slice 5 (Kd.int .u8)) _ _ y148 [.slice A48 y148.length c48] from (Kd.FK_slice_mk (Kd.V_reads' (Kd.V_mono (ok' := (fun k_ => k_ ≠ g104)) (HO152.out) (fun k_ hk => hk.1.2))).2.1 (Kd.V_F (Kd.V_mono (ok' := (fun k_ => k_ ≠ g104)) (HO152.out) (fun k_ hk => hk.1.2))))) (Reps.none _ _)))))
           intro v154 w51 ho52 hb hg_ hnew_
           clear hg_ hnew_
           (first | rw [← Ny153.out] at ho52 | (simp only [Int.reduceToNat] at ho52; rw [← Ny153.out] at ho52))
           have n0_ := Aside0.mk (Kd.R_below (by (with_reducible repeat (first | apply Kd.R_alloc | apply Kd.R_drewN | apply Kd.R_drew)); exact HO_4.out) hb)
           have n1_ := Aside0.mk (Kd.V_elder' (by (with_reducible repeat (first | apply Kd.V_alloc | apply Kd.V_drewN | apply Kd.V_drew)); exact HO138.out) (Kd.N_base ho52) hb)
           have n2_ := Aside0.mk (Kd.V_elder' (by (with_reducible repeat (first | apply Kd.V_alloc | apply Kd.V_drewN | apply Kd.V_drew)); exact HO143.out) (Kd.N_base ho52) hb)
           have n3_ := Aside0.mk (Kd.V_elder' (by (with_reducible repeat (first | apply Kd.V_alloc | apply Kd.V_drewN | apply Kd.V_drew)); exact HO152.out) (Kd.N_base ho52) hb)
           have n4_ := Aside0.mk (Kd.N_lower ho52 (below_size (by repeat (first | (with_reducible first | exact HB.out | apply below_alloc | apply pw_below_drewN | apply below_drew1 | refine below_set ?_ (IsS121.ge HI104.out)) | exact HB.out))))
           have n5_ := Aside0.mk (IsS121.below (by repeat (first | (with_reducible first | exact HI104.out | apply IsS121.alloc | apply IsS121.drewN | apply IsS121.drew | apply IsS121.set_1 | apply IsS121.set_2) | exact HI104.out)) hb)
           have n6_ := Aside0.mk (below_step (by repeat (first | (with_reducible first | exact HB.out | apply below_alloc | apply pw_below_drewN | apply below_drew1 | refine below_set ?_ (IsS121.ge HI104.out)) | exact HB.out)) hb)
           clear HO_4
           clear HO138
           clear HO143
           clear HO152
           clear HI104
           clear HB
           clear HO147
           have HO_4 := n0_
           have HO138 := n1_
           have HO143 := n2_
           have HO152 := n3_
           have HO155 := n4_
           have HI104 := n5_
           have HB := n6_
           clear n0_ n1_ n2_ n3_ n4_ n5_ n6_
           clear hb ho52
           obtain ⟨Ao53, co53, eo53⟩ := Kd.N_slice HO155.out
           (first | subst eo53 | (injection eo53 with f1_ f2_ f3_; have f4_ := f1_.symm; have f5_ := f3_.symm; clear f1_ f2_ f3_; subst f4_; subst f5_))
           refine hK.out _ _ trivial (fun hHeld => ?_)
           clear hK K
           refine norm_ (a' := ?_) ?_ ?_
           rotate_left
           ·show Act.put _ (some 60) _ = _
            simp only [Act.put, List.setIfInBounds_toArray, List.set_cons_zero, List.set_cons_succ, i64_w, i32_w]
            rfl
           refine one_ (i := 9) (N := some 61) #[true, true, true, true, true, true, true, true, true, true, false] rfl rfl (one_of HT_.out (by kernel_rfl)) (by decide) (fun K hK => ?_)
           refine goes_ Try.func47 (by kernel_rfl) rfl #[.slice Ao53 y153.length co53] (by rfl) rfl rfl (by (try simp only [List.map_toArray, List.map_cons, List.map_nil]); first | done | rfl | (simp only [List.length_drop, List.length_take]; rfl)) ?_
           with_reducible refine (spec_l2Cat.calls kj23 _ _ y153 t156 _ ?side1 ?side2 A41.out).mono ?_
           (case side1 => repeat (first | exact (Kd.N_reads' HO155.out).2.2 | (with_reducible refine Kd.C_alloc ?_ _) | (with_reducible refine Kd.C_drewN ?_ _) | (with_reducible refine Kd.C_drew ?_)))
           (case side2 => exact (Kd.N_reads' HO155.out).2.1)
           rintro e w54 ⟨v157, rfl, ho0, hb⟩
           refine ⟨_, rfl, ?_⟩
           have n0_ := Aside0.mk (Kd.R_elder' (by (with_reducible repeat (first | apply Kd.R_alloc | apply Kd.R_drewN | apply Kd.R_drew)); exact HO_4.out) (Kd.R_base ho0) hb)
           have n1_ := Aside0.mk (Kd.V_elder' (by (with_reducible repeat (first | apply Kd.V_alloc | apply Kd.V_drewN | apply Kd.V_drew)); exact HO138.out) (Kd.R_base ho0) hb)
           have n2_ := Aside0.mk (Kd.V_elder' (by (with_reducible repeat (first | apply Kd.V_alloc | apply Kd.V_drewN | apply Kd.V_drew)); exact HO143.out) (Kd.R_base ho0) hb)
           have n3_ := Aside0.mk (Kd.V_elder' (by (with_reducible repeat (first | apply Kd.V_alloc | apply Kd.V_drewN | apply Kd.V_drew)); exact HO152.out) (Kd.R_base ho0) hb)
           have n4_ := Aside0.mk (Kd.N_elder' (by (with_reducible repeat (first | apply Kd.N_alloc | apply Kd.N_drewN | apply Kd.N_drew)); exact HO155.out) (Kd.R_base ho0) hb)
           have n5_ := Aside0.mk (Kd.R_lower (Kd.R_new' ho0 (Kd.R_lt (by (with_reducible repeat (first | apply Kd.R_alloc | apply Kd.R_drewN | apply Kd.R_drew)); exact HO_4.out))) (below_size (by repeat (first | (with_reducible first | exact HB.out | apply below_alloc | apply pw_below_drewN | apply below_drew1 | refine below_set ?_ (IsS121.ge HI104.out)) | exact HB.out))))
           have n6_ := Aside0.mk (IsS121.below (by repeat (first | (with_reducible first | exact HI104.out | apply IsS121.alloc | apply IsS121.drewN | apply IsS121.drew | apply IsS121.set_1 | apply IsS121.set_2) | exact HI104.out)) hb)
           have n7_ := Aside0.mk (below_step (by repeat (first | (with_reducible first | exact HB.out | apply below_alloc | apply pw_below_drewN | apply below_drew1 | refine below_set ?_ (IsS121.ge HI104.out)) | exact HB.out)) hb)
           clear HO_4
           clear HO138
           clear HO143
           clear HO152
           clear HO155
           clear HI104
           clear HB
           have HO_4 := n0_
           have HO138 := n1_
           have HO143 := n2_
           have HO152 := n3_
           have HO155 := n4_
           have HO158 := n5_
           have HI104 := n6_
           have HB := n7_
           clear n0_ n1_ n2_ n3_ n4_ n5_ n6_ n7_
           (try clear hb)
           (try clear hb2)
           (try clear hk)
           (try clear hi)
           (try clear ho0)
           refine hK.out _ _ trivial (fun hHeld => ?_)
           clear hK K
           refine norm_ (a' := ?_) ?_ ?_
           rotate_left
           ·show Act.put _ (some 61) _ = _
            simp only [Act.put, List.setIfInBounds_toArray, List.set_cons_zero, List.set_cons_succ, i64_w, i32_w]
            rfl
           refine pure_ (i := 10) (N := some 4) (v := ?_) (a' := ?_) #[true, true, true, true, true, true, true, true, true, true, true] rfl rfl (any_of HT_.out (by kernel_rfl)) (fun _ _ _ h => h) (Or.inl ⟨by rfl, ?_⟩) ?_ ?_
           rotate_left
           ·intro w'
            go_simp
            with_reducible rfl
           rotate_left
           ·simp only [Act.put, List.setIfInBounds_toArray, List.set_cons_zero, List.set_cons_succ, i64_w, i32_w]
            rfl
           refine done_ (done_of HT_.out (by kernel_rfl)) ?_
           try go_wp2
           go_meet
           case rel => exact ⟨_, (t156), H', ⟨by have := HJ7.out; have := HJ23.out; first | omega | exact Nat.le_refl _⟩, ⟨by (with_reducible repeat (first | apply Kd.R_alloc | apply Kd.R_drewN | apply Kd.R_drew)); exact Kd.R_mono HO158.out (fun _ hk => trivial)⟩, ⟨by repeat (first | (with_reducible first | exact HI104.out | apply IsS121.alloc | apply IsS121.drewN | apply IsS121.drew | apply IsS121.set_1 | apply IsS121.set_2) | exact HI104.out)⟩, ⟨by repeat (first | (with_reducible first | exact HB.out | apply below_alloc | apply pw_below_drewN | apply below_drew1 | refine below_set ?_ (IsS121.ge HI104.out)) | exact HB.out)⟩⟩
          ·rw [if_neg c40] at H
           exact absurd H (by simp)
         ·rw [if_neg c36] at H
          exact absurd H (by simp)
        ·rw [if_neg c34] at H
         exact absurd H (by simp)
       ·rw [if_neg c33] at H
        exact absurd H (by simp)
      ·rw [if_neg c31] at H
       have c31b0 : (t118 == 2) = false := beq_eq_false_iff_ne.mpr c31
       have c31b1 : (t118 != 2) = true := bne_iff_ne.mpr c31
       (first | rw [c31b0] | (simp only [i64_w, i32_w]; rw [c31b0]) | skip)
       have H' := Aside0.mk H
       clear H
       go_wp2
       go_meet
       case rel => exact ⟨_, (x4_23), H', ⟨by have := HJ7.out; have := HJ23.out; first | omega | exact Nat.le_refl _⟩, ⟨by (with_reducible repeat (first | apply Kd.R_alloc | apply Kd.R_drewN | apply Kd.R_drew)); exact HO_4.out⟩, ⟨by repeat (first | (with_reducible first | exact HI104.out | apply IsS121.alloc | apply IsS121.drewN | apply IsS121.drew | apply IsS121.set_1 | apply IsS121.set_2) | exact HI104.out)⟩, ⟨by repeat (first | (with_reducible first | exact HB.out | apply below_alloc | apply pw_below_drewN | apply below_drew1 | refine below_set ?_ (IsS121.ge HI104.out)) | exact HB.out)⟩⟩
     case rest =>
      clear HC30
      try clear c1
      try clear p1
      try clear q1
      try clear hx1
      try clear c2
      try clear p2
      try clear q2
      try clear hx2
      try clear hf2
      try clear c3
      try clear p3
      try clear q3
      try clear hx3
      try clear hf3
      try clear c4
      try clear q4
      try clear c5
      try clear c6
      try clear p6
      try clear c7
      try clear p12
      try clear q12
      try clear hx12
      try clear p13
      try clear q13
      try clear hx13
      try clear c17
      try clear c17b0
      try clear c17b1
      try clear c18
      try clear c18b0
      try clear c19
      try clear c19b0
      try clear p20
      try clear q20
      try clear hx20
      try clear hf20
      try clear c25
      try clear c25b0
      try clear c25b1
      try clear c26
      try clear c26b0
      try clear c26b1
      try clear c27
      try clear c27b0
      try clear c27b1
      try clear q29
      try clear c31
      try clear c31b0
      try clear c31b1
      try clear c32
      try clear c33
      try clear c33b0
      try clear c34
      try clear c34b0
      try clear p35
      try clear q35
      try clear hx35
      try clear hf35
      try clear c36
      try clear c36b0
      try clear c36b1
      try clear c37
      try clear c37b0
      try clear c40
      try clear c40b0
      try clear c40b1
      try clear c46
      try clear q46
      try clear c47
      try clear q47
      try clear c48
      try clear q48
      try clear c50
      try clear hx127_0
      try clear hx132_0
      try clear hx20_0
      try clear hx35_0
      try clear p1
      try clear p12
      try clear p127
      try clear p132
      try clear p2
      try clear p20
      try clear p35
      try clear p6
      try clear q1
      try clear q12
      try clear q127
      try clear q132
      try clear q2
      try clear q20
      try clear q29
      try clear q35
      try clear q46
      try clear q47
      try clear q48
      obtain ⟨kq, x4_29, HA, HJ29, HO_4, HI104, HB⟩ := hcut
      cases kq with
      | zero => exact absurd HA.out (by simp [spec_DrawDecodeSnap.j2])
      | succ kj29 =>
       have H := HA.out
       clear HA
       simp only [spec_DrawDecodeSnap.j2] at H
       by_cases c55 : t118 = 3
       ·rw [if_pos c55] at H
        have c55b0 : (t118 == 3) = true := beq_iff_eq.mpr c55
        have c55b1 : (t118 != 3) = false := bne_eq_false_iff_eq.mpr c55
        clear c55
        by_cases c56 : 64 ≤ (x4_29.length : Int)
        ·rw [if_pos c56] at H
         have c56b0 := eq_true c56
         have c56b1 : decide (64 ≤ (x4_29.length : Int)) = true := decide_eq_true c56
         clear c56
         obtain ⟨y159, hy159⟩ : ∃ y_ : List Int, y_ = (x4_29.take (64 : Int).toNat) := ⟨_, rfl⟩
         replace H : ((spec_l6DrawSnap.f kj29 t101 t125 t126).bind fun bt162 => ((spec_EncodeSnap.f kj29 bt162.1 bt162.2.1 bt162.2.2.1 bt162.2.2.2.1).bind fun t172 => (if 64 ≤ (t172.length : Int) then ((some (t172.drop 64 : List Int)).bind fun y175 => (if y159.length + y175.length < 140737488355328 then (some (y159 ++ y175)) else (none))) else (none)))) = some r := by first | (rw [hy159]; with_reducible exact H) | (have H2_ := (Option.bind_some _ _).symm.trans H; rw [hy159]; with_reducible exact H2_) | (have H2_ := (Option.bind_some _ _).symm.trans H; with_reducible exact H2_) | with_reducible exact H | (rw [hy159]; exact H) | exact H
         have Ny159 := Aside0.mk hy159
         clear hy159
         replace H := Option.bind_eq_some_iff.mp H
         obtain ⟨⟨t162, t163, t164, t167, t170, t171⟩, A570, H⟩ := H
         replace H : ((spec_EncodeSnap.f kj29 t162 t163 t164 t167).bind fun t172 => (if 64 ≤ (t172.length : Int) then ((some (t172.drop 64 : List Int)).bind fun y175 => (if y159.length + y175.length < 140737488355328 then (some (y159 ++ y175)) else (none))) else (none))) = some r := H
         have A57 := Aside0.mk A570
         clear A570
         replace H := Option.bind_eq_some_iff.mp H
         obtain ⟨t172, A580, H⟩ := H
         replace H : (if 64 ≤ (t172.length : Int) then ((some (t172.drop 64 : List Int)).bind fun y175 => (if y159.length + y175.length < 140737488355328 then (some (y159 ++ y175)) else (none))) else (none)) = some r := H
         have A58 := Aside0.mk A580
         clear A580
         by_cases c59 : 64 ≤ (t172.length : Int)
         ·rw [if_pos c59] at H
          have c59b0 := eq_true c59
          have c59b1 : decide (64 ≤ (t172.length : Int)) = true := decide_eq_true c59
          clear c59
          obtain ⟨y175, hy175⟩ : ∃ y_ : List Int, y_ = (t172.drop 64) := ⟨_, rfl⟩
          replace H : (if y159.length + y175.length < 140737488355328 then (some (y159 ++ y175)) else (none)) = some r := by first | (rw [hy175]; with_reducible exact H) | (have H2_ := (Option.bind_some _ _).symm.trans H; rw [hy175]; with_reducible exact H2_) | (have H2_ := (Option.bind_some _ _).symm.trans H; with_reducible exact H2_) | with_reducible exact H | (rw [hy175]; exact H) | exact H
          have Ny175 := Aside0.mk hy175
          clear hy175
          by_cases c60 : y159.length + y175.length < 140737488355328
          ·rw [if_pos c60] at H
           have LMc60 := Aside0.mk c60
           clear c60
           obtain ⟨y180, hy180⟩ : ∃ y_ : List Int, y_ = (y159 ++ y175) := ⟨_, rfl⟩
           replace H : (some y180) = some r := by first | (rw [hy180]; with_reducible exact H) | (have H2_ := (Option.bind_some _ _).symm.trans H; rw [hy180]; with_reducible exact H2_) | (have H2_ := (Option.bind_some _ _).symm.trans H; with_reducible exact H2_) | with_reducible exact H | (rw [hy180]; exact H) | exact H
           have Ny180 := Aside0.mk hy180
           clear hy180
           obtain rfl := Option.some.inj H
           try go_wp2
           have n0_ := Aside0.mk (Kd.R_drew HO_4.out)
           have n1_ := Aside0.mk (IsS121.drew HI104.out)
           have n2_ := Aside0.mk (below_drew1 HB.out)
           clear HO_4
           clear HI104
           clear HB
           have HO_4 := n0_
           have HI104 := n1_
           have HB := n2_
           clear n0_ n1_ n2_
           obtain ⟨Ao62, co62, eo62⟩ := Kd.R_slice HO_4.out
           (first | subst eo62 | (injection eo62 with f1_ f2_ f3_; have f4_ := f1_.symm; have f5_ := f3_.symm; clear f1_ f2_ f3_; subst f4_; subst f5_))
           have q63 : (64 : Int) ≤ ((x4_29.length : Int) : Int) := of_decide_eq_true (by first | (with_reducible assumption) | assumption)
           obtain ⟨i063, hi063, _, hsz63, _⟩ := info_parts info5
           have hcut63 := cut_to (P := Try.prog) 25 5 .i64 Try.underlying25 hi063 Ao62 x4_29.length co62 64 (by omega) q63 (Kd.R_reads' HO_4.out).2.1
           have hr63 := Kd.R_take (m := (64 : Int).toNat) HO_4.out (by omega)
           have hy63 : y159.length = (64 : Int).toNat := (by rw [Ny159.out, List.length_take]; omega)
           rw [← Ny159.out] at hr63
           rw [← hy63] at hr63 hcut63
           clear hy63 hi063 hsz63 HO_4
           have HO161 := Aside0.mk hr63
           clear hr63
           replace q63 := eq_true q63
           refine start_ (n := 8) (S := fun w' => True) (ds := []) #[false, false, false, false, false, false, false, false] (by kernel_rfl) rfl rfl trivial (fun hHeld => ?_); refine with_tabW spec_DrawDecodeSnap.tab15 spec_DrawDecodeSnap.bits15 (fun HT_ HW_ => ?_)
           generalize wc.drew = w61 at HO_4 HI104 HB HO161 hHeld ⊢
           refine pure_ (i := 0) (N := some 64) (v := ?_) (a' := ?_) #[true, false, false, false, false, false, false, false] rfl rfl (any_of HT_.out (by kernel_rfl)) (fun _ _ _ h => h) (Or.inl ⟨by rfl, ?_⟩) ?_ ?_
           rotate_left
           ·intro w'
            go_simp
            with_reducible rfl
           rotate_left
           ·simp only [Act.put, List.setIfInBounds_toArray, List.set_cons_zero, List.set_cons_succ, i64_w, i32_w]
            rfl
           refine pure_ (i := 1) (N := some 65) (v := ?_) (a' := ?_) #[true, true, false, false, false, false, false, false] rfl rfl (any_of HT_.out (by kernel_rfl)) (fun _ _ _ h => h) (Or.inl ⟨by rfl, ?_⟩) ?_ ?_
           rotate_left
           ·intro w'
            go_simp
            with_reducible rfl
           rotate_left
           ·simp only [Act.put, List.setIfInBounds_toArray, List.set_cons_zero, List.set_cons_succ, i64_w, i32_w]
            rfl
           refine pure_ (i := 2) (N := some 66) (v := ?_) (a' := ?_) #[true, true, true, false, false, false, false, false] rfl rfl (any_of HT_.out (by kernel_rfl)) (fun _ _ _ h => h) (Or.inl ⟨by rfl, ?_⟩) ?_ ?_
           rotate_left
           ·intro w'
            go_simp
            with_reducible rfl
           rotate_left
           ·simp only [Act.put, List.setIfInBounds_toArray, List.set_cons_zero, List.set_cons_succ, i64_w, i32_w]
            rfl
           refine one_ (i := 3) (N := some 67) #[true, true, true, true, false, false, false, false] rfl rfl (one_of HT_.out (by kernel_rfl)) (by decide) (fun K hK => ?_)
           refine goes_ Try.func73 (by kernel_rfl) rfl #[.pointer (some ⟨g104, 0, none⟩)] (by rfl) rfl rfl (by (try simp only [List.map_toArray, List.map_cons, List.map_nil]); first | done | rfl | (simp only [List.length_drop, List.length_take]; rfl)) ?_
           with_reducible refine (spec_l6DrawSnap.calls kj29 g104 t101 t125 t126 t162 t163 t164 t167 t170 t171 w _ ?side1 ?side2 A57.out).mono ?_
           (case side1 => repeat (first | (with_reducible first | exact HI104.out | apply IsS121.alloc | apply IsS121.drewN | apply IsS121.drew | apply IsS121.set_1 | apply IsS121.set_2) | exact HI104.out))
           (case side2 => repeat (first | (with_reducible first | exact HB.out | apply below_alloc | apply pw_below_drewN | apply below_drew1 | refine below_set ?_ (IsS121.ge HI104.out)) | exact HB.out))
           rintro e w64 ⟨v165, v168, rfl, ho0, ho1, hi, hb, hk⟩
           refine ⟨_, rfl, ?_⟩
           have n0_ := Aside0.mk (Kd.R_mono (Kd.R_keep (IsS121.apart (show IsS121 w _ g104 t101 t125 t126 from by repeat (first | (with_reducible first | exact HI104.out | apply IsS121.alloc | apply IsS121.drewN | apply IsS121.drew | apply IsS121.set_1 | apply IsS121.set_2) | exact HI104.out)) (by (with_reducible repeat (first | apply Kd.R_alloc | apply Kd.R_drewN | apply Kd.R_drew)); exact HO161.out) (by decide)) hk (fun _ h => h.2)) (fun _ h => h.1))
           have n1_ := Aside0.mk (Kd.R_lower ho0 (below_size (by repeat (first | (with_reducible first | exact HB.out | apply below_alloc | apply pw_below_drewN | apply below_drew1 | refine below_set ?_ (IsS121.ge HI104.out)) | exact HB.out))))
           have n2_ := Aside0.mk (Kd.R_lower ho1 (below_size (by repeat (first | (with_reducible first | exact HB.out | apply below_alloc | apply pw_below_drewN | apply below_drew1 | refine below_set ?_ (IsS121.ge HI104.out)) | exact HB.out))))
           have n3_ := Aside0.mk (hb)
           have n4_ := Aside0.mk (hi)
           clear HO161
           clear HB
           clear HI104
           have HO161 := n0_
           have HO166 := n1_
           have HO169 := n2_
           have HB := n3_
           have HI104 := n4_
           clear n0_ n1_ n2_ n3_ n4_
           (try clear hb)
           (try clear hb2)
           (try clear hk)
           (try clear hi)
           (try clear ho0)
           (try clear ho1)
           obtain ⟨Ao65, co65, eo65⟩ := Kd.R_slice HO166.out
           (first | subst eo65 | (injection eo65 with f1_ f2_ f3_; have f4_ := f1_.symm; have f5_ := f3_.symm; clear f1_ f2_ f3_; subst f4_; subst f5_))
           obtain ⟨Ao66, co66, eo66⟩ := Kd.R_slice HO169.out
           (first | subst eo66 | (injection eo66 with f1_ f2_ f3_; have f4_ := f1_.symm; have f5_ := f3_.symm; clear f1_ f2_ f3_; subst f4_; subst f5_))
           refine hK.out _ _ trivial (fun hHeld => ?_)
           clear hK K
           refine norm_ (a' := ?_) ?_ ?_
           rotate_left
           ·show Act.put _ (some 67) _ = _
            simp only [Act.put, List.setIfInBounds_toArray, List.set_cons_zero, List.set_cons_succ, i64_w, i32_w]
            rfl
           refine one_ (i := 4) (N := some 68) #[true, true, true, true, true, false, false, false] rfl rfl (one_of HT_.out (by kernel_rfl)) (by decide) (fun K hK => ?_)
           refine goes_ Try.func25 (by kernel_rfl) rfl #[.agg #[.int .u32 t162, .int .u32 t163, .slice Ao65 t164.length co65, .slice Ao66 t167.length co66]] (by rfl) rfl rfl (by (try simp only [List.map_toArray, List.map_cons, List.map_nil]); first | done | rfl | (simp only [List.length_drop, List.length_take]; rfl)) ?_
           with_reducible refine (spec_EncodeSnap.calls kj29 t162 t163 _ _ t164 _ _ t167 t172 _ ?side1 ?side2 ?side3 ?side4 A58.out).mono ?_
           (case side1 => repeat (first | exact (Kd.R_reads' HO166.out).2.2 | (with_reducible refine Kd.C_alloc ?_ _) | (with_reducible refine Kd.C_drewN ?_ _) | (with_reducible refine Kd.C_drew ?_)))
           (case side2 => exact (Kd.R_reads' HO166.out).2.1)
           (case side3 => repeat (first | exact (Kd.R_reads' HO169.out).2.2 | (with_reducible refine Kd.C_alloc ?_ _) | (with_reducible refine Kd.C_drewN ?_ _) | (with_reducible refine Kd.C_drew ?_)))
           (case side4 => exact (Kd.R_reads' HO169.out).2.1)
           rintro e w67 ⟨v173, rfl, ho0, hb⟩
           refine ⟨_, rfl, ?_⟩
           have n0_ := Aside0.mk (Kd.R_elder' (by (with_reducible repeat (first | apply Kd.R_alloc | apply Kd.R_drewN | apply Kd.R_drew)); exact HO161.out) (Kd.R_base ho0) hb)
           have n1_ := Aside0.mk (Kd.R_below (by (with_reducible repeat (first | apply Kd.R_alloc | apply Kd.R_drewN | apply Kd.R_drew)); exact HO166.out) hb)
           have n2_ := Aside0.mk (Kd.R_below (by (with_reducible repeat (first | apply Kd.R_alloc | apply Kd.R_drewN | apply Kd.R_drew)); exact HO169.out) hb)
           have n3_ := Aside0.mk (Kd.R_lower (Kd.R_new' ho0 (Kd.R_lt (by (with_reducible repeat (first | apply Kd.R_alloc | apply Kd.R_drewN | apply Kd.R_drew)); exact HO161.out))) (below_size (by repeat (first | (with_reducible first | exact HB.out | apply below_alloc | apply pw_below_drewN | apply below_drew1 | refine below_set ?_ (IsS121.ge HI104.out)) | exact HB.out))))
           have n4_ := Aside0.mk (IsS121.below (by repeat (first | (with_reducible first | exact HI104.out | apply IsS121.alloc | apply IsS121.drewN | apply IsS121.drew | apply IsS121.set_1 | apply IsS121.set_2) | exact HI104.out)) hb)
           have n5_ := Aside0.mk (below_step (by repeat (first | (with_reducible first | exact HB.out | apply below_alloc | apply pw_below_drewN | apply below_drew1 | refine below_set ?_ (IsS121.ge HI104.out)) | exact HB.out)) hb)
           clear HO161
           clear HO166
           clear HO169
           clear HI104
           clear HB
           have HO161 := n0_
           have HO166 := n1_
           have HO169 := n2_
           have HO174 := n3_
           have HI104 := n4_
           have HB := n5_
           clear n0_ n1_ n2_ n3_ n4_ n5_
           (try clear hb)
           (try clear hb2)
           (try clear hk)
           (try clear hi)
           (try clear ho0)
           obtain ⟨Ao69, co69, eo69⟩ := Kd.R_slice HO174.out
           (first | subst eo69 | (injection eo69 with f1_ f2_ f3_; have f4_ := f1_.symm; have f5_ := f3_.symm; clear f1_ f2_ f3_; subst f4_; subst f5_))
           have q68 : (64 : Int) ≤ ((t172.length : Int) : Int) := of_decide_eq_true (by first | (with_reducible assumption) | assumption)
           obtain ⟨i068, hi068, _, hsz68, _⟩ := info_parts info5
           have hroom68 : t172.length ≤ co69 := (Kd.R_reads' HO174.out).2.1
           have hC68 : Kd.F (Kd.int .u8) _ _ Ao69 t172.length t172 := (Kd.V_at (base := w.heap.size) (Kd.R_V (IsS121.apart HI104.out (Kd.R_apart' (Kd.R_apart' (HO174.out) (Kd.R_typed HO166.out) (by decide)) (Kd.R_typed HO169.out) (by decide)) (by decide)))).2.2
           have hcut68 := cut_from (P := Try.prog) 25 5 .i64 Try.underlying25 hi068 1 hsz68 Ao69 t172.length co69 64 (by omega) q68
           have hr68 := Kd.F_cut (m := (64 : Int).toNat) (c := co69) hC68 (by omega) hroom68
           obtain ⟨A68, hA68⟩ : ∃ A1, A1 = (if co69 = (64 : Int).toNat then Ao69 else (Ao69 : Option Addr).map (·.add ((64 : Int).toNat * 1))) := ⟨_, rfl⟩
           obtain ⟨c68, hc68⟩ : ∃ c1, c1 = co69 - (64 : Int).toNat := ⟨_, rfl⟩
           have hy68 : y175.length = t172.length - (64 : Int).toNat := (by rw [Ny175.out, List.length_drop] <;> omega)
           rw [show (t172).drop (64 : Int).toNat = y175 from Ny175.out.symm] at hr68
           replace hr68 : Kd.F (Kd.int .u8) _ _ A68 y175.length y175 := (by rw [hA68]; exact hr68)
           rw [← hy68, ← hA68, ← hc68] at hcut68
           have HO179 := Aside0.mk (show Kd.V (Kd.int .u8) 5 _ w.heap.size _ (.slice A68 y175.length c68) y175 from Kd.V_mk (by rw [hy68, hc68]; exact Nat.sub_le_sub_right hroom68 _) hr68)
           have HC179 := Aside0.mk (show y175.length ≤ c68 from by rw [hy68, hc68]; exact Nat.sub_le_sub_right hroom68 _)
           clear hr68 hC68 hroom68 hi068 hsz68 hc68
           have KY68 := Aside0.mk hy68
           have KA68 := Aside0.mk hA68
           clear hy68 hA68
           replace q68 := eq_true q68
           refine hK.out _ _ trivial (fun hHeld => ?_)
           clear hK K
           refine norm_ (a' := ?_) ?_ ?_
           rotate_left
           ·show Act.put _ (some 68) _ = _
            simp only [Act.put, List.setIfInBounds_toArray, List.set_cons_zero, List.set_cons_succ, i64_w, i32_w]
            rfl
           refine pure_ (i := 5) (N := some 69) (v := ?_) (a' := ?_) #[true, true, true, true, true, true, false, false] rfl rfl (any_of HT_.out (by kernel_rfl)) (fun _ _ _ h => h) (Or.inl ⟨by rfl, ?_⟩) ?_ ?_
           rotate_left
           ·intro w'
            go_simp
            with_reducible rfl
           rotate_left
           ·simp only [Act.put, List.setIfInBounds_toArray, List.set_cons_zero, List.set_cons_succ, i64_w, i32_w]
            rfl
           refine one_ (i := 6) (N := some 70) #[true, true, true, true, true, true, true, false] rfl rfl (one_of HT_.out (by kernel_rfl)) (by decide) (fun K hK => ?_)
           refine Kd.R_append_rows_step (Kd.int .u8) (w0 := w) w.heap.size (by rfl) (.tmp 65) (.tmp 69) 25 5 (.int .u8 0) 1 rfl Try.underlying25 info5 rfl (by decide) (by omega) (.slice Ao62 y159.length co62) y159 y175 _ _ _ (fun k_ => some k_ ≠ (.slice Ao69 t172.length co69 : Value).ownBlock) (fun _ => False) rfl rfl ?aO ?aR (fun _ _ h => h) (fun _ h => h.elim) ?aF ?aB ?aS ?aL ?_
           (case aR => repeat (first | exact (Kd.V_reads' HO179.out).2.2 | (with_reducible refine Kd.C_alloc ?_ _) | (with_reducible refine Kd.C_drewN ?_ _) | (with_reducible refine Kd.C_drew ?_)))
           (case aB => exact (by repeat (first | (with_reducible first | exact HB.out | apply below_alloc | apply pw_below_drewN | apply below_drew1 | refine below_set ?_ (IsS121.ge HI104.out)) | exact HB.out)))
           (case aF => exact (fun k_ hk => Kd.fresh' (Kd.R_lt (by (with_reducible repeat (first | apply Kd.R_alloc | apply Kd.R_drewN | apply Kd.R_drew)); exact HO174.out)) k_ hk))
           (case aO => exact (by (with_reducible repeat (first | apply Kd.R_alloc | apply Kd.R_drewN | apply Kd.R_drew)); exact Kd.R_mono HO161.out (fun _ hk => hk.2)))
           (case aS => exact (below_size (by repeat (first | (with_reducible first | exact HB.out | apply below_alloc | apply pw_below_drewN | apply below_drew1 | refine below_set ?_ (IsS121.ge HI104.out)) | exact HB.out))))
           (case aL => have := LMc60.out; omega)
           intro v181 w70 ho hb hg hat
           rw [← Ny180.out] at ho
           have n0_ := Aside0.mk (IsS121.grown (by repeat (first | (with_reducible first | exact HI104.out | apply IsS121.alloc | apply IsS121.drewN | apply IsS121.drew | apply IsS121.set_1 | apply IsS121.set_2) | exact HI104.out)) hg (IsS121.own_ne HI104.out HO161.out (by decide)))
           have n1_ := Aside0.mk (Kd.R_over' (by (with_reducible repeat (first | apply Kd.R_alloc | apply Kd.R_drewN | apply Kd.R_drew)); exact HO166.out) (Kd.R_typed (by (with_reducible repeat (first | apply Kd.R_alloc | apply Kd.R_drewN | apply Kd.R_drew)); exact HO161.out)) (by decide) hg)
           have n2_ := Aside0.mk (Kd.R_over' (by (with_reducible repeat (first | apply Kd.R_alloc | apply Kd.R_drewN | apply Kd.R_drew)); exact HO169.out) (Kd.R_typed (by (with_reducible repeat (first | apply Kd.R_alloc | apply Kd.R_drewN | apply Kd.R_drew)); exact HO161.out)) (by decide) hg)
           have n3_ := Aside0.mk (Kd.R_after (ok := (fun _ => True)) (by (with_reducible repeat (first | apply Kd.R_alloc | apply Kd.R_drewN | apply Kd.R_drew)); exact HO174.out) hg hat)
           have n4_ := Aside0.mk (Kd.V_afterv (ok := (fun k_ => some k_ ≠ (.slice Ao65 t164.length co65 : Value).ownBlock ∧ some k_ ≠ (.slice Ao66 t167.length co66 : Value).ownBlock ∧ k_ ≠ g104)) (by (with_reducible repeat (first | apply Kd.V_alloc | apply Kd.V_drewN | apply Kd.V_drew)); exact Kd.V_mono HO179.out (fun _ hk => ⟨⟨hk.1.1.2, ⟨hk.1.2, hk.2⟩⟩, hk.1.1.1.2⟩)) hg hat)
           have n5_ := Aside0.mk (hb)
           have n6_ := Aside0.mk (ho)
           clear HI104
           clear HO166
           clear HO169
           clear HO174
           clear HO179
           clear HB
           clear HO161
           have HI104 := n0_
           have HO166 := n1_
           have HO169 := n2_
           have HO174 := n3_
           have HO179 := n4_
           have HB := n5_
           have HO182 := n6_
           clear n0_ n1_ n2_ n3_ n4_ n5_ n6_
           clear ho hb hg hat
           refine hK.out _ _ trivial (fun hHeld => ?_)
           clear hK K
           refine norm_ (a' := ?_) ?_ ?_
           rotate_left
           ·show Act.put _ (some 70) _ = _
            simp only [Act.put, List.setIfInBounds_toArray, List.set_cons_zero, List.set_cons_succ, i64_w, i32_w]
            rfl
           refine pure_ (i := 7) (N := some 4) (v := ?_) (a' := ?_) #[true, true, true, true, true, true, true, true] rfl rfl (any_of HT_.out (by kernel_rfl)) (fun _ _ _ h => h) (Or.inl ⟨by rfl, ?_⟩) ?_ ?_
           rotate_left
           ·intro w'
            go_simp
            with_reducible rfl
           rotate_left
           ·simp only [Act.put, List.setIfInBounds_toArray, List.set_cons_zero, List.set_cons_succ, i64_w, i32_w]
            rfl
           refine done_ (done_of HT_.out (by kernel_rfl)) ?_
           try go_wp2
           go_ret
           exact ⟨_, by first | rfl | (simp [errW_none, errW_some] <;> rfl) | (simp [*, errW_none, errW_some] <;> rfl), by (with_reducible repeat (first | apply Kd.R_alloc | apply Kd.R_drewN | apply Kd.R_drew)); exact Kd.R_mono HO182.out (fun _ hk => trivial), by repeat (first | (with_reducible first | exact HB.out | apply below_alloc | apply pw_below_drewN | apply below_drew1 | refine below_set ?_ (IsS121.ge HI104.out)) | exact HB.out)⟩
          ·rw [if_neg c60] at H
           exact absurd H (by simp)
         ·rw [if_neg c59] at H
          exact absurd H (by simp)
        ·rw [if_neg c56] at H
         exact absurd H (by simp)
       ·rw [if_neg c55] at H
        have c55b0 : (t118 == 3) = false := beq_eq_false_iff_ne.mpr c55
        have c55b1 : (t118 != 3) = true := bne_iff_ne.mpr c55
        obtain rfl := Option.some.inj H
        go_wp2
        go_ret
        exact ⟨_, by first | rfl | (simp [errW_none, errW_some] <;> rfl) | (simp [*, errW_none, errW_some] <;> rfl), by (with_reducible repeat (first | apply Kd.R_alloc | apply Kd.R_drewN | apply Kd.R_drew)); exact HO_4.out, by repeat (first | (with_reducible first | exact HB.out | apply below_alloc | apply pw_below_drewN | apply below_drew1 | refine below_set ?_ (IsS121.ge HI104.out)) | exact HB.out)⟩
end Go.Proofs.Ytgfadfahbhcllaa.Q
end
section
namespace Go.Proofs.Ytgfadfahbhcllaa.P
open Go.RowKit Go.Proofs.YtgfadfahbhcllaaW.PrintWords Go.Proofs.YtgfadfahbhcllaaW.PrintMore Go.Proofs.Ytgfadfahbhcllaa.Q
set_option linter.unusedVariables false
set_option linter.unusedSimpArgs false
def sGen (l : List Int) : Int := le ((l.drop 0).take 4)
def sTail (l : List Int) : Int := le ((l.drop 8).take 4)
def sCnt (l : List Int) : Int := l.getD 6 0
def sDen1 (l : List Int) (j : Nat) : Int := le ((l.drop (denAt j)).take 2)
def sDeny (l : List Int) (i : Nat) : List Int := (List.range i).map (sDen1 l)
def bitOf (l : List Int) (v : Nat) : Bool := decide ((rd l ((12 + v / 8 : Nat) : Int) / 2 ^ (v % 8)) % 2 = 1)
def sUsed (l : List Int) (i : Nat) : List Int := ((List.range i).filter (bitOf l)).map fun (v : Nat) => (v : Int)
theorem sDeny_succ (l : List Int) (i : Nat) : sDeny l (i + 1) = sDeny l i ++ [sDen1 l i] := by unfold sDeny; rw [List.range_succ, List.map_append]; rfl
theorem sDeny_length (l : List Int) (i : Nat) : (sDeny l i).length = i := by unfold sDeny; rw [List.length_map, List.length_range]
theorem sUsed_on {l : List Int} {i : Nat} (h : bitOf l i = true) : sUsed l (i + 1) = sUsed l i ++ [(i : Int)] := by
 unfold sUsed
 rw [List.range_succ, List.filter_append, List.map_append]
 simp [List.filter, h]
theorem sUsed_off {l : List Int} {i : Nat} (h : bitOf l i = false) : sUsed l (i + 1) = sUsed l i := by
 unfold sUsed
 rw [List.range_succ, List.filter_append, List.map_append]
 simp [List.filter, h]
theorem sUsed_length (l : List Int) (i : Nat) : (sUsed l i).length ≤ i := by
 unfold sUsed
 rw [List.length_map]
 exact Nat.le_trans (List.length_filter_le _ _) (by simp)
def isSnap (l : List Int) : Bool := decide (sCnt l ≤ 16) && (goodSnap (sGen l) (sTail l) (sDeny l (sCnt l).toNat) (sUsed l 256) && decide (snapCode (sGen l) (sTail l) (sDeny l (sCnt l).toNat) (sUsed l 256) = l))
def decS (l : List Int) : Bool × Int × Int × List Int × List Int := if l.length = 128 ∧ isSnap l = true then (true, sGen l, sTail l, sDeny l (sCnt l).toNat, sUsed l 256) else (false, 0, 0, [], [])
theorem sGen_range {l : List Int} (h : U8s l) (hl : l.length = 128) : 0 ≤ sGen l ∧ sGen l ≤ 4294967295 := by
 have h1 := le_range ((h.drop 0).take 4)
 rw [show ((l.drop 0).take 4).length = 4 from by rw [List.length_take, List.length_drop]; omega] at h1
 unfold sGen
 omega
theorem sTail_range {l : List Int} (h : U8s l) (hl : l.length = 128) : 0 ≤ sTail l ∧ sTail l ≤ 4294967295 := by
 have h1 := le_range ((h.drop 8).take 4)
 rw [show ((l.drop 8).take 4).length = 4 from by rw [List.length_take, List.length_drop]; omega] at h1
 unfold sTail
 omega
theorem sDen1_range {l : List Int} (h : U8s l) (hl : l.length = 128) {j : Nat} (hj : j < 16) : 0 ≤ sDen1 l j ∧ sDen1 l j < 65536 := by
 have h1 := le_range ((h.drop (denAt j)).take 2)
 have := denAt_fit hj
 rw [show ((l.drop (denAt j)).take 2).length = 2 from by rw [List.length_take, List.length_drop]; omega] at h1
 unfold sDen1
 omega
theorem sCnt_at {l : List Int} (hl : l.length = 128) : l[6]? = some (sCnt l) := by
 unfold sCnt
 rw [List.getD_eq_getElem?_getD, List.getElem?_eq_getElem (by omega)]
 rfl
theorem rd_get {l : List Int} {i : Nat} (hi : i < l.length) : l[i]? = some (rd l (i : Int)) := by
 obtain ⟨b, hb⟩ := some_at hi
 rw [hb, rd_at hb]
end Go.Proofs.Ytgfadfahbhcllaa.P
end
section
namespace Go.Proofs.Ytgfadfahbhcllaa.Q
open Go.RowKit Go.Proofs.YtgfadfahbhcllaaW.PrintWords Go.Proofs.YtgfadfahbhcllaaW.PrintLast Go.Proofs.YtgfadfahbhcllaaW.PrintMore Go.Proofs.Ytgfadfahbhcllaa.LK
set_option linter.unusedVariables false
set_option linter.unusedSimpArgs false
theorem and8_one {x : Int} (h0 : 0 ≤ x) (h1 : x ≤ 255) : Go.bits .and .u8 x 1 = x % 2 := by
 obtain ⟨n, rfl⟩ := Int.eq_ofNat_of_zero_le h0
 unfold Go.bits
 rw [IntKind.wrap_u8]
 have e : ((BitVec.ofInt IntKind.u8.bits (n : Int)) &&& (BitVec.ofInt IntKind.u8.bits 1)).toNat = n % 2 := by
  rw [BitVec.toNat_and, BitVec.ofInt_natCast, BitVec.toNat_ofNat]
  show n % 256 &&& 1 = n % 2
  rw [Nat.mod_eq_of_lt (by omega), Nat.and_one_is_mod]
 simp only [e]
 omega
section
variable {P : Program} {o : Oper} {a : Act} {W : World}
theorem run_ld_cells {T : Nat} {x : Operand} {ad : Addr} {cs : List Value} {d : TypeDesc} (ho : o.op = .load T x) (hx : a.eval x = .pointer (some ad)) (h : ∀ j v, cs[j]? = some v → W.cell? (ad.add j) = some v)
  (hu : P.underlying T = some d) (hd : (match d with | .struct _ | .array _ _ => true | _ => false) = true) (hi : (P.info? T).map (·.size) = some cs.length) :
  (execOp a.eval o).run P W = .ok (.value (.agg cs.toArray)) W := by
 have hl := run_loadCells_list (P := P) W ad cs h
 have hv : (loadVar T ad).run P W = .ok (.agg cs.toArray) W := by
  cases hq : P.info? T with
  | none => simp [hq] at hi
  | some i =>
   have hs : i.size = cs.length := by simpa [hq] using hi
   have hagg : (isAgg T).run P W = .ok true W := by
    unfold isAgg
    rw [Sem.run_bind, run_underlying hu W]
    cases d <;> simp_all
   simp [loadVar, Sem.run_bind, hagg, sizeOf, typeInfo, hq, hs, hl]
 unfold execOp
 simp only [ho, hx, Instr.loadAt, Instr.sureAddr, Sem.run_bind, Sem.run_pure, Result.andThen_ok, hv]
theorem run_arr {T e n len cap : Nat} {x : Operand} {A : Option Addr} (ho : o.op = .sliceToArrayPointer T x) (hx : a.eval x = .slice A len cap) (hu : P.underlying T = some (.array n e)) (hn : n ≤ len) :
  (execOp a.eval o).run P W = .ok (.value (.pointer A)) W := by
 unfold execOp
 simp only [ho, hx, Sem.run_bind, run_arrayAt W T e n A len cap hu hn]
 rfl
end
theorem valW' {P : Program} {ops : Array Oper} {rest : List Oper} {o : Oper} {a : Act} {Q : Exit → Act → World → Prop} {W W' : World} (hw : Region.wanted o (yielded ops a.tmps) = true) {v : Value} (hrun : (execOp a.eval o).run P W = .ok (.value v) W') (h : wpList P ops Q rest (a.put o.dst v) W') : wpList P ops Q (o :: rest) a W := by
 refine wants hw fun K hK => ?_
 unfold Oper.wp
 rw [hrun]
 exact hK _ _ h
def Two (w : World) (b : Nat) (v2 v3 : Value) (xs u : List Int) : Prop := Kd.R (Kd.int .i64) 2 w b (fun k_ => some k_ ≠ v3.ownBlock) v2 xs ∧ Kd.R (Kd.int .i64) 2 w b (fun k_ => some k_ ≠ v2.ownBlock) v3 u
theorem Two.below {w w' : World} {b : Nat} {v2 v3 : Value} {xs u : List Int} (h : Two w b v2 v3 xs u) (hb : Below w.heap.size w w') : Two w' b v2 v3 xs u := ⟨Kd.R_below h.1 hb, Kd.R_below h.2 hb⟩
theorem Two.other {w w' : World} {b g t : Nat} {cs : Array Value} {v2 v3 : Value} {xs u : List Int} (h : Two w b v2 v3 xs u) (hb : w.heap[g]? = some (.cells cs t (0, 0))) (ht : ∀ q, q ∈ 2 :: (Kd.int .i64).E → q ≠ t) (hs : Stp (fun k => k = g) w w') : Two w' b v2 v3 xs u := ⟨R_other h.1 hb ht hs, R_other h.2 hb ht hs⟩
theorem Two.nil {w : World} {b : Nat} {v2 : Value} {xs : List Int} (h : Kd.R (Kd.int .i64) 2 w b (fun _ => True) v2 xs) : Two w b v2 (.slice none 0 0) xs [] := ⟨Kd.R_mono h (fun k _ => by simp [Value.ownBlock]), Kd.R_nil _ _ _ _ _⟩
theorem Two.none {w : World} {b : Nat} : Two w b (.slice none 0 0) (.slice none 0 0) [] [] := Two.nil (Kd.R_nil _ _ _ _ _)
set_option maxHeartbeats 8000000 in
set_option maxRecDepth 100000 in
theorem snap_calls {l : List Int} {w : World} (hl : l.length = 128) (hu : P.U8s l) :
  Calls Try.prog 71 #[.agg (bytesV l).toArray] w fun e w' => ∃ v2 v3, e = .returned (.tuple #[.agg #[.int .u32 (P.decS l).2.1, .int .u32 (P.decS l).2.2.1, v2, v3], .bool (P.decS l).1]) ∧ Two w' w.heap.size v2 v3 (P.decS l).2.2.2.1 (P.decS l).2.2.2.2 ∧ Below w.heap.size w w' := by
 obtain ⟨kq, hkq⟩ := (P.impl_get_ev l 0 4 hu (by decide) (by decide) (by decide) (by omega) (by omega)).ex
 obtain ⟨kt, hkt⟩ := (P.impl_get_ev l 8 4 hu (by decide) (by decide) (by decide) (by omega) (by omega)).ex
 have rq := P.sGen_range hu hl
 have rt := P.sTail_range hu hl
 obtain ⟨g, hg⟩ : ∃ g, g = P.sGen l := ⟨_, rfl⟩
 obtain ⟨t, ht⟩ : ∃ t, t = P.sTail l := ⟨_, rfl⟩
 rw [← hg] at rq
 rw [← ht] at rt
 have HQ := Aside0.mk (show impl_get.f kq l 0 4 = some g from by rw [hkq, hg]; rfl)
 have HT := Aside0.mk (show impl_get.f kt l 8 4 = some t from by rw [hkt, ht]; rfl)
 have jq : IntKind.u32.wrap g = g := by rw [IntKind.wrap_u32]; omega
 have jt : IntKind.u32.wrap t = t := by rw [IntKind.wrap_u32]; omega
 have h6 := P.sCnt_at hl
 obtain ⟨n, hn⟩ : ∃ n, n = P.sCnt l := ⟨_, rfl⟩
 rw [← hn] at h6
 have rn := hu.at_ h6
 have jn : IntKind.i64.wrap n = n := by rw [IntKind.wrap_i64]; omega
 have HG := Aside0.mk hg
 have HTl := Aside0.mk ht
 have HN := Aside0.mk hn
 have RQ := Aside0.mk rq
 have RT := Aside0.mk rt
 have RN := Aside0.mk rn
 have H6 := Aside0.mk h6
 have HL := Aside0.mk hl
 have HU := Aside0.mk hu
 have H0 := Aside0.mk (Bx.refl w)
 clear hkq hkt rq rt hg ht h6 hn rn hl hu
 go_enter Try.func71, Try.ntmps71
 go_wp2_with (first | ((with_reducible refine gate_dst (N := 1) rfl ?_); refine Aside0.out ?_))
 refine Aside0.mk ?_
 refine mk ?hw1 (N := 1) ?hd1 (cs := (bytesV l).toArray) (t := 98) ?hr1 ?_
 case hd1 => rfl
 case hw1 => rfl
 case hr1 => first | (go_simp; done) | (go_simp; rfl)
 intro g1 hg1_ w101 hb1 hB1
 have H102 := Aside0.mk (H0.out.new hg1_ hb1 hB1)
 clear hg1_ hb1 hB1 H0
 go_wp2_with (first | ((with_reducible refine gate_dst (N := 2) rfl ?_); refine Aside0.out ?_))
 refine Aside0.mk ?_
 refine mk ?hw3 (N := 2) ?hd3 (cs := #[.int .u32 0, .int .u32 0, .slice none 0 0, .slice none 0 0]) (t := 44) ?hr3 ?_
 case hd3 => rfl
 case hw3 => rfl
 case hr3 => first | (go_simp; done) | (go_simp; rfl)
 intro g2 hg2_ w103 hb3 hB3
 have H104 := Aside0.mk (H102.out.new hg2_ hb3 hB3)
 clear hg2_ hb3 hB3 H102
 try go_wp2
 have H106 := Aside0.mk H104.out.drew
 refine start_ (n := 9) (S := fun w' => True) (ds := [8]) #[false, false, false, false, false, false, false, false, false] (by kernel_rfl) rfl rfl trivial (fun hHeld => ?_)
 clear H104
 generalize w103.drew = w105 at H106 hHeld ⊢
 refine pure_ (i := 0) (N := some 7) (v := ?_) (a' := ?_) #[true, false, false, false, false, false, false, false, false] rfl rfl (by kernel_rfl) (fun _ _ _ h => h) (Or.inl ⟨by rfl, ?_⟩) ?_ ?_
 rotate_left
 ·intro w'
  go_simp
  with_reducible rfl
 rotate_left
 ·simp only [Act.put, List.setIfInBounds_toArray, List.set_cons_zero, List.set_cons_succ, i64_w, i32_w]
  rfl
 refine pure_ (i := 3) (N := some 10) (v := ?_) (a' := ?_) #[true, false, false, true, false, false, false, false, false] rfl rfl (by kernel_rfl) (fun _ _ _ h => h) (Or.inl ⟨by rfl, ?_⟩) ?_ ?_
 rotate_left
 ·intro w'
  go_simp
  with_reducible rfl
 rotate_left
 ·simp only [Act.put, List.setIfInBounds_toArray, List.set_cons_zero, List.set_cons_succ, i64_w, i32_w]
  rfl
 refine join_ (σ := Nat) 1 #[true, true, true, true, true, true, true, true, false] (fun s_ => [(8, .int .u64 g), (9, .int .u32 g), (11, .int .u64 t), (12, .int .u32 t), (13, .agg #[.int .u32 g, .int .u32 t, .slice none 0 0, .slice none 0 0]), (4, .pointer (some ⟨s_, 0, none⟩))]) (fun s_ w' => (True) ∧ Bx w [(s_, #[.int .u32 0, .int .u32 0, .slice none 0 0, .slice none 0 0], 44), (g2, #[.int .u32 0, .int .u32 0, .slice none 0 0, .slice none 0 0], 44), (g1, (bytesV l).toArray, 98)] w') ?_ ?_
 rotate_left
 ·intro hCont
  refine two_ (i := 1) (j := 7) (Ni := some 8) (Nj := some 4) #[true, true, false, true, false, false, false, false, false] #[true, false, false, true, false, false, false, true, false] rfl rfl rfl rfl (by kernel_rfl) (by decide) (by decide) (fun K hK => ?_) (fun K hK => ?_)
  ·skip
   refine goes_ Try.func90 (by kernel_rfl) rfl #[.slice (some ⟨g1, 0, none⟩) 128 128, .int .i64 0, .int .i64 4] (by rfl) rfl rfl (by (try simp only [List.map_toArray, List.map_cons, List.map_nil]); first | done | rfl) ?_
   have hC7 : Kd.C (Kd.int .u8) w105 (some ⟨g1, 0, none⟩) l.length l := (Kd.R_reads' (R_arr (base := 0) (l := l) H106.out.gt1 (Nat.zero_le _) (by rw [HL.out]; decide))).2.2
   have hc7 := impl_get.calls kq _ 128 l 0 4 g _ hC7 (by rw [HL.out]; decide) HQ.out
   rw [HL.out] at hc7
   refine hc7.mono ?_
   rintro e w107 ⟨rfl, hd_⟩
   refine ⟨_, rfl, ?_⟩
   have hb_ := hd_.below
   clear hd_ hC7 hc7
   have H108 := Aside0.mk (H106.out.step hb_)
   clear hb_ H106
   refine hK.out _ _ trivial (fun hHeld => ?_)
   clear hK K
   refine norm_ (a' := ?_) ?_ ?_
   rotate_left
   ·show Act.put _ (some 8) _ = _
    simp only [Act.put, List.setIfInBounds_toArray, List.set_cons_zero, List.set_cons_succ, i64_w, i32_w]
    rfl
   refine pure_ (i := 2) (N := some 9) (v := ?_) (a' := ?_) #[true, true, true, true, false, false, false, false, false] rfl rfl (by kernel_rfl) (fun _ _ _ h => h) (Or.inl ⟨by rfl, ?_⟩) ?_ ?_
   rotate_left
   ·intro w'
    go_simp
    with_reducible rfl
   rotate_left
   ·simp only [Act.put, List.setIfInBounds_toArray, List.set_cons_zero, List.set_cons_succ, i64_w, i32_w]
    rfl
   refine two_ (i := 4) (j := 7) (Ni := some 11) (Nj := some 4) #[true, true, true, true, true, false, false, false, false] #[true, true, true, true, false, false, false, true, false] rfl rfl rfl rfl (by kernel_rfl) (by decide) (by decide) (fun K hK => ?_) (fun K hK => ?_)
   ·skip
    refine goes_ Try.func90 (by kernel_rfl) rfl #[.slice (some ⟨g1, 0, none⟩) 128 128, .int .i64 8, .int .i64 4] (by rfl) rfl rfl (by (try simp only [List.map_toArray, List.map_cons, List.map_nil]); first | done | rfl) ?_
    have hC9 : Kd.C (Kd.int .u8) w107 (some ⟨g1, 0, none⟩) l.length l := (Kd.R_reads' (R_arr (base := 0) (l := l) H108.out.gt1 (Nat.zero_le _) (by rw [HL.out]; decide))).2.2
    have hc9 := impl_get.calls kt _ 128 l 8 4 t _ hC9 (by rw [HL.out]; decide) HT.out
    rw [HL.out] at hc9
    refine hc9.mono ?_
    rintro e w109 ⟨rfl, hd_⟩
    refine ⟨_, rfl, ?_⟩
    have hb_ := hd_.below
    clear hd_ hC9 hc9
    have H110 := Aside0.mk (H108.out.step hb_)
    clear hb_ H108
    refine hK.out _ _ trivial (fun hHeld => ?_)
    clear hK K
    refine norm_ (a' := ?_) ?_ ?_
    rotate_left
    ·show Act.put _ (some 11) _ = _
     simp only [Act.put, List.setIfInBounds_toArray, List.set_cons_zero, List.set_cons_succ, i64_w, i32_w]
     rfl
    refine pure_ (i := 5) (N := some 12) (v := ?_) (a' := ?_) #[true, true, true, true, true, true, false, false, false] rfl rfl (by kernel_rfl) (fun _ _ _ h => h) (Or.inl ⟨by rfl, ?_⟩) ?_ ?_
    rotate_left
    ·intro w'
     go_simp
     with_reducible rfl
    rotate_left
    ·simp only [Act.put, List.setIfInBounds_toArray, List.set_cons_zero, List.set_cons_succ, i64_w, i32_w]
     rfl
    refine pure_ (i := 6) (N := some 13) (v := ?_) (a' := ?_) #[true, true, true, true, true, true, true, false, false] rfl rfl (by kernel_rfl) (fun _ _ _ h => h) (Or.inl ⟨by rfl, ?_⟩) ?_ ?_
    rotate_left
    ·intro w'
     go_simp
     with_reducible rfl
    rotate_left
    ·simp only [Act.put, List.setIfInBounds_toArray, List.set_cons_zero, List.set_cons_succ, i64_w, i32_w]
     rfl
    refine one_ (i := 7) (N := some 4) #[true, true, true, true, true, true, true, true, false] rfl rfl (by kernel_rfl) (by decide) (fun K hK => ?_)
    refine box_step ?hg11 (N := 4) ?hd11 (cs := #[.int .u32 0, .int .u32 0, .slice none 0 0, .slice none 0 0]) (t := 44) ?hr11 ?_
    case hd11 => rfl
    case hg11 => rfl
    case hr11 => first | (go_simp; done) | (go_simp; rfl)
    intro g4 hg4_ w111 hb11 hB11
    have H112 := Aside0.mk (H110.out.new hg4_ hb11 hB11)
    clear hg4_ hb11 hB11 H110
    refine hK.out _ _ trivial (fun hHeld => ?_)
    clear hK K
    refine norm_ (a' := ?_) ?_ ?_
    rotate_left
    ·show Act.put _ (some 4) _ = _
     simp only [Act.put, List.setIfInBounds_toArray, List.set_cons_zero, List.set_cons_succ, i64_w, i32_w]
     rfl
    exact norm_ (by simp only [putAll, Act.put, List.setIfInBounds_toArray, List.set_cons_zero, List.set_cons_succ]) (hCont g4 _ ⟨hHeld, H112.out⟩)
   ·skip
    refine box_step ?hg13 (N := 4) ?hd13 (cs := #[.int .u32 0, .int .u32 0, .slice none 0 0, .slice none 0 0]) (t := 44) ?hr13 ?_
    case hd13 => rfl
    case hg13 => rfl
    case hr13 => first | (go_simp; done) | (go_simp; rfl)
    intro g4 hg4_ w113 hb13 hB13
    have H114 := Aside0.mk (H108.out.new hg4_ hb13 hB13)
    clear hg4_ hb13 hB13 H108
    refine hK.out _ _ trivial (fun hHeld => ?_)
    clear hK K
    refine norm_ (a' := ?_) ?_ ?_
    rotate_left
    ·show Act.put _ (some 4) _ = _
     simp only [Act.put, List.setIfInBounds_toArray, List.set_cons_zero, List.set_cons_succ, i64_w, i32_w]
     rfl
    refine one_ (i := 4) (N := some 11) #[true, true, true, true, true, false, false, true, false] rfl rfl (by kernel_rfl) (by decide) (fun K hK => ?_)
    refine goes_ Try.func90 (by kernel_rfl) rfl #[.slice (some ⟨g1, 0, none⟩) 128 128, .int .i64 8, .int .i64 4] (by rfl) rfl rfl (by (try simp only [List.map_toArray, List.map_cons, List.map_nil]); first | done | rfl) ?_
    have hC15 : Kd.C (Kd.int .u8) w113 (some ⟨g1, 0, none⟩) l.length l := (Kd.R_reads' (R_arr (base := 0) (l := l) H114.out.gt2 (Nat.zero_le _) (by rw [HL.out]; decide))).2.2
    have hc15 := impl_get.calls kt _ 128 l 8 4 t _ hC15 (by rw [HL.out]; decide) HT.out
    rw [HL.out] at hc15
    refine hc15.mono ?_
    rintro e w115 ⟨rfl, hd_⟩
    refine ⟨_, rfl, ?_⟩
    have hb_ := hd_.below
    clear hd_ hC15 hc15
    have H116 := Aside0.mk (H114.out.step hb_)
    clear hb_ H114
    refine hK.out _ _ trivial (fun hHeld => ?_)
    clear hK K
    refine norm_ (a' := ?_) ?_ ?_
    rotate_left
    ·show Act.put _ (some 11) _ = _
     simp only [Act.put, List.setIfInBounds_toArray, List.set_cons_zero, List.set_cons_succ, i64_w, i32_w]
     rfl
    refine pure_ (i := 5) (N := some 12) (v := ?_) (a' := ?_) #[true, true, true, true, true, true, false, true, false] rfl rfl (by kernel_rfl) (fun _ _ _ h => h) (Or.inl ⟨by rfl, ?_⟩) ?_ ?_
    rotate_left
    ·intro w'
     go_simp
     with_reducible rfl
    rotate_left
    ·simp only [Act.put, List.setIfInBounds_toArray, List.set_cons_zero, List.set_cons_succ, i64_w, i32_w]
     rfl
    refine pure_ (i := 6) (N := some 13) (v := ?_) (a' := ?_) #[true, true, true, true, true, true, true, true, false] rfl rfl (by kernel_rfl) (fun _ _ _ h => h) (Or.inl ⟨by rfl, ?_⟩) ?_ ?_
    rotate_left
    ·intro w'
     go_simp
     with_reducible rfl
    rotate_left
    ·simp only [Act.put, List.setIfInBounds_toArray, List.set_cons_zero, List.set_cons_succ, i64_w, i32_w]
     rfl
    exact norm_ (by simp only [putAll, Act.put, List.setIfInBounds_toArray, List.set_cons_zero, List.set_cons_succ]) (hCont g4 _ ⟨hHeld, H116.out⟩)
  ·skip
   refine box_step ?hg17 (N := 4) ?hd17 (cs := #[.int .u32 0, .int .u32 0, .slice none 0 0, .slice none 0 0]) (t := 44) ?hr17 ?_
   case hd17 => rfl
   case hg17 => rfl
   case hr17 => first | (go_simp; done) | (go_simp; rfl)
   intro g4 hg4_ w117 hb17 hB17
   have H118 := Aside0.mk (H106.out.new hg4_ hb17 hB17)
   clear hg4_ hb17 hB17 H106
   refine hK.out _ _ trivial (fun hHeld => ?_)
   clear hK K
   refine norm_ (a' := ?_) ?_ ?_
   rotate_left
   ·show Act.put _ (some 4) _ = _
    simp only [Act.put, List.setIfInBounds_toArray, List.set_cons_zero, List.set_cons_succ, i64_w, i32_w]
    rfl
   refine one_ (i := 1) (N := some 8) #[true, true, false, true, false, false, false, true, false] rfl rfl (by kernel_rfl) (by decide) (fun K hK => ?_)
   refine goes_ Try.func90 (by kernel_rfl) rfl #[.slice (some ⟨g1, 0, none⟩) 128 128, .int .i64 0, .int .i64 4] (by rfl) rfl rfl (by (try simp only [List.map_toArray, List.map_cons, List.map_nil]); first | done | rfl) ?_
   have hC19 : Kd.C (Kd.int .u8) w117 (some ⟨g1, 0, none⟩) l.length l := (Kd.R_reads' (R_arr (base := 0) (l := l) H118.out.gt2 (Nat.zero_le _) (by rw [HL.out]; decide))).2.2
   have hc19 := impl_get.calls kq _ 128 l 0 4 g _ hC19 (by rw [HL.out]; decide) HQ.out
   rw [HL.out] at hc19
   refine hc19.mono ?_
   rintro e w119 ⟨rfl, hd_⟩
   refine ⟨_, rfl, ?_⟩
   have hb_ := hd_.below
   clear hd_ hC19 hc19
   have H120 := Aside0.mk (H118.out.step hb_)
   clear hb_ H118
   refine hK.out _ _ trivial (fun hHeld => ?_)
   clear hK K
   refine norm_ (a' := ?_) ?_ ?_
   rotate_left
   ·show Act.put _ (some 8) _ = _
    simp only [Act.put, List.setIfInBounds_toArray, List.set_cons_zero, List.set_cons_succ, i64_w, i32_w]
    rfl
   refine pure_ (i := 2) (N := some 9) (v := ?_) (a' := ?_) #[true, true, true, true, false, false, false, true, false] rfl rfl (by kernel_rfl) (fun _ _ _ h => h) (Or.inl ⟨by rfl, ?_⟩) ?_ ?_
   rotate_left
   ·intro w'
    go_simp
    with_reducible rfl
   rotate_left
   ·simp only [Act.put, List.setIfInBounds_toArray, List.set_cons_zero, List.set_cons_succ, i64_w, i32_w]
    rfl
   refine one_ (i := 4) (N := some 11) #[true, true, true, true, true, false, false, true, false] rfl rfl (by kernel_rfl) (by decide) (fun K hK => ?_)
   refine goes_ Try.func90 (by kernel_rfl) rfl #[.slice (some ⟨g1, 0, none⟩) 128 128, .int .i64 8, .int .i64 4] (by rfl) rfl rfl (by (try simp only [List.map_toArray, List.map_cons, List.map_nil]); first | done | rfl) ?_
   have hC21 : Kd.C (Kd.int .u8) w119 (some ⟨g1, 0, none⟩) l.length l := (Kd.R_reads' (R_arr (base := 0) (l := l) H120.out.gt2 (Nat.zero_le _) (by rw [HL.out]; decide))).2.2
   have hc21 := impl_get.calls kt _ 128 l 8 4 t _ hC21 (by rw [HL.out]; decide) HT.out
   rw [HL.out] at hc21
   refine hc21.mono ?_
   rintro e w121 ⟨rfl, hd_⟩
   refine ⟨_, rfl, ?_⟩
   have hb_ := hd_.below
   clear hd_ hC21 hc21
   have H122 := Aside0.mk (H120.out.step hb_)
   clear hb_ H120
   refine hK.out _ _ trivial (fun hHeld => ?_)
   clear hK K
   refine norm_ (a' := ?_) ?_ ?_
   rotate_left
   ·show Act.put _ (some 11) _ = _
    simp only [Act.put, List.setIfInBounds_toArray, List.set_cons_zero, List.set_cons_succ, i64_w, i32_w]
    rfl
   refine pure_ (i := 5) (N := some 12) (v := ?_) (a' := ?_) #[true, true, true, true, true, true, false, true, false] rfl rfl (by kernel_rfl) (fun _ _ _ h => h) (Or.inl ⟨by rfl, ?_⟩) ?_ ?_
   rotate_left
   ·intro w'
    go_simp
    with_reducible rfl
   rotate_left
   ·simp only [Act.put, List.setIfInBounds_toArray, List.set_cons_zero, List.set_cons_succ, i64_w, i32_w]
    rfl
   refine pure_ (i := 6) (N := some 13) (v := ?_) (a' := ?_) #[true, true, true, true, true, true, true, true, false] rfl rfl (by kernel_rfl) (fun _ _ _ h => h) (Or.inl ⟨by rfl, ?_⟩) ?_ ?_
   rotate_left
   ·intro w'
    go_simp
    with_reducible rfl
   rotate_left
   ·simp only [Act.put, List.setIfInBounds_toArray, List.set_cons_zero, List.set_cons_succ, i64_w, i32_w]
    rfl
   exact norm_ (by simp only [putAll, Act.put, List.setIfInBounds_toArray, List.set_cons_zero, List.set_cons_succ]) (hCont g4 _ ⟨hHeld, H122.out⟩)
 rintro g4 w123 ⟨hHeld, hX_⟩
 have H124 := Aside0.mk hX_
 clear hX_ H106
 refine norm_ (a' := ?_) ?_ ?_
 rotate_left
 ·simp only [putAll, Act.put, List.setIfInBounds_toArray, List.set_cons_zero, List.set_cons_succ]
  rfl
 refine last_ (i := 8) (N := none) #[true, true, true, true, true, true, true, true, true] rfl rfl (by kernel_rfl) (by decide) (fun K hK => ?_)
 refine st_step (by rfl) rfl rfl ?hp25 (cs := #[.int .u32 g, .int .u32 t, .slice none 0 0, .slice none 0 0]) ?hx25 H124.out.gt0 (by kernel_rfl) (rfl) (by simp [Value.oneCell']) ?_
 case hp25 => rfl
 case hx25 => rfl
 intro w125 hb25 hS25
 have H126 := Aside0.mk (H124.out.wr0 (cs' := #[.int .u32 g, .int .u32 t, .slice none 0 0, .slice none 0 0]) hb25 hS25)
 clear hb25 hS25 H124
 refine hK.out _ _ ?_
 clear hK K
 refine done_ (by kernel_rfl) ?_
 have hc6 : w125.cell? ⟨g1, 6, none⟩ = some (.int .u8 n) := (blk_cell H126.out.gt2 6).trans (by unfold bytesV; rw [List.getElem?_toArray, List.getElem?_map, H6.out]; rfl)
 by_cases c16 : n ≤ 16
 ·have c16b : decide (16 < n) = false := decide_eq_false (by omega)
  have C16 := Aside0.mk c16
  clear c16
  obtain ⟨m, hm⟩ : ∃ m : Nat, m = n.toNat := ⟨_, rfl⟩
  have HM := Aside0.mk (show n = (m : Int) ∧ m ≤ 16 from by have := RN.out; have := C16.out; omega)
  clear hm
  go_wp2
  clear hc6 c16b
  have hnm := HM.out.1
  subst hnm
  go_loopg [21] (m + 1) (fun kq v_ w' => ∃ (i : Nat) (x : Int) (wl : World) (v2 : Value), v_ = .int .i64 x ∧ Aside0 (wl = w') ∧ Aside0 (x = (i : Int)) ∧ Aside0 (kq + i = m + 1) ∧ Aside0 (i ≤ m) ∧ Aside0 (Bx w [(g4, #[.int .u32 g, .int .u32 t, v2, .slice none 0 0], 44), (g2, #[.int .u32 0, .int .u32 0, .slice none 0 0, .slice none 0 0], 44), (g1, (bytesV l).toArray, 98)] w') ∧ Aside0 (Kd.R (Kd.int .i64) 2 w' w.heap.size (fun _ => True) v2 (P.sDeny l i)))
  case atStart => exact ⟨0, 0, _, _, rfl, ⟨rfl⟩, ⟨rfl⟩, ⟨by omega⟩, ⟨Nat.zero_le _⟩, H126, ⟨Kd.R_nil _ _ _ _ _⟩⟩
  case round =>
   clear H126
   obtain ⟨i, x, wl, v2, rfl, hwl, HE, HK, HI, HX, HD⟩ := hrel
   obtain ⟨hwl⟩ := hwl
   subst hwl
   have he := HE.out
   cases gk with
   | zero => exact absurd HK.out (by have := HI.out; omega)
   | succ k1_ =>
    by_cases c3 : i < m
    ·have C3 := Aside0.mk c3
     have c3b : decide (x < (m : Int)) = true := decide_eq_true (by omega)
     have jx : IntKind.i64.wrap (x + 1) = x + 1 := by rw [IntKind.wrap_i64]; have := HM.out; omega
     have HI16 := Aside0.mk (show i < 16 from by have := HM.out; omega)
     have hat := P.denAt_fit HI16.out
     have HFit := Aside0.mk hat
     have HDA := Aside0.mk (show impl_denyAt.f x = some ((P.denAt i : Nat) : Int) from by rw [he]; exact P.denyAt_is HI16.out)
     obtain ⟨kg, hkg⟩ := (P.impl_get_ev l ((P.denAt i : Nat) : Int) 2 HU.out (by omega) (by decide) (by decide) (by rw [HL.out]; omega) (by rw [HL.out]; decide)).ex
     obtain ⟨y, hy⟩ : ∃ y, y = P.sDen1 l i := ⟨_, rfl⟩
     have HGt := Aside0.mk (show impl_get.f kg l ((P.denAt i : Nat) : Int) 2 = some y from by rw [hkg, hy]; unfold P.sDen1; rw [Int.toNat_natCast]; rfl)
     have HY := Aside0.mk hy
     have jy : IntKind.i64.wrap y = y := by have := P.sDen1_range HU.out HL.out HI16.out; rw [IntKind.wrap_i64, hy]; omega
     obtain ⟨A2, c2, e2⟩ := Kd.R_slice HD.out
     subst e2
     clear c3 he hat hkg hy
     go_wp2
     have H130 := Aside0.mk HX.out.drew
     have n31_ := Aside0.mk (Kd.R_below HD.out (below_drew1 (Below.refl wl.heap.size wl)))
     clear HD
     have HD := n31_
     clear n31_
     refine start_ (n := 11) (S := fun w' => w'.cell? ⟨g4, 2, none⟩ = some (.slice A2 (P.sDeny l i).length c2)) (ds := [10]) #[false, false, false, false, false, false, false, false, false, false, false] (by kernel_rfl) rfl rfl ((blk_cell (by first | exact H130.out.gt0 | exact H130.out.gt1) 2).trans rfl) (fun hHeld => ?_)
     clear HX
     generalize wl.drew = w129 at H130 HD hHeld ⊢
     refine pure_ (i := 0) (N := some 24) (v := ?_) (a' := ?_) #[true, false, false, false, false, false, false, false, false, false, false] rfl rfl (by kernel_rfl) (fun _ _ _ h => h) (Or.inl ⟨by rfl, ?_⟩) ?_ ?_
     rotate_left
     ·intro w'
      go_simp
      with_reducible rfl
     rotate_left
     ·simp only [Act.put, List.setIfInBounds_toArray, List.set_cons_zero, List.set_cons_succ, i64_w, i32_w]
      rfl
     refine pure_ (i := 2) (N := some 26) (v := ?_) (a' := ?_) #[true, false, true, false, false, false, false, false, false, false, false] rfl rfl (by kernel_rfl) (fun _ _ _ h => h) (Or.inl ⟨by rfl, ?_⟩) ?_ ?_
     rotate_left
     ·intro w'
      go_simp
      with_reducible rfl
     rotate_left
     ·simp only [Act.put, List.setIfInBounds_toArray, List.set_cons_zero, List.set_cons_succ, i64_w, i32_w]
      rfl
     refine pure_ (i := 3) (N := some 27) (v := ?_) (a' := ?_) #[true, false, true, true, false, false, false, false, false, false, false] rfl rfl (by kernel_rfl) (fun _ _ _ h => h) (Or.inl ⟨by rfl, ?_⟩) ?_ ?_
     rotate_left
     ·intro w'
      go_simp
      with_reducible rfl
     rotate_left
     ·simp only [Act.put, List.setIfInBounds_toArray, List.set_cons_zero, List.set_cons_succ, i64_w, i32_w]
      rfl
     refine take_ (i := 1) (N := some 25) (v := ?_) (a' := ?_) #[true, true, true, true, false, false, false, false, false, false, false] rfl rfl (by kernel_rfl) (fun _ _ _ h => h) (Or.inl ⟨by rfl, ?_⟩) hHeld ?_ ?_
     rotate_left
     ·rintro w' s0
      go_simp
      with_reducible rfl
     rotate_left
     ·simp only [Act.put, List.setIfInBounds_toArray, List.set_cons_zero, List.set_cons_succ, i64_w, i32_w]
      rfl
     refine one_ (i := 4) (N := some 28) #[true, true, true, true, true, false, false, false, false, false, false] rfl rfl (by kernel_rfl) (by decide) (fun K hK => ?_)
     refine goes_ Try.func95 (by kernel_rfl) rfl #[.int .i64 x] (by rfl) rfl rfl (by (try simp only [List.map_toArray, List.map_cons, List.map_nil]); first | done | rfl) ?_
     refine (impl_denyAt.calls x _ _ HDA.out).mono ?_
     rintro e w132 ⟨rfl, hd_⟩
     refine ⟨_, rfl, ?_⟩
     have hb_ := hd_.below
     clear hd_
     have H133 := Aside0.mk (H130.out.step hb_)
     have n34_ := Aside0.mk (Kd.R_below HD.out hb_)
     clear HD
     have HD := n34_
     clear n34_
     clear hb_ H130
     refine hK.out _ _ ((blk_cell (by first | exact H133.out.gt0 | exact H133.out.gt1) 2).trans rfl) (fun hHeld => ?_)
     clear hK K
     refine norm_ (a' := ?_) ?_ ?_
     rotate_left
     ·show Act.put _ (some 28) _ = _
      simp only [Act.put, List.setIfInBounds_toArray, List.set_cons_zero, List.set_cons_succ, i64_w, i32_w]
      rfl
     refine one_ (i := 5) (N := some 29) #[true, true, true, true, true, true, false, false, false, false, false] rfl rfl (by kernel_rfl) (by decide) (fun K hK => ?_)
     refine goes_ Try.func90 (by kernel_rfl) rfl #[.slice (some ⟨g1, 0, none⟩) 128 128, .int .i64 (P.denAt i : Nat), .int .i64 2] (by rfl) rfl rfl (by (try simp only [List.map_toArray, List.map_cons, List.map_nil]); first | done | rfl) ?_
     have hC_ : Kd.C (Kd.int .u8) w132 (some ⟨g1, 0, none⟩) l.length l := (Kd.R_reads' (R_arr (base := 0) (l := l) H133.out.gt2 (Nat.zero_le _) (by rw [HL.out]; decide))).2.2
     have hc_ := impl_get.calls kg _ 128 l ((P.denAt i : Nat) : Int) 2 y _ hC_ (by rw [HL.out]; decide) HGt.out
     rw [HL.out] at hc_
     refine hc_.mono ?_
     rintro e w135 ⟨rfl, hd_⟩
     refine ⟨_, rfl, ?_⟩
     have hb_ := hd_.below
     clear hd_ hC_ hc_
     have H136 := Aside0.mk (H133.out.step hb_)
     have n37_ := Aside0.mk (Kd.R_below HD.out hb_)
     clear HD
     have HD := n37_
     clear n37_
     clear hb_ H133
     refine hK.out _ _ ((blk_cell (by first | exact H136.out.gt0 | exact H136.out.gt1) 2).trans rfl) (fun hHeld => ?_)
     clear hK K
     refine norm_ (a' := ?_) ?_ ?_
     rotate_left
     ·show Act.put _ (some 29) _ = _
      simp only [Act.put, List.setIfInBounds_toArray, List.set_cons_zero, List.set_cons_succ, i64_w, i32_w]
      rfl
     refine pure_ (i := 6) (N := some 30) (v := ?_) (a' := ?_) #[true, true, true, true, true, true, true, false, false, false, false] rfl rfl (by kernel_rfl) (fun _ _ _ h => h) (Or.inl ⟨by rfl, ?_⟩) ?_ ?_
     rotate_left
     ·intro w'
      go_simp
      with_reducible rfl
     rotate_left
     ·simp only [Act.put, List.setIfInBounds_toArray, List.set_cons_zero, List.set_cons_succ, i64_w, i32_w]
      rfl
     refine one_ (i := 7) (N := some 31) #[true, true, true, true, true, true, true, true, false, false, false] rfl rfl (by kernel_rfl) (by decide) (fun K hK => ?_)
     refine value_ (w1 := ?_) (v := ?_) (by rfl) rfl ?_ ?_
     rotate_left 2
     ·go_simp
      constructor
      ·rfl
      ·rfl
     refine hK.out _ _ ((blk_cell (blk_alloc H136.out.gt0 _) 2).trans rfl) (fun hHeld => ?_)
     clear hK K
     refine norm_ (a' := ?_) ?_ ?_
     rotate_left
     ·show Act.put _ (some 31) _ = _
      simp only [Act.put, List.setIfInBounds_toArray, List.set_cons_zero, List.set_cons_succ, i64_w, i32_w]
      rfl
     refine one_ (i := 8) (N := some 32) #[true, true, true, true, true, true, true, true, true, false, false] rfl rfl (by kernel_rfl) (by decide) (fun K hK => ?_)
     refine Kd.R_append_step (Kd.int .i64) (w0 := w) w.heap.size (by rfl) (.tmp 25) (.tmp 31) 39 2 (.int .i64 0) 8 rfl Try.underlying39 info2 rfl (by decide) (by omega) (.slice A2 (P.sDeny l i).length c2) (P.sDeny l i) (y) [.int .i64 (y)] (fun _ => True) (fun _ => False) rfl rfl ?aP38 (fun _ hk => hk.elim) ?aF38 ?aO38 ?aB38 ?aS38 ?aL38 ?_
     case aP38 => exact rfl
     case aB38 => exact H136.out.below
     case aF38 => exact (fun _ _ => trivial)
     case aO38 => exact HD.out
     case aS38 => exact H136.out.below.size
     case aL38 => rw [P.sDeny_length]; have := HI16.out; omega
     intro v1 w138 ho hb_ hg_ hat_
     have hst_ := Stp.grown (S := fun k => some k = (.slice A2 (P.sDeny l i).length c2 : Value).ownBlock) hg_ (fun k hk => hk.symm)
     have H139 := Aside0.mk (H136.out.stp hst_ (fun k hk => Kd.R_base HD.out k hk.symm) (fun b hb he => by
      obtain ⟨cells, hc⟩ := Kd.R_typed HD.out b.1 he.symm
      have h2 := (H136.out.at_ b hb).2
      rw [hc] at h2
      simp only [List.mem_cons, List.not_mem_nil, or_false] at hb
      rcases hb with rfl | rfl | rfl <;> cases h2))
     clear hst_ H136
     have HD2 := Aside0.mk (show Kd.R (Kd.int .i64) 2 w138 w.heap.size (fun _ => True) v1 (P.sDeny l (i + 1)) from by rw [P.sDeny_succ, ← HY.out]; exact ho)
     clear ho hb_ hg_ hat_ HD
     have HD := HD2
     clear HD2
     refine hK.out _ _ ((blk_cell (by first | exact H139.out.gt0 | exact H139.out.gt1) 2).trans rfl) (fun hHeld => ?_)
     clear hK K
     refine norm_ (a' := ?_) ?_ ?_
     rotate_left
     ·show Act.put _ (some 32) _ = _
      simp only [Act.put, List.setIfInBounds_toArray, List.set_cons_zero, List.set_cons_succ, i64_w, i32_w]
      rfl
     refine pure_ (i := 9) (N := some 33) (v := ?_) (a' := ?_) #[true, true, true, true, true, true, true, true, true, true, false] rfl rfl (by kernel_rfl) (fun _ _ _ h => h) (Or.inl ⟨by rfl, ?_⟩) ?_ ?_
     rotate_left
     ·intro w'
      go_simp
      with_reducible rfl
     rotate_left
     ·simp only [Act.put, List.setIfInBounds_toArray, List.set_cons_zero, List.set_cons_succ, i64_w, i32_w]
      rfl
     refine last_ (i := 10) (N := none) #[true, true, true, true, true, true, true, true, true, true, true] rfl rfl (by kernel_rfl) (by decide) (fun K hK => ?_)
     obtain ⟨A1, c1, e1⟩ := Kd.R_slice HD.out
     subst e1
     refine st_part_step (o' := 2) (u := .slice A1 (P.sDeny l (i + 1)).length c1) (seg := [.slice A1 (P.sDeny l (i + 1)).length c1]) (by rfl) rfl rfl ?hp40 ?hx40 rfl H139.out.gt0 (by kernel_rfl) (by show 3 ≤ 4; decide) (by simp [Value.oneCell']) ?_
     case hp40 => rfl
     case hx40 => rfl
     intro w140 hb40 hS40
     have H141 := Aside0.mk (H139.out.wr0 (cs' := #[.int .u32 g, .int .u32 t, .slice A1 (P.sDeny l (i + 1)).length c1, .slice none 0 0]) hb40 hS40)
     have n42_ := Aside0.mk (R_other HD.out H139.out.gt0 (by decide) hS40)
     clear HD
     have HD := n42_
     clear n42_
     clear hb40 hS40 H139
     refine hK.out _ _ ?_
     clear hK K
     refine done_ (by kernel_rfl) ?_
     try dsimp only
     have HZ := Aside0.mk H141.out
     have HZD := Aside0.mk HD.out
     clear H141 HD jy
     go_wp2
     go_roundg k1_
     case measure => omega
     case rel => exact ⟨i + 1, x + 1, _, _, rfl, ⟨rfl⟩, ⟨by rw [HE.out]; rfl⟩, ⟨by have := HK.out; omega⟩, ⟨by have := C3.out; omega⟩, HZ, HZD⟩
    ·have c3b : decide (x < (m : Int)) = false := decide_eq_false (by omega)
     obtain rfl : i = m := by have := HI.out; omega
     clear he c3
     have HT2 := Aside0.mk (Two.nil HD.out)
     clear HD
     have HX1 := HX
     clear HX HE HK HI
     go_wp2
     clear c3b
     go_loopg [35] 257 (fun kq v_ w' => ∃ (j : Nat) (x : Int) (wl : World) (v3 : Value), v_ = .int .i64 x ∧ Aside0 (wl = w') ∧ Aside0 (x = (j : Int)) ∧ Aside0 (kq + j = 257) ∧ Aside0 (j ≤ 256) ∧ Aside0 (Bx w [(g4, #[.int .u32 g, .int .u32 t, v2, v3], 44), (g2, #[.int .u32 0, .int .u32 0, .slice none 0 0, .slice none 0 0], 44), (g1, (bytesV l).toArray, 98)] w') ∧ Aside0 (Two w' w.heap.size v2 v3 (P.sDeny l i) (P.sUsed l j)))
     case atStart => exact ⟨0, 0, _, _, rfl, ⟨rfl⟩, ⟨rfl⟩, ⟨by omega⟩, ⟨Nat.zero_le _⟩, HX1, HT2⟩
     case round =>
      clear HX1 HT2
      obtain ⟨j, x, wl, v3, rfl, hwl, HE, HK, HI, HX, HT2⟩ := hrel
      obtain ⟨hwl⟩ := hwl
      subst hwl
      have he := HE.out
      cases gk with
      | zero => exact absurd HK.out (by have := HI.out; omega)
      | succ k1_ =>
       by_cases c3 : j < 256
       ·have C3 := Aside0.mk c3
        have c3b : decide (x < 256) = true := decide_eq_true (by omega)
        have jx : IntKind.i64.wrap (x + 1) = x + 1 := by rw [IntKind.wrap_i64]; omega
        obtain ⟨q, hq⟩ : ∃ q, q = x / 8 := ⟨_, rfl⟩
        obtain ⟨r, hr⟩ : ∃ r, r = x % 8 := ⟨_, rfl⟩
        have HQ := Aside0.mk hq
        have HRm := Aside0.mk hr
        have jq : wrap64 q = q := P.w64 (by omega) (by omega)
        have jr : wrap64 r = r := P.w64 (by omega) (by omega)
        have jq2 : Int.tdiv x 8 = q := by rw [Int.tdiv_eq_ediv_of_nonneg (by omega)]; omega
        have jr2 : Int.tmod x 8 = r := by rw [Int.tmod_eq_emod_of_nonneg (by omega)]; omega
        have ja : wrap64 (12 + q) = 12 + q := P.w64 (by omega) (by omega)
        have pa : (0 ≤ 12 + q) = True := eq_true (by omega)
        have pb : (12 + q < 128) = True := eq_true (by omega)
        have pr : (0 ≤ r) = True := eq_true (by omega)
        obtain ⟨b, hb⟩ : ∃ b, b = rd l (12 + q) := ⟨_, rfl⟩
        have HB := Aside0.mk hb
        have hcb : wl.cell? ⟨g1, (12 + q).toNat, none⟩ = some (.int .u8 b) := (blk_cell HX.out.gt2 _).trans (by
         have h_ := P.rd_get (l := l) (i := (12 + q).toNat) (by rw [HL.out]; omega)
         rw [show (((12 + q).toNat : Nat) : Int) = 12 + q from by omega, ← hb] at h_
         unfold bytesV
         rw [List.getElem?_toArray, List.getElem?_map, h_]
         rfl)
        have hb8 : 0 ≤ b ∧ b ≤ 255 := by
         have h_ := P.rd_get (l := l) (i := (12 + q).toNat) (by rw [HL.out]; omega)
         rw [show (((12 + q).toNat : Nat) : Int) = 12 + q from by omega, ← hb] at h_
         exact HU.out.at_ h_
        obtain ⟨z, hz⟩ : ∃ z, z = (b / 2 ^ r.toNat) % 2 := ⟨_, rfl⟩
        have jz : Go.bits .and .u8 (b / 2 ^ min r.toNat 8) 1 = z := by rw [hz, Nat.min_eq_left (by omega)]; exact and8_one (by have := Int.ediv_nonneg hb8.1 (Int.le_of_lt (Int.pow_pos (n := 2) (m := r.toNat) (by decide))); exact this) (Int.le_trans (Int.ediv_le_self _ hb8.1) hb8.2)
        have hbit : P.bitOf l j = decide (z = 1) := by
         unfold P.bitOf
         rw [show ((12 + j / 8 : Nat) : Int) = 12 + q from by omega, ← hb, hz, show j % 8 = r.toNat from by omega]
        obtain ⟨A3, c3_, e3⟩ := Kd.R_slice HT2.out.2
        subst e3
        have hc3 : wl.cell? ⟨g4, 3, none⟩ = some (.slice A3 (P.sUsed l j).length c3_) := (blk_cell HX.out.gt0 3).trans rfl
        clear c3 he hq hr hb hb8 hz
        cases hbo : P.bitOf l j with
        | false =>
         rw [hbo] at hbit
         have jzb : (z == 1) = false := beq_eq_false_iff_ne.mpr (of_decide_eq_false hbit.symm)
         have HBo := Aside0.mk hbo
         have HZD := Aside0.mk (show Two wl w.heap.size v2 (.slice A3 (P.sUsed l j).length c3_) (P.sDeny l i) (P.sUsed l (j + 1)) from by rw [P.sUsed_off hbo]; exact HT2.out)
         clear hbit hbo HT2
         go_wp2
         go_roundg k1_
         case measure => omega
         case rel => exact ⟨j + 1, x + 1, _, _, rfl, ⟨rfl⟩, ⟨by rw [HE.out]; rfl⟩, ⟨by have := HK.out; omega⟩, ⟨by have := C3.out; omega⟩, HX, HZD⟩
        | true =>
         rw [hbo] at hbit
         have jzb : (z == 1) = true := beq_iff_eq.mpr (of_decide_eq_true hbit.symm)
         have HBo := Aside0.mk hbo
         clear hbit hbo
         go_wp2_with (first | ((with_reducible refine gate_builtin (b := .append) (xs := #[.tmp 49, .tmp 51]) rfl ?_); at_builtin; refine Aside0.out ?_))
         refine Aside0.mk ?_
         refine Kd.R_append (Kd.int .i64) (w0 := w) w.heap.size rfl (.tmp 49) (.tmp 51) 39 2 (.int .i64 0) 8 rfl Try.underlying39 info2 rfl (by decide) (by omega) (.slice A3 (P.sUsed l j).length c3_) (P.sUsed l j) (x) [.int .i64 (x)] (fun k_ => some k_ ≠ (v2 : Value).ownBlock) (fun _ => False) rfl rfl ?aP43 (fun _ hk => hk.elim) ?aF43 ?aO43 ?aB43 ?aS43 ?aL43 ?_
         case aP43 => exact rfl
         case aB43 => exact HX.out.below
         case aF43 => exact (fun k_ hk => Kd.fresh' (Kd.R_lt HT2.out.1) k_ hk)
         case aO43 => exact HT2.out.2
         case aS43 => exact HX.out.below.size
         case aL43 => have := P.sUsed_length l j; have := C3.out; omega
         intro v1 w143 ho hb_ hg_ hat_
         have hst_ := Stp.grown (S := fun k => some k = (.slice A3 (P.sUsed l j).length c3_ : Value).ownBlock) hg_ (fun k hk => hk.symm)
         have H144 := Aside0.mk (HX.out.stp hst_ (fun k hk => Kd.R_base HT2.out.2 k hk.symm) (fun b hb he => by
          obtain ⟨cells, hc⟩ := Kd.R_typed HT2.out.2 b.1 he.symm
          have h2 := (HX.out.at_ b hb).2
          rw [hc] at h2
          simp only [List.mem_cons, List.not_mem_nil, or_false] at hb
          rcases hb with rfl | rfl | rfl <;> cases h2))
         clear hst_ HX
         have HD2 := Aside0.mk (show Two w143 w.heap.size v2 v1 (P.sDeny l i) (P.sUsed l (j + 1)) from ⟨Kd.R_mono (Kd.R_after (ok := fun _ => True) (Kd.R_mono HT2.out.1 (fun _ hk => ⟨trivial, hk⟩)) hg_ hat_) (fun _ hk => hk.2), by rw [P.sUsed_on HBo.out, ← HE.out]; exact ho⟩)
         clear ho hb_ hg_ hat_ HT2
         obtain ⟨A4, c4, e4⟩ := Kd.R_slice HD2.out.2
         subst e4
         clear hc3 hcb
         go_wp2_with (first | ((with_reducible refine gate_store (t := 39) (p := 53) rfl ?_); refine Aside0.out ?_))
         refine Aside0.mk ?_
         refine st (o' := 3) (u := .slice A4 (P.sUsed l (j + 1)).length c4) (seg := [.slice A4 (P.sUsed l (j + 1)).length c4]) ?hw45 ?hN45 rfl ?hp45 ?hx45 rfl H144.out.gt0 (by kernel_rfl) ?hf45 (by simp [Value.oneCell']) ?_
         case hw45 => rfl
         case hN45 => rfl
         case hp45 => rfl
         case hx45 => rfl
         case hf45 => show 4 ≤ 4; decide
         intro w145 hb45 hS45
         have H146 := Aside0.mk (H144.out.wr0 (cs' := #[.int .u32 g, .int .u32 t, v2, .slice A4 (P.sUsed l (j + 1)).length c4]) hb45 hS45)
         have n47_ := Aside0.mk (Two.other HD2.out H144.out.gt0 (by decide) hS45)
         clear HD2
         have HD2 := n47_
         clear n47_
         clear hb45 hS45 H144
         have HZ := Aside0.mk H146.out
         have HZD := Aside0.mk HD2.out
         clear H146 HD2
         go_wp2
         go_roundg k1_
         case measure => omega
         case rel => exact ⟨j + 1, x + 1, _, _, rfl, ⟨rfl⟩, ⟨by rw [HE.out]; rfl⟩, ⟨by have := HK.out; omega⟩, ⟨by have := C3.out; omega⟩, HZ, HZD⟩
       ·have c3b : decide (x < 256) = false := decide_eq_false (by omega)
        obtain rfl : j = 256 := by have := HI.out; omega
        clear he c3
        obtain ⟨kgd, hkgd⟩ := (P.impl_snap_good g t (P.sDeny l i) (P.sUsed l 256) (by rw [P.sDeny_length]; have := HM.out.2; omega) (Nat.le_trans (P.sUsed_length l 256) (by decide))).ex
        have HSz := Aside0.mk (show P.snapSz g t (P.sDeny l i) (P.sUsed l 256) from ⟨RQ.out, RT.out, by rw [P.sDeny_length]; have := HM.out.2; omega, Nat.le_trans (P.sUsed_length l 256) (by decide)⟩)
        have HDec := Aside0.mk (show P.isSnap l = (P.goodSnap g t (P.sDeny l i) (P.sUsed l 256) && decide (P.snapCode g t (P.sDeny l i) (P.sUsed l 256) = l)) from by unfold P.isSnap; rw [← HN.out, ← HG.out, ← HTl.out, Int.toNat_natCast, decide_eq_true (show (i : Int) ≤ 16 from C16.out), Bool.true_and])
        have HIs := Aside0.mk (show P.sDeny l (P.sCnt l).toNat = P.sDeny l i from by rw [← HN.out, Int.toNat_natCast])
        have HKG := Aside0.mk hkgd
        obtain ⟨xs, hxs⟩ : ∃ xs, xs = P.sDeny l i := ⟨_, rfl⟩
        obtain ⟨u, hus⟩ : ∃ u, u = P.sUsed l 256 := ⟨_, rfl⟩
        rw [← hxs] at HKG HSz HDec HIs HT2
        rw [← hus] at HKG HSz HDec HT2
        have HUs := Aside0.mk hus
        obtain ⟨A2, c2, e2⟩ := Kd.R_slice HT2.out.1
        subst e2
        obtain ⟨A3, c3_, e3⟩ := Kd.R_slice HT2.out.2
        subst e3
        clear hkgd hxs hus
        go_wp2
        clear c3b
        have H149 := Aside0.mk HX.out.drew
        have n50_ := Aside0.mk (Two.below HT2.out (below_drew1 (Below.refl wl.heap.size wl)))
        clear HT2
        have HT2 := n50_
        clear n50_
        refine start_ (n := 9) (S := fun w' => w'.heap[g4]? = some (.cells #[.int .u32 g, .int .u32 t, .slice A2 xs.length c2, .slice A3 u.length c3_] 44 (0, 0)) ∧ w'.heap[g1]? = some (.cells (bytesV l).toArray 98 (0, 0))) (ds := []) #[false, false, false, false, false, false, false, false, false] (by kernel_rfl) rfl rfl ⟨H149.out.gt0, H149.out.gt2⟩ (fun hHeld => ?_)
        clear HX
        generalize wl.drew = w148 at H149 HT2 hHeld ⊢
        refine take_ (i := 0) (N := some 55) (v := .agg #[.int .u32 g, .int .u32 t, .slice A2 xs.length c2, .slice A3 u.length c3_]) (a' := ?_) #[true, false, false, false, false, false, false, false, false] rfl rfl (by kernel_rfl) (fun _ _ _ h => h) (Or.inl ⟨by rfl, ?yl51⟩) hHeld ?ha51 ?hh51
        case yl51 =>
         rintro w' ⟨s0, s1⟩
         exact ld_run (x := .tmp 4) (by rfl) (by rfl) s0 Try.underlying44 rfl (by kernel_rfl)
        case ha51 =>
         simp only [Act.put, List.setIfInBounds_toArray, List.set_cons_zero, List.set_cons_succ, i64_w, i32_w]
         rfl
        refine one_ (i := 1) (N := some 56) #[true, true, false, false, false, false, false, false, false] rfl rfl (by kernel_rfl) (by decide) (fun K hK => ?_)
        refine goes_ Try.func67 (by kernel_rfl) rfl #[.agg #[.int .u32 g, .int .u32 t, .slice A2 xs.length c2, .slice A3 u.length c3_]] (by rfl) rfl rfl (by (try simp only [List.map_toArray, List.map_cons, List.map_nil]); first | done | rfl) ?_
        refine (impl_Snap_good.calls kgd g t _ _ xs _ _ u _ _ (Kd.R_reads' HT2.out.1).2.2 (Kd.R_reads' HT2.out.1).2.1 (Kd.R_reads' HT2.out.2).2.2 (Kd.R_reads' HT2.out.2).2.1 HKG.out).mono ?_
        rintro e w152 ⟨rfl, hb_⟩
        refine ⟨_, rfl, ?_⟩
        have H153 := Aside0.mk (H149.out.step hb_)
        have n54_ := Aside0.mk (Two.below HT2.out hb_)
        clear HT2
        have HT2 := n54_
        clear n54_
        clear hb_ H149
        refine hK.out _ _ ⟨H153.out.gt0, H153.out.gt2⟩ (fun hHeld => ?_)
        clear hK K
        refine norm_ (a' := ?_) ?_ ?_
        rotate_left
        ·show Act.put _ (some 56) _ = _
         simp only [Act.put, List.setIfInBounds_toArray, List.set_cons_zero, List.set_cons_succ, i64_w, i32_w]
         rfl
        cases hgd : P.goodSnap g t xs u with
        | false =>
         have HGd := Aside0.mk hgd
         clear hgd
         refine pure_ (i := 2) (N := some 57) (v := ?_) (a' := ?_) #[true, true, true, false, false, false, false, false, false] rfl rfl (by kernel_rfl) (fun _ _ _ h => h) (Or.inl ⟨by rfl, ?_⟩) ?_ ?_
         rotate_left
         ·intro w'
          go_simp
          with_reducible rfl
         rotate_left
         ·simp only [Act.put, List.setIfInBounds_toArray, List.set_cons_zero, List.set_cons_succ, i64_w, i32_w]
          rfl
         refine pure_ (i := 3) (N := some 58) (v := ?_) (a' := ?_) #[true, true, true, true, false, false, false, false, false] rfl rfl (by kernel_rfl) (fun _ _ _ h => h) (Or.inl ⟨by rfl, ?_⟩) ?_ ?_
         rotate_left
         ·intro w'
          go_simp
          with_reducible rfl
         rotate_left
         ·simp only [Act.put, List.setIfInBounds_toArray, List.set_cons_zero, List.set_cons_succ, i64_w, i32_w]
          rfl
         refine pure_ (i := 4) (N := some 59) (v := undef) (a' := ?_) #[true, true, true, true, true, false, false, false, false] rfl rfl (by kernel_rfl) (fun _ _ _ h => h) (Or.inr ⟨by rfl, rfl⟩) ?_ ?_
         rotate_left
         ·simp only [Act.put, List.setIfInBounds_toArray, List.set_cons_zero, List.set_cons_succ, i64_w, i32_w]
          rfl
         refine pure_ (i := 6) (N := some 61) (v := undef) (a' := ?_) #[true, true, true, true, true, false, true, false, false] rfl rfl (by kernel_rfl) (fun _ _ _ h => h) (Or.inr ⟨by rfl, rfl⟩) ?_ ?_
         rotate_left
         ·simp only [Act.put, List.setIfInBounds_toArray, List.set_cons_zero, List.set_cons_succ, i64_w, i32_w]
          rfl
         refine pure_ (i := 5) (N := some 60) (v := undef) (a' := ?_) #[true, true, true, true, true, true, true, false, false] rfl rfl (by kernel_rfl) (fun _ _ _ h => h) (Or.inr ⟨by rfl, rfl⟩) ?_ ?_
         rotate_left
         ·simp only [Act.put, List.setIfInBounds_toArray, List.set_cons_zero, List.set_cons_succ, i64_w, i32_w]
          rfl
         refine pure_ (i := 7) (N := some 62) (v := undef) (a' := ?_) #[true, true, true, true, true, true, true, true, false] rfl rfl (by kernel_rfl) (fun _ _ _ h => h) (Or.inr ⟨by rfl, rfl⟩) ?_ ?_
         rotate_left
         ·simp only [Act.put, List.setIfInBounds_toArray, List.set_cons_zero, List.set_cons_succ, i64_w, i32_w]
          rfl
         refine pure_ (i := 8) (N := some 63) (v := ?_) (a' := ?_) #[true, true, true, true, true, true, true, true, true] rfl rfl (by kernel_rfl) (fun _ _ _ h => h) (Or.inl ⟨by rfl, ?_⟩) ?_ ?_
         rotate_left
         ·intro w'
          go_simp
          with_reducible rfl
         rotate_left
         ·simp only [Act.put, List.setIfInBounds_toArray, List.set_cons_zero, List.set_cons_succ, i64_w, i32_w]
          rfl
         refine done_ (by kernel_rfl) ?_
         clear hHeld
         go_wp2_with (first | ((with_reducible refine gate_store (t := 44) (p := 2) rfl ?_); refine Aside0.out ?_))
         refine Aside0.mk ?_
         refine st_all ?hw55 ?hN55 rfl ?hp55 (cs := #[.int .u32 0, .int .u32 0, .slice none 0 0, .slice none 0 0]) ?hx55 H153.out.gt1 (by kernel_rfl) rfl (by simp [Value.oneCell']) ?_
         case hw55 => rfl
         case hN55 => rfl
         case hp55 => rfl
         case hx55 => first | rfl | (go_simp; rfl)
         intro w155 hb55 hS55
         have H156 := Aside0.mk (H153.out.wr1 (cs' := #[.int .u32 0, .int .u32 0, .slice none 0 0, .slice none 0 0]) hb55 hS55)
         have n57_ := Aside0.mk (Two.other HT2.out H153.out.gt1 (by decide) hS55)
         clear HT2
         have HT2 := n57_
         clear n57_
         clear hb55 hS55 H153
         go_wp2
         refine bodyPost_ret (results_ct rfl _ _ g2 44 #[.int .u32 0, .int .u32 0, .slice none 0 0, .slice none 0 0] (0, 0) _ rfl H156.out.gt1 Try.underlying44 rfl (by kernel_rfl)) rfl ?_
         have hd : P.decS l = (false, 0, 0, [], []) := by
          unfold P.decS
          exact if_neg (fun h => by have h2 := h.2; rw [HDec.out, HGd.out] at h2; cases h2)
         rw [hd]
         exact ⟨_, _, rfl, Two.none, H156.out.below⟩
        | true =>
         have HGd := Aside0.mk hgd
         clear hgd
         have HOk := Aside0.mk (snapOk_of HSz.out HGd.out)
         refine pure_ (i := 2) (N := some 57) (v := ?_) (a' := ?_) #[true, true, true, false, false, false, false, false, false] rfl rfl (by kernel_rfl) (fun _ _ _ h => h) (Or.inl ⟨by rfl, ?_⟩) ?_ ?_
         rotate_left
         ·intro w'
          go_simp
          with_reducible rfl
         rotate_left
         ·simp only [Act.put, List.setIfInBounds_toArray, List.set_cons_zero, List.set_cons_succ, i64_w, i32_w]
          rfl
         refine pure_ (i := 3) (N := some 58) (v := ?_) (a' := ?_) #[true, true, true, true, false, false, false, false, false] rfl rfl (by kernel_rfl) (fun _ _ _ h => h) (Or.inl ⟨by rfl, ?_⟩) ?_ ?_
         rotate_left
         ·intro w'
          go_simp
          with_reducible rfl
         rotate_left
         ·simp only [Act.put, List.setIfInBounds_toArray, List.set_cons_zero, List.set_cons_succ, i64_w, i32_w]
          rfl
         refine take_ (i := 4) (N := some 59) (v := .agg #[.int .u32 g, .int .u32 t, .slice A2 xs.length c2, .slice A3 u.length c3_]) (a' := ?_) #[true, true, true, true, true, false, false, false, false] rfl rfl (by kernel_rfl) (fun _ _ _ h => h) (Or.inl ⟨by rfl, ?yl58⟩) hHeld ?ha58 ?hh58
         case yl58 =>
          rintro w' ⟨s0, s1⟩
          exact ld_run (x := .tmp 4) (by rfl) (by rfl) s0 Try.underlying44 rfl (by kernel_rfl)
         case ha58 =>
          simp only [Act.put, List.setIfInBounds_toArray, List.set_cons_zero, List.set_cons_succ, i64_w, i32_w]
          rfl
         refine take_ (i := 6) (N := some 61) (v := .agg (bytesV l).toArray) (a' := ?_) #[true, true, true, true, true, false, true, false, false] rfl rfl (by kernel_rfl) (fun _ _ _ h => h) (Or.inl ⟨by rfl, ?yl59⟩) hHeld ?ha59 ?hh59
         case yl59 =>
          rintro w' ⟨s0, s1⟩
          exact ld_run (x := .tmp 1) (by rfl) (by rfl) s1 Try.underlying98 rfl (by rw [List.size_toArray, bytesV_length, HL.out]; kernel_rfl)
         case ha59 =>
          simp only [Act.put, List.setIfInBounds_toArray, List.set_cons_zero, List.set_cons_succ, i64_w, i32_w]
          rfl
         refine one_ (i := 5) (N := some 60) #[true, true, true, true, true, true, true, false, false] rfl rfl (by kernel_rfl) (by decide) (fun K hK => ?_)
         refine goes_ Try.func68 (by kernel_rfl) rfl #[.agg #[.int .u32 g, .int .u32 t, .slice A2 xs.length c2, .slice A3 u.length c3_]] (by rfl) rfl rfl (by (try simp only [List.map_toArray, List.map_cons, List.map_nil]); first | done | rfl) ?_
         refine (snap_code_calls (Kd.R_reads' HT2.out.1).2.2 (Kd.R_reads' HT2.out.1).2.1 (Kd.R_reads' HT2.out.2).2.2 (Kd.R_reads' HT2.out.2).2.1 HOk.out).mono ?_
         rintro e w160 ⟨rfl, hb_⟩
         refine ⟨_, rfl, ?_⟩
         have H161 := Aside0.mk (H153.out.step hb_)
         have n62_ := Aside0.mk (Two.below HT2.out hb_)
         clear HT2
         have HT2 := n62_
         clear n62_
         clear hb_ H153
         refine hK.out _ _ ⟨H161.out.gt0, H161.out.gt2⟩ (fun hHeld => ?_)
         clear hK K
         refine norm_ (a' := ?_) ?_ ?_
         rotate_left
         ·show Act.put _ (some 60) _ = _
          simp only [Act.put, List.setIfInBounds_toArray, List.set_cons_zero, List.set_cons_succ, i64_w, i32_w]
          rfl
         obtain ⟨i5, hi5, _, hsz5, _⟩ := info_parts info5
         have hne := fun W => neq_arr (P := Try.prog) (w := W) Try.underlying98 Try.underlying5 hi5 (by kernel_rfl) (P.snapCode_length g t xs u) HL.out
         refine pure_ (i := 7) (N := some 62) (v := ?_) (a' := ?_) #[true, true, true, true, true, true, true, true, false] rfl rfl (by kernel_rfl) (fun _ _ _ h => h) (Or.inl ⟨by rfl, ?_⟩) ?_ ?_
         rotate_left
         ·intro w'
          go_simp
          first | with_reducible rfl | rfl
         rotate_left
         ·simp only [Act.put, List.setIfInBounds_toArray, List.set_cons_zero, List.set_cons_succ, i64_w, i32_w]
          rfl
         refine pure_ (i := 8) (N := some 63) (v := ?_) (a' := ?_) #[true, true, true, true, true, true, true, true, true] rfl rfl (by kernel_rfl) (fun _ _ _ h => h) (Or.inl ⟨by rfl, ?_⟩) ?_ ?_
         rotate_left
         ·intro w'
          go_simp
          with_reducible rfl
         rotate_left
         ·simp only [Act.put, List.setIfInBounds_toArray, List.set_cons_zero, List.set_cons_succ, i64_w, i32_w]
          rfl
         refine done_ (by kernel_rfl) ?_
         clear hne
         clear hi5 hsz5 hHeld
         by_cases hc : P.snapCode g t xs u = l
         ·rw [decide_eq_true hc]
          have HC := Aside0.mk hc
          clear hc
          go_wp2_with (first | ((with_reducible refine gate_dst (N := 65) rfl ?_); refine Aside0.out ?_))
          refine Aside0.mk ?_
          refine ld ?hw63 rfl ?hx63 H161.out.gt0 Try.underlying44 rfl (by kernel_rfl) ?_
          case hw63 => rfl
          case hx63 => rfl
          go_wp2_with (first | ((with_reducible refine gate_store (t := 44) (p := 2) rfl ?_); refine Aside0.out ?_))
          refine Aside0.mk ?_
          refine st_all ?hw64 ?hN64 rfl ?hp64 (cs := #[.int .u32 g, .int .u32 t, .slice A2 xs.length c2, .slice A3 u.length c3_]) ?hx64 H161.out.gt1 (by kernel_rfl) rfl (by simp [Value.oneCell']) ?_
          case hw64 => rfl
          case hN64 => rfl
          case hp64 => rfl
          case hx64 => first | rfl | (go_simp; rfl)
          intro w164 hb64 hS64
          have H165 := Aside0.mk (H161.out.wr1 (cs' := #[.int .u32 g, .int .u32 t, .slice A2 xs.length c2, .slice A3 u.length c3_]) hb64 hS64)
          have n66_ := Aside0.mk (Two.other HT2.out H161.out.gt1 (by decide) hS64)
          clear HT2
          have HT2 := n66_
          clear n66_
          clear hb64 hS64 H161
          go_wp2
          refine bodyPost_ret (results_ct rfl _ _ g2 44 #[.int .u32 g, .int .u32 t, .slice A2 xs.length c2, .slice A3 u.length c3_] (0, 0) _ rfl H165.out.gt1 Try.underlying44 rfl (by kernel_rfl)) rfl ?_
          have hd : P.decS l = (true, g, t, xs, u) := by
           unfold P.decS
           rw [if_pos ⟨HL.out, by rw [HDec.out, HGd.out, decide_eq_true HC.out]; rfl⟩, HIs.out, ← HUs.out, ← HG.out, ← HTl.out]
          rw [hd]
          exact ⟨_, _, rfl, HT2.out, H165.out.below⟩
         ·rw [decide_eq_false hc]
          have HC := Aside0.mk hc
          clear hc
          go_wp2_with (first | ((with_reducible refine gate_store (t := 44) (p := 2) rfl ?_); refine Aside0.out ?_))
          refine Aside0.mk ?_
          refine st_all ?hw67 ?hN67 rfl ?hp67 (cs := #[.int .u32 0, .int .u32 0, .slice none 0 0, .slice none 0 0]) ?hx67 H161.out.gt1 (by kernel_rfl) rfl (by simp [Value.oneCell']) ?_
          case hw67 => rfl
          case hN67 => rfl
          case hp67 => rfl
          case hx67 => first | rfl | (go_simp; rfl)
          intro w167 hb67 hS67
          have H168 := Aside0.mk (H161.out.wr1 (cs' := #[.int .u32 0, .int .u32 0, .slice none 0 0, .slice none 0 0]) hb67 hS67)
          have n69_ := Aside0.mk (Two.other HT2.out H161.out.gt1 (by decide) hS67)
          clear HT2
          have HT2 := n69_
          clear n69_
          clear hb67 hS67 H161
          go_wp2
          refine bodyPost_ret (results_ct rfl _ _ g2 44 #[.int .u32 0, .int .u32 0, .slice none 0 0, .slice none 0 0] (0, 0) _ rfl H168.out.gt1 Try.underlying44 rfl (by kernel_rfl)) rfl ?_
          have hd : P.decS l = (false, 0, 0, [], []) := by
           unfold P.decS
           exact if_neg (fun h => by have h2 := h.2; rw [HDec.out, HGd.out, decide_eq_false HC.out] at h2; cases h2)
          rw [hd]
          exact ⟨_, _, rfl, Two.none, H168.out.below⟩
 ·have c16b : decide (16 < n) = true := decide_eq_true (by omega)
  have C16 := Aside0.mk c16
  clear c16
  go_wp2_with (first | ((with_reducible refine gate_store (t := 44) (p := 2) rfl ?_); refine Aside0.out ?_))
  refine Aside0.mk ?_
  refine st_all ?hw27 ?hN27 rfl ?hp27 (cs := #[.int .u32 0, .int .u32 0, .slice none 0 0, .slice none 0 0]) ?hx27 H126.out.gt1 (by kernel_rfl) rfl (by simp [Value.oneCell']) ?_
  case hw27 => rfl
  case hN27 => rfl
  case hp27 => rfl
  case hx27 => first | rfl | (go_simp; rfl)
  intro w127 hb27 hS27
  have H128 := Aside0.mk (H126.out.wr1 (cs' := #[.int .u32 0, .int .u32 0, .slice none 0 0, .slice none 0 0]) hb27 hS27)
  clear hb27 hS27 H126
  go_wp2
  refine bodyPost_ret (results_ct rfl _ _ g2 44 #[.int .u32 0, .int .u32 0, .slice none 0 0, .slice none 0 0] (0, 0) _ rfl H128.out.gt1 Try.underlying44 rfl (by kernel_rfl)) rfl ?_
  have hd : P.decS l = (false, 0, 0, [], []) := by
   unfold P.decS
   exact if_neg (fun h => by have h2 := h.2; unfold P.isSnap at h2; rw [← HN.out, show decide (n ≤ 16) = false from decide_eq_false (by have := C16.out; omega)] at h2; cases h2)
  rw [hd]
  exact ⟨_, _, rfl, Two.none, H128.out.below⟩
def impl_DecodeSnap.f (l0 : List Int) : Option (Bool × Int × Int × List Int × List Int) := if P.U8s l0 then some (P.decS l0) else none
set_option maxHeartbeats 8000000 in
set_option maxRecDepth 100000 in
theorem impl_DecodeSnap.calls (A0 : Option Addr) (c0 : Nat) (l0 : List Int) (r1 : Bool) (r2 : Int) (r3 : Int) (r4 : List Int) (r5 : List Int) (w : World) (hr0 : Kd.C (Kd.int .u8) w A0 l0.length l0) (hc0 : l0.length ≤ c0) (h : impl_DecodeSnap.f l0 = some (r1, r2, r3, r4, r5)) :
  Calls Try.prog 31 #[.slice A0 l0.length c0] w fun e w' => ∃ v3_ v4_ : Value, e = .returned (.agg #[.bool r1, .int .u32 r2, .int .u32 r3, v3_, v4_]) ∧ Kd.R (Kd.int .i64) 2 w' w.heap.size (fun k_ => some k_ ≠ (v4_ : Value).ownBlock) v3_ r4 ∧ Kd.R (Kd.int .i64) 2 w' w.heap.size (fun k_ => some k_ ≠ (v3_ : Value).ownBlock) v4_ r5 ∧ Below w.heap.size w w' := by
 unfold impl_DecodeSnap.f at h
 by_cases hu : P.U8s l0
 case neg => rw [if_neg hu] at h; cases h
 rw [if_pos hu] at h
 have h := Option.some.inj h
 have HU := Aside0.mk hu
 have HR0 := Aside0.mk hr0
 have H := Aside0.mk h
 have H0 := Aside0.mk (Bx.refl w)
 clear hu hr0 h hc0
 go_enter Try.func31, Try.ntmps31
 go_wp2_with (first | ((with_reducible refine gate_dst (N := 2) rfl ?_); refine Aside0.out ?_))
 refine Aside0.mk ?_
 refine mk ?hw70 (N := 2) ?hd70 (cs := #[.bool false, .int .u32 0, .int .u32 0, .slice none 0 0, .slice none 0 0]) (t := 50) ?hr70 ?_
 case hd70 => rfl
 case hw70 => rfl
 case hr70 => first | (go_simp; done) | (go_simp; rfl)
 intro g2 hg2_ w170 hb70 hB70
 have H171 := Aside0.mk (H0.out.new hg2_ hb70 hB70)
 clear hg2_ hb70 hB70 H0
 by_cases hl : l0.length = 128
 ·have hlb : ((l0.length : Int) != 128) = false := bne_eq_false_iff_eq.mpr (by omega)
  have HL := Aside0.mk hl
  have hrd := Kd.reads_of_C (enc := Value.int .u8) (d := (0 : Int)) (h1 := fun _ => rfl) (Kd.C_below HR0.out H171.out.below)
  obtain ⟨ad, eA, hcell⟩ := hrd.2.2 (by omega)
  subst eA
  have HCl := Aside0.mk (show ∀ j v, (bytesV l0)[j]? = some v → w170.cell? (ad.add j) = some v from fun j v hv => by
   unfold bytesV at hv
   rw [List.getElem?_map] at hv
   obtain ⟨z, hz, rfl⟩ := Option.map_eq_some_iff.1 hv
   have hj : j < l0.length := (List.getElem?_eq_some_iff.1 hz).1
   rw [hcell j hj, List.getD_eq_getElem?_getD, hz]
   rfl)
  clear hl hrd hcell
  go_wp2_with (first | ((with_reducible refine gate_dst (N := 11) rfl ?_); refine Aside0.out ?_))
  refine Aside0.mk ?_
  refine valW' ?hw11 (v := .pointer (some ad)) (run_arr (n := 128) rfl rfl Try.underlying98 (by rw [HL.out]; exact Nat.le_refl _)) ?_
  case hw11 => rfl
  go_wp2_with (first | ((with_reducible refine gate_dst (N := 12) rfl ?_); refine Aside0.out ?_))
  refine Aside0.mk ?_
  refine valW' ?hw12 (run_ld_cells (cs := bytesV l0) rfl rfl HCl.out Try.underlying98 rfl (by rw [bytesV_length, HL.out]; kernel_rfl)) ?_
  case hw12 => rfl
  go_wp2_with (first | ((with_reducible refine gate_callee (f := 71) rfl ?_); refine Aside0.out ?_))
  refine Aside0.mk ?_
  refine goesW (some 13) rfl ?hw72 Try.func71 (by kernel_rfl) rfl #[.agg (bytesV l0).toArray] rfl (by (try simp only [List.map_toArray, List.map_cons, List.map_nil]); first | done | rfl) ?_
  case hw72 => rfl
  refine (snap_calls HL.out HU.out).mono ?_
  rintro e w172 ⟨v2, v3, rfl, ht_, hb_⟩
  refine ⟨_, rfl, ?_⟩
  have HBS := Aside0.mk H171.out.below.size
  have H173 := Aside0.mk (H171.out.step hb_)
  clear hb_ H171
  rw [H.out] at ht_
  have HT2 := Aside0.mk ht_
  clear ht_
  rw [H.out]
  dsimp only
  obtain ⟨A2, c2, e2⟩ := Kd.R_slice HT2.out.1
  subst e2
  obtain ⟨A3, c3, e3⟩ := Kd.R_slice HT2.out.2
  subst e3
  clear H
  go_wp2_with (first | ((with_reducible refine gate_dst (N := 3) rfl ?_); refine Aside0.out ?_))
  refine Aside0.mk ?_
  refine mk ?hw74 (N := 3) ?hd74 (cs := #[.int .u32 0, .int .u32 0, .slice none 0 0, .slice none 0 0]) (t := 44) ?hr74 ?_
  case hd74 => rfl
  case hw74 => rfl
  case hr74 => first | (go_simp; done) | (go_simp; rfl)
  intro g3 hg3_ w174 hb74 hB74
  have H175 := Aside0.mk (H173.out.new hg3_ hb74 hB74)
  have n76_ := Aside0.mk (Two.below HT2.out hB74)
  clear HT2
  have HT2 := n76_
  clear n76_
  clear hg3_ hb74 hB74 H173
  go_wp2_with (first | ((with_reducible refine gate_store (t := 44) (p := 3) rfl ?_); refine Aside0.out ?_))
  refine Aside0.mk ?_
  refine st_all ?hw77 ?hN77 rfl ?hp77 (cs := #[.int .u32 r2, .int .u32 r3, .slice A2 r4.length c2, .slice A3 r5.length c3]) ?hx77 H175.out.gt0 (by kernel_rfl) rfl (by simp [Value.oneCell']) ?_
  case hw77 => rfl
  case hN77 => rfl
  case hp77 => rfl
  case hx77 => first | rfl | (go_simp; rfl)
  intro w177 hb77 hS77
  have H178 := Aside0.mk (H175.out.wr0 (cs' := #[.int .u32 r2, .int .u32 r3, .slice A2 r4.length c2, .slice A3 r5.length c3]) hb77 hS77)
  have n79_ := Aside0.mk (Two.other HT2.out H175.out.gt0 (by decide) hS77)
  clear HT2
  have HT2 := n79_
  clear n79_
  clear hb77 hS77 H175
  go_wp2_with (first | ((with_reducible refine gate_dst (N := 17) rfl ?_); refine Aside0.out ?_))
  refine Aside0.mk ?_
  refine ld ?hw80 rfl ?hx80 H178.out.gt0 Try.underlying44 rfl (by kernel_rfl) ?_
  case hw80 => rfl
  case hx80 => rfl
  go_wp2_with (first | ((with_reducible refine gate_store (t := 50) (p := 2) rfl ?_); refine Aside0.out ?_))
  refine Aside0.mk ?_
  refine st_all ?hw81 ?hN81 rfl ?hp81 (cs := #[.bool r1, .int .u32 r2, .int .u32 r3, .slice A2 r4.length c2, .slice A3 r5.length c3]) ?hx81 H178.out.gt1 (by kernel_rfl) rfl (by simp [Value.oneCell']) ?_
  case hw81 => rfl
  case hN81 => rfl
  case hp81 => rfl
  case hx81 => first | rfl | (go_simp; rfl)
  intro w181 hb81 hS81
  have H182 := Aside0.mk (H178.out.wr1 (cs' := #[.bool r1, .int .u32 r2, .int .u32 r3, .slice A2 r4.length c2, .slice A3 r5.length c3]) hb81 hS81)
  have n83_ := Aside0.mk (Two.other HT2.out H178.out.gt1 (by decide) hS81)
  clear HT2
  have HT2 := n83_
  clear n83_
  clear hb81 hS81 H178
  go_wp2
  refine bodyPost_ret (results_cell_row rfl _ _ g2 50 #[.bool r1, .int .u32 r2, .int .u32 r3, .slice A2 r4.length c2, .slice A3 r5.length c3] (0, 0) _ rfl H182.out.gt1 Try.underlying50 rfl (by kernel_rfl)) rfl ?_
  exact ⟨_, _, rfl, Kd.R_lower HT2.out.1 HBS.out, Kd.R_lower HT2.out.2 HBS.out, H182.out.below⟩
 ·have hlb : ((l0.length : Int) != 128) = true := bne_iff_ne.mpr (by omega)
  have HL := Aside0.mk hl
  clear hl
  have hd : P.decS l0 = (false, 0, 0, [], []) := by
   unfold P.decS
   exact if_neg (fun h => HL.out h.1)
  have h := H.out
  rw [hd] at h
  clear H hd
  simp only [Prod.mk.injEq] at h
  obtain ⟨rfl, rfl, rfl, rfl, rfl⟩ := h
  go_wp2_with (first | ((with_reducible refine gate_store (t := 50) (p := 2) rfl ?_); refine Aside0.out ?_))
  refine Aside0.mk ?_
  refine st_all ?hw84 ?hN84 rfl ?hp84 (cs := #[.bool false, .int .u32 0, .int .u32 0, .slice none 0 0, .slice none 0 0]) ?hx84 H171.out.gt0 (by kernel_rfl) rfl (by simp [Value.oneCell']) ?_
  case hw84 => rfl
  case hN84 => rfl
  case hp84 => rfl
  case hx84 => first | rfl | (go_simp; rfl)
  intro w184 hb84 hS84
  have H185 := Aside0.mk (H171.out.wr0 (cs' := #[.bool false, .int .u32 0, .int .u32 0, .slice none 0 0, .slice none 0 0]) hb84 hS84)
  clear hb84 hS84 H171
  go_wp2
  refine bodyPost_ret (results_cell_row rfl _ _ g2 50 #[.bool false, .int .u32 0, .int .u32 0, .slice none 0 0, .slice none 0 0] (0, 0) _ rfl H185.out.gt0 Try.underlying50 rfl (by kernel_rfl)) rfl ?_
  exact ⟨_, _, rfl, (Two.none (w := _) (b := w.heap.size)).1, (Two.none (w := _) (b := w.heap.size)).2, H185.out.below⟩
end Go.Proofs.Ytgfadfahbhcllaa.Q
end
