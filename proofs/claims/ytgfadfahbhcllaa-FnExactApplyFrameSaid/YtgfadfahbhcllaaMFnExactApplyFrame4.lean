/- Part 4 of 8 of the proof that the law FnExactApplyFrame returns true at every input. No further condition. -/
import Derived.Lib.LazyBuf
import Derived.Laws.BitsLemmas
import Derived.Test.YtgfadfahbhcllaaMFnExactApplyFrame3
section
namespace Go.Proofs.Ytgfadfahbhcllaa.Q
open Go.RowKit Go.Proofs.YtgfadfahbhcllaaW.PrintWords Go.Proofs.YtgfadfahbhcllaaW.PrintLast Go.Proofs.Ytgfadfahbhcllaa.LK Go.Proofs.YtgfadfahbhcllaaW.PrintMore
attribute [local go_sem] max2_int min2_int max_two min_two max_three min_three max_four min_four
set_option linter.unusedVariables false
set_option linter.unusedSimpArgs false
def impl_goodSerials.l0 : Nat → List Int → List Int → Int → Int → Option (Bool)
  | 0, _, _, _, _ => none
  | k + 1, x0, x5, x6, x7 => if x7 < x6 then (if 0 ≤ x7 then (if x7 < (x5.length : Int) then (if (rd x5 x7) < 0 then (some false) else (if (rd x5 x7) ≥ 256 then (some false) else (if x7 > 0 then (if 0 ≤ (wrap64 (x7 - 1)) then (if (wrap64 (x7 - 1)) < (x0.length : Int) then (if (rd x0 (wrap64 (x7 - 1))) ≥ (rd x5 x7) then (some false) else (impl_goodSerials.l0 k x0 x5 x6 (wrap64 (x7 + 1)))) else (none)) else (none)) else (impl_goodSerials.l0 k x0 x5 x6 (wrap64 (x7 + 1)))))) else (none)) else (none)) else (some true)
def impl_goodSerials.f (k : Nat) (l0 : List Int) : Option (Bool) := impl_goodSerials.l0 k l0 l0 (l0.length : Int) 0
set_option maxHeartbeats 8000000 in
set_option maxRecDepth 100000 in
theorem impl_goodSerials.calls (k : Nat) (A0 : Option Addr) (c0 : Nat) (l0 : List Int) (r : Bool) (w : World) (hr0 : Kd.C (Kd.int .i64) w A0 l0.length l0) (hc0 : l0.length ≤ c0) (h : impl_goodSerials.f k l0 = some r) :
    Calls Try.prog 94 #[.slice A0 l0.length c0] w fun e w' => e = .returned (.bool r) ∧ Drawn0 w w' := by
  have HR0 := Aside0.mk hr0
  have HC0 := Aside0.mk hc0
  clear hr0 hc0
  have H : (impl_goodSerials.l0 k l0 l0 (l0.length : Int) 0) = some r := h
  clear h
  have H' := Aside0.mk H
  clear H
  go_enter Try.func94, Try.ntmps94
  go_wp2
  go_loopg [7] k (fun kq v7 w' => ∃ (x7_1 : Int), v7 = .int .i64 x7_1 ∧ Aside0 (impl_goodSerials.l0 kq l0 l0 (l0.length : Int) x7_1 = some r) ∧ Aside0 (kq ≤ k) ∧ Drawn0 w w')
  case atStart => exact ⟨(0), (by first | rfl | (simp; done) | (simp [*]; done)), H', ⟨Nat.le_refl _⟩, by repeat (first | exact Drawn0.refl _ | apply Drawn0.step)⟩
  case round =>
    clear H'
    obtain ⟨x7_1, rfl, HA, HK1, ⟨m1, rfl⟩⟩ := hrel
    cases gk with
    | zero => exact absurd HA.out (by simp [impl_goodSerials.l0])
    | succ k1 =>
      have H := HA.out
      clear HA
      simp only [impl_goodSerials.l0] at H
      by_cases c2 : x7_1 < (l0.length : Int)
      · rw [if_pos c2] at H
        have c2b0 : decide (x7_1 < (l0.length : Int)) = true := decide_eq_true c2
        clear c2
        by_cases c3 : 0 ≤ x7_1
        · rw [if_pos c3] at H
          have c3b0 : decide (0 ≤ x7_1) = true := decide_eq_true c3
          clear c3
          by_cases c4 : x7_1 < (l0.length : Int)
          · rw [if_pos c4] at H
            have c4b0 : decide (x7_1 < (l0.length : Int)) = true := decide_eq_true c4
            clear c4
            by_cases c5 : (rd l0 x7_1) < 0
            · rw [if_pos c5] at H
              have c5b0 : decide ((rd l0 x7_1) < 0) = true := decide_eq_true c5
              clear c5
              obtain rfl := Option.some.inj H
              have p101 : 0 ≤ (x7_1 : Int) := of_decide_eq_true (by first | (with_reducible assumption) | assumption)
              have q101 : x7_1 < (l0.length : Int) := of_decide_eq_true (by first | (with_reducible assumption) | assumption)
              obtain ⟨ad101, e101, hx101_0⟩ := Kd.at_int HR0.out x7_1 p101 q101
              cases e101
              replace p101 := eq_true p101
              replace q101 := eq_true q101
              go_wp2
              go_ret
              exact ⟨by first | rfl | (simp; done) | (simp [*]; done), by repeat (first | exact Drawn0.refl _ | apply Drawn0.step)⟩
            · rw [if_neg c5] at H
              have c5b0 : decide ((rd l0 x7_1) < 0) = false := decide_eq_false c5
              clear c5
              by_cases c6 : (rd l0 x7_1) ≥ 256
              · rw [if_pos c6] at H
                have c6b0 : decide (256 ≤ (rd l0 x7_1)) = true := decide_eq_true c6
                clear c6
                obtain rfl := Option.some.inj H
                have p101 : 0 ≤ (x7_1 : Int) := of_decide_eq_true (by first | (with_reducible assumption) | assumption)
                have q101 : x7_1 < (l0.length : Int) := of_decide_eq_true (by first | (with_reducible assumption) | assumption)
                obtain ⟨ad101, e101, hx101_0⟩ := Kd.at_int HR0.out x7_1 p101 q101
                cases e101
                replace p101 := eq_true p101
                replace q101 := eq_true q101
                go_wp2
                go_ret
                exact ⟨by first | rfl | (simp; done) | (simp [*]; done), by repeat (first | exact Drawn0.refl _ | apply Drawn0.step)⟩
              · rw [if_neg c6] at H
                have c6b0 : decide (256 ≤ (rd l0 x7_1)) = false := decide_eq_false c6
                clear c6
                by_cases c7 : x7_1 > 0
                · rw [if_pos c7] at H
                  have c7b0 : decide (0 < x7_1) = true := decide_eq_true c7
                  clear c7
                  obtain ⟨ji8, hji8⟩ : ∃ j_ : Int, (wrap64 (x7_1 - 1)) = j_ := ⟨_, rfl⟩
                  replace H : (if 0 ≤ (ji8) then (if (ji8) < (l0.length : Int) then (if (rd l0 (ji8)) ≥ (rd l0 x7_1) then (some false) else (impl_goodSerials.l0 k1 l0 l0 (l0.length : Int) (wrap64 (x7_1 + 1)))) else (none)) else (none)) = some r := by first | (rw [hji8] at H; exact H) | (simp only [hji8] at H ⊢; exact H)
                  have hji8w : (IntKind.i64.wrap (x7_1 - 1)) = ji8 := (i64_w _).trans hji8
                  by_cases c9 : 0 ≤ (ji8)
                  · rw [if_pos c9] at H
                    have c9b0 : decide (0 ≤ (ji8)) = true := decide_eq_true c9
                    clear c9
                    by_cases c10 : (ji8) < (l0.length : Int)
                    · rw [if_pos c10] at H
                      have c10b0 : decide ((ji8) < (l0.length : Int)) = true := decide_eq_true c10
                      clear c10
                      by_cases c11 : (rd l0 (ji8)) ≥ (rd l0 x7_1)
                      · rw [if_pos c11] at H
                        have c11b0 : decide ((rd l0 x7_1) ≤ (rd l0 (ji8))) = true := decide_eq_true c11
                        clear c11
                        obtain rfl := Option.some.inj H
                        have p101 : 0 ≤ (x7_1 : Int) := of_decide_eq_true (by first | (with_reducible assumption) | assumption)
                        have q101 : x7_1 < (l0.length : Int) := of_decide_eq_true (by first | (with_reducible assumption) | assumption)
                        obtain ⟨ad101, e101, hx101_0⟩ := Kd.at_int HR0.out x7_1 p101 q101
                        cases e101
                        replace p101 := eq_true p101
                        replace q101 := eq_true q101
                        have p102 : 0 ≤ ((ji8) : Int) := of_decide_eq_true (by first | (with_reducible assumption) | assumption)
                        have q102 : (ji8) < (l0.length : Int) := of_decide_eq_true (by first | (with_reducible assumption) | assumption)
                        obtain ⟨ad102, e102, hx102_0⟩ := Kd.at_int HR0.out (ji8) p102 q102
                        obtain rfl : ad101 = ad102 := (by injection e102)
                        replace p102 := eq_true p102
                        replace q102 := eq_true q102
                        go_wp2
                        go_ret
                        exact ⟨by first | rfl | (simp; done) | (simp only [← hji8] <;> (first | rfl | simp)) | (simp [*]; done), by repeat (first | exact Drawn0.refl _ | apply Drawn0.step)⟩
                      · rw [if_neg c11] at H
                        have c11b0 : decide ((rd l0 x7_1) ≤ (rd l0 (ji8))) = false := decide_eq_false c11
                        clear c11
                        have H' := Aside0.mk H
                        clear H
                        have p101 : 0 ≤ (x7_1 : Int) := of_decide_eq_true (by first | (with_reducible assumption) | assumption)
                        have q101 : x7_1 < (l0.length : Int) := of_decide_eq_true (by first | (with_reducible assumption) | assumption)
                        obtain ⟨ad101, e101, hx101_0⟩ := Kd.at_int HR0.out x7_1 p101 q101
                        cases e101
                        replace p101 := eq_true p101
                        replace q101 := eq_true q101
                        have p102 : 0 ≤ ((ji8) : Int) := of_decide_eq_true (by first | (with_reducible assumption) | assumption)
                        have q102 : (ji8) < (l0.length : Int) := of_decide_eq_true (by first | (with_reducible assumption) | assumption)
                        obtain ⟨ad102, e102, hx102_0⟩ := Kd.at_int HR0.out (ji8) p102 q102
                        obtain rfl : ad101 = ad102 := (by injection e102)
                        replace p102 := eq_true p102
                        replace q102 := eq_true q102
                        go_wp2
                        go_roundg k1
                        case measure => have := HK1.out; omega
                        case rel => exact ⟨(wrap64 (x7_1 + 1)), (by first | rfl | (simp; done) | (simp [*]; done)), H', ⟨by have := HK1.out; omega⟩, by repeat (first | exact Drawn0.refl _ | apply Drawn0.step)⟩
                    · rw [if_neg c10] at H
                      exact absurd H (by simp)
                  · rw [if_neg c9] at H
                    exact absurd H (by simp)
                · rw [if_neg c7] at H
                  have c7b0 : decide (0 < x7_1) = false := decide_eq_false c7
                  clear c7
                  have H' := Aside0.mk H
                  clear H
                  have p101 : 0 ≤ (x7_1 : Int) := of_decide_eq_true (by first | (with_reducible assumption) | assumption)
                  have q101 : x7_1 < (l0.length : Int) := of_decide_eq_true (by first | (with_reducible assumption) | assumption)
                  obtain ⟨ad101, e101, hx101_0⟩ := Kd.at_int HR0.out x7_1 p101 q101
                  cases e101
                  replace p101 := eq_true p101
                  replace q101 := eq_true q101
                  go_wp2
                  go_roundg k1
                  case measure => have := HK1.out; omega
                  case rel => exact ⟨(wrap64 (x7_1 + 1)), (by first | rfl | (simp; done) | (simp [*]; done)), H', ⟨by have := HK1.out; omega⟩, by repeat (first | exact Drawn0.refl _ | apply Drawn0.step)⟩
          · rw [if_neg c4] at H
            exact absurd H (by simp)
        · rw [if_neg c3] at H
          exact absurd H (by simp)
      · rw [if_neg c2] at H
        have c2b0 : decide (x7_1 < (l0.length : Int)) = false := decide_eq_false c2
        clear c2
        obtain rfl := Option.some.inj H
        go_wp2
        go_ret
        exact ⟨by first | rfl | (simp; done) | (simp [*]; done), by repeat (first | exact Drawn0.refl _ | apply Drawn0.step)⟩
end Go.Proofs.Ytgfadfahbhcllaa.Q
end
section
namespace Go.Proofs.Ytgfadfahbhcllaa.Q
open Go.RowKit Go.Proofs.YtgfadfahbhcllaaW.PrintWords Go.Proofs.YtgfadfahbhcllaaW.PrintLast Go.Proofs.Ytgfadfahbhcllaa.LK Go.Proofs.YtgfadfahbhcllaaW.PrintMore
attribute [local go_sem] max2_int min2_int max_two min_two max_three min_three max_four min_four
set_option linter.unusedVariables false
set_option linter.unusedSimpArgs false
def spec_l5Serials.l0 : Nat → List Int → Int → Option (Bool)
  | 0, _, _ => none
  | k + 1, x0, x3 => if x3 < (x0.length : Int) then (if 0 ≤ x3 then (if (rd x0 x3) < 0 then (some false) else (if (rd x0 x3) ≥ 256 then (some false) else (if x3 > 0 then (if 0 ≤ (wrap64 (x3 - 1)) then (if (wrap64 (x3 - 1)) < (x0.length : Int) then (if (rd x0 (wrap64 (x3 - 1))) ≥ (rd x0 x3) then (some false) else (spec_l5Serials.l0 k x0 (wrap64 (x3 + 1)))) else (none)) else (none)) else (spec_l5Serials.l0 k x0 (wrap64 (x3 + 1)))))) else (none)) else (some true)
def spec_l5Serials.f (k : Nat) (l0 : List Int) : Option (Bool) := spec_l5Serials.l0 k l0 0
set_option maxHeartbeats 8000000 in
set_option maxRecDepth 100000 in
theorem spec_l5Serials.calls (k : Nat) (A0 : Option Addr) (c0 : Nat) (l0 : List Int) (r : Bool) (w : World) (hr0 : Kd.C (Kd.int .i64) w A0 l0.length l0) (hc0 : l0.length ≤ c0) (h : spec_l5Serials.f k l0 = some r) :
    Calls Try.prog 92 #[.slice A0 l0.length c0] w fun e w' => e = .returned (.bool r) ∧ Drawn0 w w' := by
  have HR0 := Aside0.mk hr0
  have HC0 := Aside0.mk hc0
  clear hr0 hc0
  have H : (spec_l5Serials.l0 k l0 0) = some r := h
  clear h
  have H' := Aside0.mk H
  clear H
  go_enter Try.func92, Try.ntmps92
  go_wp2
  repeat (go_quiet (fail); try go_wp2)
  go_loopg [3] k (fun kq v3 w' => ∃ (x3_1 : Int), v3 = .int .i64 x3_1 ∧ Aside0 (spec_l5Serials.l0 kq l0 x3_1 = some r) ∧ Aside0 (kq ≤ k) ∧ Drawn0 w w')
  case atStart => exact ⟨(0), (by first | rfl | (simp; done) | (simp [*]; done)), H', ⟨Nat.le_refl _⟩, by repeat (first | exact Drawn0.refl _ | apply Drawn0.step)⟩
  case round =>
    clear H'
    obtain ⟨x3_1, rfl, HA, HK1, ⟨m1, rfl⟩⟩ := hrel
    cases gk with
    | zero => exact absurd HA.out (by simp [spec_l5Serials.l0])
    | succ k1 =>
      have H := HA.out
      clear HA
      simp only [spec_l5Serials.l0] at H
      by_cases c2 : x3_1 < (l0.length : Int)
      · rw [if_pos c2] at H
        have c2b0 : decide (x3_1 < (l0.length : Int)) = true := decide_eq_true c2
        clear c2
        by_cases c3 : 0 ≤ x3_1
        · rw [if_pos c3] at H
          have c3b0 : decide (0 ≤ x3_1) = true := decide_eq_true c3
          clear c3
          by_cases c4 : (rd l0 x3_1) < 0
          · rw [if_pos c4] at H
            have c4b0 : decide ((rd l0 x3_1) < 0) = true := decide_eq_true c4
            clear c4
            obtain rfl := Option.some.inj H
            have p101 : 0 ≤ (x3_1 : Int) := of_decide_eq_true (by first | (with_reducible assumption) | assumption)
            have q101 : x3_1 < (l0.length : Int) := of_decide_eq_true (by first | (with_reducible assumption) | assumption)
            obtain ⟨ad101, e101, hx101_0⟩ := Kd.at_int HR0.out x3_1 p101 q101
            cases e101
            replace p101 := eq_true p101
            replace q101 := eq_true q101
            go_wp2
            repeat (go_quiet (fail); try go_wp2)
            go_ret
            exact ⟨by first | rfl | (simp; done) | (simp [*]; done), by repeat (first | exact Drawn0.refl _ | apply Drawn0.step)⟩
          · rw [if_neg c4] at H
            have c4b0 : decide ((rd l0 x3_1) < 0) = false := decide_eq_false c4
            clear c4
            by_cases c5 : (rd l0 x3_1) ≥ 256
            · rw [if_pos c5] at H
              have c5b0 : decide (256 ≤ (rd l0 x3_1)) = true := decide_eq_true c5
              clear c5
              obtain rfl := Option.some.inj H
              have p101 : 0 ≤ (x3_1 : Int) := of_decide_eq_true (by first | (with_reducible assumption) | assumption)
              have q101 : x3_1 < (l0.length : Int) := of_decide_eq_true (by first | (with_reducible assumption) | assumption)
              obtain ⟨ad101, e101, hx101_0⟩ := Kd.at_int HR0.out x3_1 p101 q101
              cases e101
              replace p101 := eq_true p101
              replace q101 := eq_true q101
              have p102 : 0 ≤ (x3_1 : Int) := of_decide_eq_true (by first | (with_reducible assumption) | assumption)
              have q102 : x3_1 < (l0.length : Int) := of_decide_eq_true (by first | (with_reducible assumption) | assumption)
              obtain ⟨ad102, e102, hx102_0⟩ := Kd.at_int HR0.out x3_1 p102 q102
              obtain rfl : ad101 = ad102 := (by injection e102)
              replace p102 := eq_true p102
              replace q102 := eq_true q102
              go_wp2
              repeat (go_quiet (fail); try go_wp2)
              go_ret
              exact ⟨by first | rfl | (simp; done) | (simp [*]; done), by repeat (first | exact Drawn0.refl _ | apply Drawn0.step)⟩
            · rw [if_neg c5] at H
              have c5b0 : decide (256 ≤ (rd l0 x3_1)) = false := decide_eq_false c5
              clear c5
              by_cases c6 : x3_1 > 0
              · rw [if_pos c6] at H
                have c6b0 : decide (0 < x3_1) = true := decide_eq_true c6
                clear c6
                obtain ⟨ji7, hji7⟩ : ∃ j_ : Int, (wrap64 (x3_1 - 1)) = j_ := ⟨_, rfl⟩
                replace H : (if 0 ≤ (ji7) then (if (ji7) < (l0.length : Int) then (if (rd l0 (ji7)) ≥ (rd l0 x3_1) then (some false) else (spec_l5Serials.l0 k1 l0 (wrap64 (x3_1 + 1)))) else (none)) else (none)) = some r := by first | (rw [hji7] at H; exact H) | (simp only [hji7] at H ⊢; exact H)
                have hji7w : (IntKind.i64.wrap (x3_1 - 1)) = ji7 := (i64_w _).trans hji7
                by_cases c8 : 0 ≤ (ji7)
                · rw [if_pos c8] at H
                  have c8b0 : decide (0 ≤ (ji7)) = true := decide_eq_true c8
                  clear c8
                  by_cases c9 : (ji7) < (l0.length : Int)
                  · rw [if_pos c9] at H
                    have c9b0 : decide ((ji7) < (l0.length : Int)) = true := decide_eq_true c9
                    clear c9
                    by_cases c10 : (rd l0 (ji7)) ≥ (rd l0 x3_1)
                    · rw [if_pos c10] at H
                      have c10b0 : decide ((rd l0 x3_1) ≤ (rd l0 (ji7))) = true := decide_eq_true c10
                      clear c10
                      obtain rfl := Option.some.inj H
                      have p101 : 0 ≤ (x3_1 : Int) := of_decide_eq_true (by first | (with_reducible assumption) | assumption)
                      have q101 : x3_1 < (l0.length : Int) := of_decide_eq_true (by first | (with_reducible assumption) | assumption)
                      obtain ⟨ad101, e101, hx101_0⟩ := Kd.at_int HR0.out x3_1 p101 q101
                      cases e101
                      replace p101 := eq_true p101
                      replace q101 := eq_true q101
                      have p102 : 0 ≤ (x3_1 : Int) := of_decide_eq_true (by first | (with_reducible assumption) | assumption)
                      have q102 : x3_1 < (l0.length : Int) := of_decide_eq_true (by first | (with_reducible assumption) | assumption)
                      obtain ⟨ad102, e102, hx102_0⟩ := Kd.at_int HR0.out x3_1 p102 q102
                      obtain rfl : ad101 = ad102 := (by injection e102)
                      replace p102 := eq_true p102
                      replace q102 := eq_true q102
                      have p103 : 0 ≤ ((ji7) : Int) := of_decide_eq_true (by first | (with_reducible assumption) | assumption)
                      have q103 : (ji7) < (l0.length : Int) := of_decide_eq_true (by first | (with_reducible assumption) | assumption)
                      obtain ⟨ad103, e103, hx103_0⟩ := Kd.at_int HR0.out (ji7) p103 q103
                      obtain rfl : ad101 = ad103 := (by injection e103)
                      replace p103 := eq_true p103
                      replace q103 := eq_true q103
                      have p104 : 0 ≤ (x3_1 : Int) := of_decide_eq_true (by first | (with_reducible assumption) | assumption)
                      have q104 : x3_1 < (l0.length : Int) := of_decide_eq_true (by first | (with_reducible assumption) | assumption)
                      obtain ⟨ad104, e104, hx104_0⟩ := Kd.at_int HR0.out x3_1 p104 q104
                      obtain rfl : ad101 = ad104 := (by injection e104)
                      replace p104 := eq_true p104
                      replace q104 := eq_true q104
                      go_wp2
                      repeat (go_quiet (fail); try go_wp2)
                      go_ret
                      exact ⟨by first | rfl | (simp; done) | (simp only [← hji7] <;> (first | rfl | simp)) | (simp [*]; done), by repeat (first | exact Drawn0.refl _ | apply Drawn0.step)⟩
                    · rw [if_neg c10] at H
                      have c10b0 : decide ((rd l0 x3_1) ≤ (rd l0 (ji7))) = false := decide_eq_false c10
                      clear c10
                      have H' := Aside0.mk H
                      clear H
                      have p101 : 0 ≤ (x3_1 : Int) := of_decide_eq_true (by first | (with_reducible assumption) | assumption)
                      have q101 : x3_1 < (l0.length : Int) := of_decide_eq_true (by first | (with_reducible assumption) | assumption)
                      obtain ⟨ad101, e101, hx101_0⟩ := Kd.at_int HR0.out x3_1 p101 q101
                      cases e101
                      replace p101 := eq_true p101
                      replace q101 := eq_true q101
                      have p102 : 0 ≤ (x3_1 : Int) := of_decide_eq_true (by first | (with_reducible assumption) | assumption)
                      have q102 : x3_1 < (l0.length : Int) := of_decide_eq_true (by first | (with_reducible assumption) | assumption)
                      obtain ⟨ad102, e102, hx102_0⟩ := Kd.at_int HR0.out x3_1 p102 q102
                      obtain rfl : ad101 = ad102 := (by injection e102)
                      replace p102 := eq_true p102
                      replace q102 := eq_true q102
                      have p103 : 0 ≤ ((ji7) : Int) := of_decide_eq_true (by first | (with_reducible assumption) | assumption)
                      have q103 : (ji7) < (l0.length : Int) := of_decide_eq_true (by first | (with_reducible assumption) | assumption)
                      obtain ⟨ad103, e103, hx103_0⟩ := Kd.at_int HR0.out (ji7) p103 q103
                      obtain rfl : ad101 = ad103 := (by injection e103)
                      replace p103 := eq_true p103
                      replace q103 := eq_true q103
                      have p104 : 0 ≤ (x3_1 : Int) := of_decide_eq_true (by first | (with_reducible assumption) | assumption)
                      have q104 : x3_1 < (l0.length : Int) := of_decide_eq_true (by first | (with_reducible assumption) | assumption)
                      obtain ⟨ad104, e104, hx104_0⟩ := Kd.at_int HR0.out x3_1 p104 q104
                      obtain rfl : ad101 = ad104 := (by injection e104)
                      replace p104 := eq_true p104
                      replace q104 := eq_true q104
                      go_wp2
                      repeat (go_quiet (fail); try go_wp2)
                      go_roundg k1
                      case measure => have := HK1.out; omega
                      case rel => exact ⟨(wrap64 (x3_1 + 1)), (by first | rfl | (simp; done) | (simp [*]; done)), H', ⟨by have := HK1.out; omega⟩, by repeat (first | exact Drawn0.refl _ | apply Drawn0.step)⟩
                  · rw [if_neg c9] at H
                    exact absurd H (by simp)
                · rw [if_neg c8] at H
                  exact absurd H (by simp)
              · rw [if_neg c6] at H
                have c6b0 : decide (0 < x3_1) = false := decide_eq_false c6
                clear c6
                have H' := Aside0.mk H
                clear H
                have p101 : 0 ≤ (x3_1 : Int) := of_decide_eq_true (by first | (with_reducible assumption) | assumption)
                have q101 : x3_1 < (l0.length : Int) := of_decide_eq_true (by first | (with_reducible assumption) | assumption)
                obtain ⟨ad101, e101, hx101_0⟩ := Kd.at_int HR0.out x3_1 p101 q101
                cases e101
                replace p101 := eq_true p101
                replace q101 := eq_true q101
                have p102 : 0 ≤ (x3_1 : Int) := of_decide_eq_true (by first | (with_reducible assumption) | assumption)
                have q102 : x3_1 < (l0.length : Int) := of_decide_eq_true (by first | (with_reducible assumption) | assumption)
                obtain ⟨ad102, e102, hx102_0⟩ := Kd.at_int HR0.out x3_1 p102 q102
                obtain rfl : ad101 = ad102 := (by injection e102)
                replace p102 := eq_true p102
                replace q102 := eq_true q102
                go_wp2
                repeat (go_quiet (fail); try go_wp2)
                go_roundg k1
                case measure => have := HK1.out; omega
                case rel => exact ⟨(wrap64 (x3_1 + 1)), (by first | rfl | (simp; done) | (simp [*]; done)), H', ⟨by have := HK1.out; omega⟩, by repeat (first | exact Drawn0.refl _ | apply Drawn0.step)⟩
        · rw [if_neg c3] at H
          exact absurd H (by simp)
      · rw [if_neg c2] at H
        have c2b0 : decide (x3_1 < (l0.length : Int)) = false := decide_eq_false c2
        clear c2
        obtain rfl := Option.some.inj H
        go_wp2
        repeat (go_quiet (fail); try go_wp2)
        go_ret
        exact ⟨by first | rfl | (simp; done) | (simp [*]; done), by repeat (first | exact Drawn0.refl _ | apply Drawn0.step)⟩
end Go.Proofs.Ytgfadfahbhcllaa.Q
end
section
namespace Go.Proofs.Ytgfadfahbhcllaa.Q
open Go.RowKit Go.Proofs.YtgfadfahbhcllaaW.PrintWords Go.Proofs.YtgfadfahbhcllaaW.PrintLast Go.Proofs.Ytgfadfahbhcllaa.LK Go.Proofs.YtgfadfahbhcllaaW.PrintMore
attribute [local go_sem] max2_int min2_int max_two min_two max_three min_three max_four min_four
set_option linter.unusedVariables false
set_option linter.unusedSimpArgs false
def spec_l5Holds.l0 : Nat → List Int → Int → Int → Option (Bool)
  | 0, _, _, _ => none
  | k + 1, x0, x1, x5 => if x5 < (x0.length : Int) then (if 0 ≤ x5 then (if (rd x0 x5) = x1 then (some true) else (spec_l5Holds.l0 k x0 x1 (wrap64 (x5 + 1)))) else (none)) else (some false)
def spec_l5Holds.f (k : Nat) (l0 : List Int) (a1 : Int) : Option (Bool) := spec_l5Holds.l0 k l0 a1 0
set_option maxHeartbeats 8000000 in
set_option maxRecDepth 100000 in
theorem spec_l5Holds.calls (k : Nat) (A0 : Option Addr) (c0 : Nat) (l0 : List Int) (a1 : Int) (r : Bool) (w : World) (hr0 : Kd.C (Kd.int .i64) w A0 l0.length l0) (hc0 : l0.length ≤ c0) (h : spec_l5Holds.f k l0 a1 = some r) :
    Calls Try.prog 78 #[.slice A0 l0.length c0, .int .i64 a1] w fun e w' => e = .returned (.bool r) ∧ Drawn0 w w' := by
  have HR0 := Aside0.mk hr0
  have HC0 := Aside0.mk hc0
  clear hr0 hc0
  have H : (spec_l5Holds.l0 k l0 a1 0) = some r := h
  clear h
  have H' := Aside0.mk H
  clear H
  go_enter Try.func78, Try.ntmps78
  go_wp2
  go_loopg [5] k (fun kq v5 w' => ∃ (x5_1 : Int), v5 = .int .i64 x5_1 ∧ Aside0 (spec_l5Holds.l0 kq l0 a1 x5_1 = some r) ∧ Aside0 (kq ≤ k) ∧ Drawn0 w w')
  case atStart => exact ⟨(0), (by first | rfl | (simp; done) | (simp [*]; done)), H', ⟨Nat.le_refl _⟩, by repeat (first | exact Drawn0.refl _ | apply Drawn0.step)⟩
  case round =>
    clear H'
    try clear p2
    obtain ⟨x5_1, rfl, HA, HK1, ⟨m1, rfl⟩⟩ := hrel
    cases gk with
    | zero => exact absurd HA.out (by simp [spec_l5Holds.l0])
    | succ k1 =>
      have H := HA.out
      clear HA
      simp only [spec_l5Holds.l0] at H
      by_cases c3 : x5_1 < (l0.length : Int)
      · rw [if_pos c3] at H
        have c3b0 : decide (x5_1 < (l0.length : Int)) = true := decide_eq_true c3
        clear c3
        by_cases c4 : 0 ≤ x5_1
        · rw [if_pos c4] at H
          have c4b0 : decide (0 ≤ x5_1) = true := decide_eq_true c4
          clear c4
          by_cases c5 : (rd l0 x5_1) = a1
          · rw [if_pos c5] at H
            have c5b0 : ((rd l0 x5_1) == a1) = true := beq_iff_eq.mpr c5
            have c5b1 : ((rd l0 x5_1) != a1) = false := bne_eq_false_iff_eq.mpr c5
            clear c5
            obtain rfl := Option.some.inj H
            have p101 : 0 ≤ (x5_1 : Int) := of_decide_eq_true (by first | (with_reducible assumption) | assumption)
            have q101 : x5_1 < (l0.length : Int) := of_decide_eq_true (by first | (with_reducible assumption) | assumption)
            obtain ⟨ad101, e101, hx101_0⟩ := Kd.at_int HR0.out x5_1 p101 q101
            cases e101
            replace p101 := eq_true p101
            replace q101 := eq_true q101
            go_wp2
            go_ret
            exact ⟨by first | rfl | (simp; done) | (simp [*]; done), by repeat (first | exact Drawn0.refl _ | apply Drawn0.step)⟩
          · rw [if_neg c5] at H
            have c5b0 : ((rd l0 x5_1) == a1) = false := beq_eq_false_iff_ne.mpr c5
            have c5b1 : ((rd l0 x5_1) != a1) = true := bne_iff_ne.mpr c5
            have H' := Aside0.mk H
            clear H
            have p101 : 0 ≤ (x5_1 : Int) := of_decide_eq_true (by first | (with_reducible assumption) | assumption)
            have q101 : x5_1 < (l0.length : Int) := of_decide_eq_true (by first | (with_reducible assumption) | assumption)
            obtain ⟨ad101, e101, hx101_0⟩ := Kd.at_int HR0.out x5_1 p101 q101
            cases e101
            replace p101 := eq_true p101
            replace q101 := eq_true q101
            go_wp2
            go_roundg k1
            case measure => have := HK1.out; omega
            case rel => exact ⟨(wrap64 (x5_1 + 1)), (by first | rfl | (simp; done) | (simp [*]; done)), H', ⟨by have := HK1.out; omega⟩, by repeat (first | exact Drawn0.refl _ | apply Drawn0.step)⟩
        · rw [if_neg c4] at H
          exact absurd H (by simp)
      · rw [if_neg c3] at H
        have c3b0 : decide (x5_1 < (l0.length : Int)) = false := decide_eq_false c3
        clear c3
        obtain rfl := Option.some.inj H
        go_wp2
        go_ret
        exact ⟨by first | rfl | (simp; done) | (simp [*]; done), by repeat (first | exact Drawn0.refl _ | apply Drawn0.step)⟩
end Go.Proofs.Ytgfadfahbhcllaa.Q
end
section
namespace Go.Proofs.Ytgfadfahbhcllaa.Q
open Go.RowKit Go.Proofs.YtgfadfahbhcllaaW.PrintWords Go.Proofs.YtgfadfahbhcllaaW.PrintLast Go.Proofs.Ytgfadfahbhcllaa.LK Go.Proofs.YtgfadfahbhcllaaW.PrintMore
attribute [local go_sem] max2_int min2_int max_two min_two max_three min_three max_four min_four
set_option linter.unusedVariables false
set_option linter.unusedSimpArgs false
def cmp_isNaN_int64.f (a0 : Int) : Option (Bool) := some (a0 != a0)
set_option maxHeartbeats 8000000 in
set_option maxRecDepth 100000 in
theorem cmp_isNaN_int64.calls (a0 : Int) (r : Bool) (w : World) (h : cmp_isNaN_int64.f a0 = some r) :
    Calls Try.prog 111 #[.int .i64 a0] w fun e w' => e = .returned (.bool r) ∧ Drawn0 w w' := by
  have H : (some (a0 != a0)) = some r := h
  clear h
  obtain rfl := Option.some.inj H
  go_enter Try.func111, Try.ntmps111
  go_wp2
  go_ret
  exact ⟨by first | rfl | (simp; done) | (simp [*]; done), by repeat (first | exact Drawn0.refl _ | apply Drawn0.step)⟩
end Go.Proofs.Ytgfadfahbhcllaa.Q
end
section
namespace Go.Proofs.Ytgfadfahbhcllaa.Q
open Go.RowKit Go.Proofs.YtgfadfahbhcllaaW.PrintWords Go.Proofs.YtgfadfahbhcllaaW.PrintLast Go.Proofs.Ytgfadfahbhcllaa.LK Go.Proofs.YtgfadfahbhcllaaW.PrintMore
attribute [local go_sem] max2_int min2_int max_two min_two max_three min_three max_four min_four
set_option linter.unusedVariables false
set_option linter.unusedSimpArgs false
def cmp_Less_int64.f (a0 : Int) (a1 : Int) : Option (Bool) := (cmp_isNaN_int64.f a0).bind fun t101 => (if t101 = true then ((cmp_isNaN_int64.f a1).bind fun t102 => (if t102 = true then (some (decide (a0 < a1))) else (some true))) else (some (decide (a0 < a1))))
set_option maxHeartbeats 8000000 in
set_option maxRecDepth 100000 in
theorem cmp_Less_int64.calls (a0 : Int) (a1 : Int) (r : Bool) (w : World) (h : cmp_Less_int64.f a0 a1 = some r) :
    Calls Try.prog 107 #[.int .i64 a0, .int .i64 a1] w fun e w' => e = .returned (.bool r) ∧ Drawn0 w w' := by
  have H : ((cmp_isNaN_int64.f a0).bind fun t101 => (if t101 = true then ((cmp_isNaN_int64.f a1).bind fun t102 => (if t102 = true then (some (decide (a0 < a1))) else (some true))) else (some (decide (a0 < a1))))) = some r := h
  clear h
  replace H := Option.bind_eq_some_iff.mp H
  obtain ⟨t101, A30, H⟩ := H
  replace H : (if t101 = true then ((cmp_isNaN_int64.f a1).bind fun t102 => (if t102 = true then (some (decide (a0 < a1))) else (some true))) else (some (decide (a0 < a1)))) = some r := H
  have A3 := Aside0.mk A30
  clear A30
  by_cases c4 : t101 = true
  · subst c4
    have H1 : ((cmp_isNaN_int64.f a1).bind fun t102 => (if t102 = true then (some (decide (a0 < a1))) else (some true))) = some r := by rw [if_pos rfl] at H; exact H
    clear H
    have H := H1
    clear H1
    replace H := Option.bind_eq_some_iff.mp H
    obtain ⟨t102, A50, H⟩ := H
    replace H : (if t102 = true then (some (decide (a0 < a1))) else (some true)) = some r := H
    have A5 := Aside0.mk A50
    clear A50
    by_cases c6 : t102 = true
    · subst c6
      have H1 : (some (decide (a0 < a1))) = some r := by rw [if_pos rfl] at H; exact H
      clear H
      have H := H1
      clear H1
      obtain rfl := Option.some.inj H
      go_enter Try.func107, Try.ntmps107
      go_wp2_with (first | ((with_reducible refine gate_callee (f := 111) rfl ?_); refine goesL_ (some 6) rfl rfl Try.func111 (by kernel_rfl) rfl #[.int .i64 a0] rfl (by (try simp only [List.map_toArray, List.map_cons, List.map_nil]); first | done | rfl | (simp only [List.length_drop, List.length_take]; rfl)) ?_; (with_reducible refine (cmp_isNaN_int64.calls a0 true _ A3.out).mono ?_); rintro e w' ⟨rfl, ⟨nd, rfl⟩⟩; refine ⟨_, rfl, ?_⟩) | (go_at_call 111; (with_reducible refine (cmp_isNaN_int64.calls a1 true _ A5.out).mono ?_); rintro e w' ⟨rfl, ⟨nd, rfl⟩⟩))
      go_ret
      exact ⟨by first | rfl | (simp; done) | (simp [*]; done), by repeat (first | exact Drawn0.refl _ | apply Drawn0.step)⟩
    · replace c6 := Bool.eq_false_iff.mpr c6
      subst c6
      have H1 : (some true) = some r := by rw [if_neg (show ¬ (false = true) by decide)] at H; exact H
      clear H
      have H := H1
      clear H1
      obtain rfl := Option.some.inj H
      go_enter Try.func107, Try.ntmps107
      go_wp2_with (first | ((with_reducible refine gate_callee (f := 111) rfl ?_); refine goesL_ (some 6) rfl rfl Try.func111 (by kernel_rfl) rfl #[.int .i64 a0] rfl (by (try simp only [List.map_toArray, List.map_cons, List.map_nil]); first | done | rfl | (simp only [List.length_drop, List.length_take]; rfl)) ?_; (with_reducible refine (cmp_isNaN_int64.calls a0 true _ A3.out).mono ?_); rintro e w' ⟨rfl, ⟨nd, rfl⟩⟩; refine ⟨_, rfl, ?_⟩) | (go_at_call 111; (with_reducible refine (cmp_isNaN_int64.calls a1 false _ A5.out).mono ?_); rintro e w' ⟨rfl, ⟨nd, rfl⟩⟩))
      go_ret
      exact ⟨by first | rfl | (simp; done) | (simp [*]; done), by repeat (first | exact Drawn0.refl _ | apply Drawn0.step)⟩
  · replace c4 := Bool.eq_false_iff.mpr c4
    subst c4
    have H1 : (some (decide (a0 < a1))) = some r := by rw [if_neg (show ¬ (false = true) by decide)] at H; exact H
    clear H
    have H := H1
    clear H1
    obtain rfl := Option.some.inj H
    go_enter Try.func107, Try.ntmps107
    go_wp2_with (first | ((with_reducible refine gate_callee (f := 111) rfl ?_); refine goesL_ (some 6) rfl rfl Try.func111 (by kernel_rfl) rfl #[.int .i64 a0] rfl (by (try simp only [List.map_toArray, List.map_cons, List.map_nil]); first | done | rfl | (simp only [List.length_drop, List.length_take]; rfl)) ?_; (with_reducible refine (cmp_isNaN_int64.calls a0 false _ A3.out).mono ?_); rintro e w' ⟨rfl, ⟨nd, rfl⟩⟩; refine ⟨_, rfl, ?_⟩))
    go_ret
    exact ⟨by first | rfl | (simp; done) | (simp [*]; done), by repeat (first | exact Drawn0.refl _ | apply Drawn0.step)⟩
end Go.Proofs.Ytgfadfahbhcllaa.Q
end
section
namespace Go.Proofs.Ytgfadfahbhcllaa.Q
open Go.RowKit Go.Proofs.YtgfadfahbhcllaaW.PrintWords Go.Proofs.YtgfadfahbhcllaaW.PrintLast Go.Proofs.Ytgfadfahbhcllaa.LK Go.Proofs.YtgfadfahbhcllaaW.PrintMore
attribute [local go_sem] max2_int min2_int max_two min_two max_three min_three max_four min_four
set_option linter.unusedVariables false
set_option linter.unusedSimpArgs false
def slices_isNaN_int64.f (a0 : Int) : Option (Bool) := some (a0 != a0)
set_option maxHeartbeats 8000000 in
set_option maxRecDepth 100000 in
theorem slices_isNaN_int64.calls (a0 : Int) (r : Bool) (w : World) (h : slices_isNaN_int64.f a0 = some r) :
    Calls Try.prog 108 #[.int .i64 a0] w fun e w' => e = .returned (.bool r) ∧ Drawn0 w w' := by
  have H : (some (a0 != a0)) = some r := h
  clear h
  obtain rfl := Option.some.inj H
  go_enter Try.func108, Try.ntmps108
  go_wp2
  go_ret
  exact ⟨by first | rfl | (simp; done) | (simp [*]; done), by repeat (first | exact Drawn0.refl _ | apply Drawn0.step)⟩
end Go.Proofs.Ytgfadfahbhcllaa.Q
end
section
namespace Go.Proofs.Ytgfadfahbhcllaa.Q
open Go.RowKit Go.Proofs.YtgfadfahbhcllaaW.PrintWords Go.Proofs.YtgfadfahbhcllaaW.PrintLast Go.Proofs.Ytgfadfahbhcllaa.LK Go.Proofs.YtgfadfahbhcllaaW.PrintMore
attribute [local go_sem] max2_int min2_int max_two min_two max_three min_three max_four min_four
set_option linter.unusedVariables false
set_option linter.unusedSimpArgs false
def slices_BinarySearch_int64_int64.l0 : Nat → List Int → Int → Int → Int → Int → Option (Int × Bool)
  | 0, _, _, _, _, _ => none
  | k + 1, x0, x1, x6, x7, x8 => if x7 < x8 then (if 0 ≤ (wrap64 ((IntKind.u64.wrap (wrap64 (x7 + x8))) / 2)) then (if (wrap64 ((IntKind.u64.wrap (wrap64 (x7 + x8))) / 2)) < (x0.length : Int) then ((cmp_Less_int64.f (rd x0 (wrap64 ((IntKind.u64.wrap (wrap64 (x7 + x8))) / 2))) x1).bind fun t102 => (if t102 = true then (slices_BinarySearch_int64_int64.l0 k x0 x1 x6 (wrap64 ((wrap64 ((IntKind.u64.wrap (wrap64 (x7 + x8))) / 2)) + 1)) x8) else (slices_BinarySearch_int64_int64.l0 k x0 x1 x6 x7 (wrap64 ((IntKind.u64.wrap (wrap64 (x7 + x8))) / 2))))) else (none)) else (none)) else (if x7 < x6 then (if 0 ≤ x7 then (if x7 < (x0.length : Int) then (if (rd x0 x7) = x1 then (some (x7, true)) else ((slices_isNaN_int64.f (rd x0 x7)).bind fun t105 => (if t105 = true then ((slices_isNaN_int64.f x1).bind fun t106 => (some (x7, t106))) else (some (x7, false))))) else (none)) else (none)) else (some (x7, false)))
def slices_BinarySearch_int64_int64.f (k : Nat) (l0 : List Int) (a1 : Int) : Option (Int × Bool) := slices_BinarySearch_int64_int64.l0 k l0 a1 (l0.length : Int) 0 (l0.length : Int)
set_option maxHeartbeats 8000000 in
set_option maxRecDepth 100000 in
theorem slices_BinarySearch_int64_int64.calls (k : Nat) (A0 : Option Addr) (c0 : Nat) (l0 : List Int) (a1 : Int) (r1 : Int) (r2 : Bool) (w : World) (hr0 : Kd.C (Kd.int .i64) w A0 l0.length l0) (hc0 : l0.length ≤ c0) (h : slices_BinarySearch_int64_int64.f k l0 a1 = some (r1, r2)) :
    Calls Try.prog 101 #[.slice A0 l0.length c0, .int .i64 a1] w fun e w' => e = .returned (.tuple #[.int .i64 r1, .bool r2]) ∧ Drawn0 w w' := by
  have HR0 := Aside0.mk hr0
  have HC0 := Aside0.mk hc0
  clear hr0 hc0
  have H : (slices_BinarySearch_int64_int64.l0 k l0 a1 (l0.length : Int) 0 (l0.length : Int)) = some (r1, r2) := h
  clear h
  have H' := Aside0.mk H
  clear H
  go_enter Try.func101, Try.ntmps101
  go_wp2
  go_loopg [7, 8] k (fun kq v7 v8 w' => ∃ (x7_1 : Int) (x8_1 : Int), v7 = .int .i64 x7_1 ∧ v8 = .int .i64 x8_1 ∧ Aside0 (slices_BinarySearch_int64_int64.l0 kq l0 a1 (l0.length : Int) x7_1 x8_1 = some (r1, r2)) ∧ Aside0 (kq ≤ k) ∧ Drawn0 w w')
  case atStart => exact ⟨(0), ((l0.length : Int)), (by first | rfl | (simp; done) | (simp [*]; done)), (by first | rfl | (simp; done) | (simp [*]; done)), H', ⟨Nat.le_refl _⟩, by repeat (first | exact Drawn0.refl _ | apply Drawn0.step)⟩
  case round =>
    clear H'
    try clear c1
    try clear p2
    obtain ⟨x7_1, x8_1, rfl, rfl, HA, HK1, ⟨m1, rfl⟩⟩ := hrel
    cases gk with
    | zero => exact absurd HA.out (by simp [slices_BinarySearch_int64_int64.l0])
    | succ k1 =>
      have H := HA.out
      clear HA
      simp only [slices_BinarySearch_int64_int64.l0] at H
      by_cases c3 : x7_1 < x8_1
      · rw [if_pos c3] at H
        have c3b0 : decide (x7_1 < x8_1) = true := decide_eq_true c3
        clear c3
        obtain ⟨ji4, hji4⟩ : ∃ j_ : Int, (wrap64 ((IntKind.u64.wrap (wrap64 (x7_1 + x8_1))) / 2)) = j_ := ⟨_, rfl⟩
        replace H : (if 0 ≤ (ji4) then (if (ji4) < (l0.length : Int) then ((cmp_Less_int64.f (rd l0 (ji4)) a1).bind fun t102 => (if t102 = true then (slices_BinarySearch_int64_int64.l0 k1 l0 a1 (l0.length : Int) (wrap64 ((ji4) + 1)) x8_1) else (slices_BinarySearch_int64_int64.l0 k1 l0 a1 (l0.length : Int) x7_1 ji4))) else (none)) else (none)) = some (r1, r2) := by first | (rw [hji4] at H; exact H) | (simp only [hji4] at H ⊢; exact H)
        have hji4w : (IntKind.i64.wrap ((IntKind.u64.wrap (wrap64 (x7_1 + x8_1))) / 2)) = ji4 := (i64_w _).trans hji4
        by_cases c5 : 0 ≤ (ji4)
        · rw [if_pos c5] at H
          have c5b0 : decide (0 ≤ (ji4)) = true := decide_eq_true c5
          clear c5
          by_cases c6 : (ji4) < (l0.length : Int)
          · rw [if_pos c6] at H
            have c6b0 : decide ((ji4) < (l0.length : Int)) = true := decide_eq_true c6
            clear c6
            replace H := Option.bind_eq_some_iff.mp H
            obtain ⟨t102, A70, H⟩ := H
            replace H : (if t102 = true then (slices_BinarySearch_int64_int64.l0 k1 l0 a1 (l0.length : Int) (wrap64 ((ji4) + 1)) x8_1) else (slices_BinarySearch_int64_int64.l0 k1 l0 a1 (l0.length : Int) x7_1 ji4)) = some (r1, r2) := H
            have A7 := Aside0.mk A70
            clear A70
            by_cases c8 : t102 = true
            · subst c8
              have H1 : (slices_BinarySearch_int64_int64.l0 k1 l0 a1 (l0.length : Int) (wrap64 ((ji4) + 1)) x8_1) = some (r1, r2) := by rw [if_pos rfl] at H; exact H
              clear H
              have H := H1
              clear H1
              have H' := Aside0.mk H
              clear H
              have p101 : 0 ≤ ((ji4) : Int) := of_decide_eq_true (by first | (with_reducible assumption) | assumption)
              have q101 : (ji4) < (l0.length : Int) := of_decide_eq_true (by first | (with_reducible assumption) | assumption)
              obtain ⟨ad101, e101, hx101_0⟩ := Kd.at_int HR0.out (ji4) p101 q101
              cases e101
              replace p101 := eq_true p101
              replace q101 := eq_true q101
              go_wp2_with (first | ((with_reducible refine gate_callee (f := 107) rfl ?_); refine goesL_ (some 27) rfl rfl Try.func107 (by kernel_rfl) rfl #[.int .i64 (rd l0 (ji4)), .int .i64 a1] rfl (by (try simp only [List.map_toArray, List.map_cons, List.map_nil]); first | done | (simp only [hji4]; rfl) | rfl | (simp only [List.length_drop, List.length_take]; rfl)) ?_; (with_reducible refine (cmp_Less_int64.calls (rd l0 (ji4)) a1 true _ A7.out).mono ?_); rintro e w' ⟨rfl, ⟨nd, rfl⟩⟩; refine ⟨_, rfl, ?_⟩))
              go_roundg k1
              case measure => have := HK1.out; omega
              case rel => exact ⟨(wrap64 ((ji4) + 1)), (x8_1), (by first | rfl | (simp; done) | (simp only [← hji4] <;> (first | rfl | simp)) | (simp [*]; done)), (by first | rfl | (simp; done) | (simp [*]; done)), H', ⟨by have := HK1.out; omega⟩, by repeat (first | exact Drawn0.refl _ | apply Drawn0.step)⟩
            · replace c8 := Bool.eq_false_iff.mpr c8
              subst c8
              have H1 : (slices_BinarySearch_int64_int64.l0 k1 l0 a1 (l0.length : Int) x7_1 ji4) = some (r1, r2) := by rw [if_neg (show ¬ (false = true) by decide)] at H; exact H
              clear H
              have H := H1
              clear H1
              have H' := Aside0.mk H
              clear H
              have p101 : 0 ≤ ((ji4) : Int) := of_decide_eq_true (by first | (with_reducible assumption) | assumption)
              have q101 : (ji4) < (l0.length : Int) := of_decide_eq_true (by first | (with_reducible assumption) | assumption)
              obtain ⟨ad101, e101, hx101_0⟩ := Kd.at_int HR0.out (ji4) p101 q101
              cases e101
              replace p101 := eq_true p101
              replace q101 := eq_true q101
              go_wp2_with (first | ((with_reducible refine gate_callee (f := 107) rfl ?_); refine goesL_ (some 27) rfl rfl Try.func107 (by kernel_rfl) rfl #[.int .i64 (rd l0 (ji4)), .int .i64 a1] rfl (by (try simp only [List.map_toArray, List.map_cons, List.map_nil]); first | done | (simp only [hji4]; rfl) | rfl | (simp only [List.length_drop, List.length_take]; rfl)) ?_; (with_reducible refine (cmp_Less_int64.calls (rd l0 (ji4)) a1 false _ A7.out).mono ?_); rintro e w' ⟨rfl, ⟨nd, rfl⟩⟩; refine ⟨_, rfl, ?_⟩))
              go_roundg k1
              case measure => have := HK1.out; omega
              case rel => exact ⟨(x7_1), (ji4), (by first | rfl | (simp; done) | (simp [*]; done)), (by first | rfl | (simp; done) | (simp only [← hji4] <;> (first | rfl | simp)) | (simp [*]; done)), H', ⟨by have := HK1.out; omega⟩, by repeat (first | exact Drawn0.refl _ | apply Drawn0.step)⟩
          · rw [if_neg c6] at H
            exact absurd H (by simp)
        · rw [if_neg c5] at H
          exact absurd H (by simp)
      · rw [if_neg c3] at H
        have c3b0 : decide (x7_1 < x8_1) = false := decide_eq_false c3
        clear c3
        by_cases c9 : x7_1 < (l0.length : Int)
        · rw [if_pos c9] at H
          have c9b0 : decide (x7_1 < (l0.length : Int)) = true := decide_eq_true c9
          clear c9
          by_cases c10 : 0 ≤ x7_1
          · rw [if_pos c10] at H
            have c10b0 : decide (0 ≤ x7_1) = true := decide_eq_true c10
            clear c10
            by_cases c11 : x7_1 < (l0.length : Int)
            · rw [if_pos c11] at H
              have c11b0 : decide (x7_1 < (l0.length : Int)) = true := decide_eq_true c11
              clear c11
              by_cases c12 : (rd l0 x7_1) = a1
              · rw [if_pos c12] at H
                have c12b0 : ((rd l0 x7_1) == a1) = true := beq_iff_eq.mpr c12
                have c12b1 : ((rd l0 x7_1) != a1) = false := bne_eq_false_iff_eq.mpr c12
                clear c12
                simp only [Option.some.injEq, Prod.mk.injEq] at H
                obtain ⟨rfl, rfl⟩ := H
                have p103 : 0 ≤ (x7_1 : Int) := of_decide_eq_true (by first | (with_reducible assumption) | assumption)
                have q103 : x7_1 < (l0.length : Int) := of_decide_eq_true (by first | (with_reducible assumption) | assumption)
                obtain ⟨ad103, e103, hx103_0⟩ := Kd.at_int HR0.out x7_1 p103 q103
                cases e103
                replace p103 := eq_true p103
                replace q103 := eq_true q103
                go_wp2
                go_ret2
                exact ⟨by first | rfl | (simp; done) | (simp [*]; done), by repeat (first | exact Drawn0.refl _ | apply Drawn0.step)⟩
              · rw [if_neg c12] at H
                have c12b0 : ((rd l0 x7_1) == a1) = false := beq_eq_false_iff_ne.mpr c12
                have c12b1 : ((rd l0 x7_1) != a1) = true := bne_iff_ne.mpr c12
                replace H := Option.bind_eq_some_iff.mp H
                obtain ⟨t105, A130, H⟩ := H
                replace H : (if t105 = true then ((slices_isNaN_int64.f a1).bind fun t106 => (some (x7_1, t106))) else (some (x7_1, false))) = some (r1, r2) := H
                have A13 := Aside0.mk A130
                clear A130
                by_cases c14 : t105 = true
                · subst c14
                  have H1 : ((slices_isNaN_int64.f a1).bind fun t106 => (some (x7_1, t106))) = some (r1, r2) := by rw [if_pos rfl] at H; exact H
                  clear H
                  have H := H1
                  clear H1
                  replace H := Option.bind_eq_some_iff.mp H
                  obtain ⟨t106, A150, H⟩ := H
                  replace H : (some (x7_1, t106)) = some (r1, r2) := H
                  have A15 := Aside0.mk A150
                  clear A150
                  simp only [Option.some.injEq, Prod.mk.injEq] at H
                  obtain ⟨rfl, rfl⟩ := H
                  have p103 : 0 ≤ (x7_1 : Int) := of_decide_eq_true (by first | (with_reducible assumption) | assumption)
                  have q103 : x7_1 < (l0.length : Int) := of_decide_eq_true (by first | (with_reducible assumption) | assumption)
                  obtain ⟨ad103, e103, hx103_0⟩ := Kd.at_int HR0.out x7_1 p103 q103
                  cases e103
                  replace p103 := eq_true p103
                  replace q103 := eq_true q103
                  have p104 : 0 ≤ (x7_1 : Int) := of_decide_eq_true (by first | (with_reducible assumption) | assumption)
                  have q104 : x7_1 < (l0.length : Int) := of_decide_eq_true (by first | (with_reducible assumption) | assumption)
                  obtain ⟨ad104, e104, hx104_0⟩ := Kd.at_int HR0.out x7_1 p104 q104
                  obtain rfl : ad103 = ad104 := (by injection e104)
                  replace p104 := eq_true p104
                  replace q104 := eq_true q104
                  go_wp2_with (first | (go_at_call 108; (with_reducible refine (slices_isNaN_int64.calls (rd l0 x7_1) true _ A13.out).mono ?_); rintro e w' ⟨rfl, ⟨nd, rfl⟩⟩) | (go_at_call 108; (with_reducible refine (slices_isNaN_int64.calls a1 t106 _ A15.out).mono ?_); rintro e w' ⟨rfl, ⟨nd, rfl⟩⟩))
                  go_ret2
                  exact ⟨by first | rfl | (simp; done) | (simp [*]; done), by repeat (first | exact Drawn0.refl _ | apply Drawn0.step)⟩
                · replace c14 := Bool.eq_false_iff.mpr c14
                  subst c14
                  have H1 : (some (x7_1, false)) = some (r1, r2) := by rw [if_neg (show ¬ (false = true) by decide)] at H; exact H
                  clear H
                  have H := H1
                  clear H1
                  simp only [Option.some.injEq, Prod.mk.injEq] at H
                  obtain ⟨rfl, rfl⟩ := H
                  have p103 : 0 ≤ (x7_1 : Int) := of_decide_eq_true (by first | (with_reducible assumption) | assumption)
                  have q103 : x7_1 < (l0.length : Int) := of_decide_eq_true (by first | (with_reducible assumption) | assumption)
                  obtain ⟨ad103, e103, hx103_0⟩ := Kd.at_int HR0.out x7_1 p103 q103
                  cases e103
                  replace p103 := eq_true p103
                  replace q103 := eq_true q103
                  have p104 : 0 ≤ (x7_1 : Int) := of_decide_eq_true (by first | (with_reducible assumption) | assumption)
                  have q104 : x7_1 < (l0.length : Int) := of_decide_eq_true (by first | (with_reducible assumption) | assumption)
                  obtain ⟨ad104, e104, hx104_0⟩ := Kd.at_int HR0.out x7_1 p104 q104
                  obtain rfl : ad103 = ad104 := (by injection e104)
                  replace p104 := eq_true p104
                  replace q104 := eq_true q104
                  go_wp2_with (first | (go_at_call 108; (with_reducible refine (slices_isNaN_int64.calls (rd l0 x7_1) false _ A13.out).mono ?_); rintro e w' ⟨rfl, ⟨nd, rfl⟩⟩))
                  go_ret2
                  exact ⟨by first | rfl | (simp; done) | (simp [*]; done), by repeat (first | exact Drawn0.refl _ | apply Drawn0.step)⟩
            · rw [if_neg c11] at H
              exact absurd H (by simp)
          · rw [if_neg c10] at H
            exact absurd H (by simp)
        · rw [if_neg c9] at H
          have c9b0 : decide (x7_1 < (l0.length : Int)) = false := decide_eq_false c9
          clear c9
          simp only [Option.some.injEq, Prod.mk.injEq] at H
          obtain ⟨rfl, rfl⟩ := H
          go_wp2
          go_ret2
          exact ⟨by first | rfl | (simp; done) | (simp [*]; done), by repeat (first | exact Drawn0.refl _ | apply Drawn0.step)⟩
end Go.Proofs.Ytgfadfahbhcllaa.Q
end
section
namespace Go.Proofs.Ytgfadfahbhcllaa.P
open Go.RowKit Go.Proofs.YtgfadfahbhcllaaW.PrintWords Go.Proofs.YtgfadfahbhcllaaW.PrintMore Go.Proofs.Ytgfadfahbhcllaa.Q
set_option linter.unusedVariables false
set_option linter.unusedSimpArgs false
theorem Ev.all {L : Nat → Nat → Option Bool} (P : Nat → Bool) (n : Nat) (hs : ∀ i, i < n → P i = true → ∃ K, ∀ k, K ≤ k → L (k + 1) i = L k (i + 1)) (hb : ∀ i, i < n → P i = false → ∃ K, ∀ k, K ≤ k → L (k + 1) i = some false)
    (he : ∃ K, ∀ k, K ≤ k → L (k + 1) n = some true) : ∀ m i, i + m = n → Ev (fun k => L k i) ((List.range' i m).all P)
  | 0, i, h => by
    obtain rfl : i = n := by omega
    exact Ev.last he
  | m + 1, i, h => by
    rw [List.range'_succ, List.all_cons]
    cases hp : P i with
    | true => rw [Bool.true_and]; exact Ev.step (hs i (by omega) hp) (Ev.all P n hs hb he m (i + 1) (by omega))
    | false => rw [Bool.false_and]; exact Ev.last (hb i (by omega) hp)
theorem Ev.all0 {L : Nat → Nat → Option Bool} (P : Nat → Bool) (n : Nat) (hs : ∀ i, i < n → P i = true → ∃ K, ∀ k, K ≤ k → L (k + 1) i = L k (i + 1)) (hb : ∀ i, i < n → P i = false → ∃ K, ∀ k, K ≤ k → L (k + 1) i = some false)
    (he : ∃ K, ∀ k, K ≤ k → L (k + 1) n = some true) : Ev (fun k => L k 0) ((List.range n).all P) := by
  rw [List.range_eq_range']
  exact Ev.all P n hs hb he n 0 (by omega)
def okAt (l : List Int) (i : Nat) : Bool := decide (0 ≤ rd l i ∧ rd l i < 256 ∧ (0 < i → rd l ((i : Int) - 1) < rd l i))
def goodS (l : List Int) : Bool := (List.range l.length).all (okAt l)
theorem impl_good_ev (l : List Int) (h : l.length ≤ 4611686018427387904) : Ev (fun k => impl_goodSerials.f k l) (goodS l) := by
  simp only [impl_goodSerials.f]
  refine Ev.all0 (L := fun k i => impl_goodSerials.l0 k l l (l.length : Int) (i : Int)) (okAt l) l.length ?_ ?_ ?_
  · intro i hi hp
    refine ⟨0, fun k _ => ?_⟩
    have hp := of_decide_eq_true hp
    simp only [impl_goodSerials.l0]
    rw [if_pos (by omega), if_pos (by omega), if_pos (by omega), if_neg (by omega), if_neg (by omega), w64s hi (by omega)]
    by_cases h0 : (i : Int) > 0
    · rw [if_pos h0, w64 (n := (i : Int) - 1) (by omega) (by omega), if_pos (by omega), if_pos (by omega), if_neg (by have := hp.2.2 (by omega); omega)]
    · rw [if_neg h0]
  · intro i hi hp
    refine ⟨0, fun k _ => ?_⟩
    have hp := of_decide_eq_false hp
    simp only [impl_goodSerials.l0]
    rw [if_pos (by omega), if_pos (by omega), if_pos (by omega)]
    by_cases c1 : rd l (i : Int) < 0
    · rw [if_pos c1]
    rw [if_neg c1]
    by_cases c2 : rd l (i : Int) ≥ 256
    · rw [if_pos c2]
    rw [if_neg c2]
    by_cases h0 : (i : Int) > 0
    · rw [if_pos h0, w64 (n := (i : Int) - 1) (by omega) (by omega), if_pos (by omega), if_pos (by omega), if_pos (by
        by_cases c3 : rd l ((i : Int) - 1) ≥ rd l (i : Int)
        · exact c3
        · exact absurd ⟨by omega, by omega, fun _ => by omega⟩ hp)]
    · exact absurd ⟨by omega, by omega, fun h => by omega⟩ hp
  · refine ⟨0, fun k _ => ?_⟩
    simp only [impl_goodSerials.l0]
    rw [if_neg (by omega)]
theorem spec_good_ev (l : List Int) (h : l.length ≤ 4611686018427387904) : Ev (fun k => spec_l5Serials.f k l) (goodS l) := by
  simp only [spec_l5Serials.f]
  refine Ev.all0 (L := fun k i => spec_l5Serials.l0 k l (i : Int)) (okAt l) l.length ?_ ?_ ?_
  · intro i hi hp
    refine ⟨0, fun k _ => ?_⟩
    have hp := of_decide_eq_true hp
    simp only [spec_l5Serials.l0]
    rw [if_pos (by omega), if_pos (by omega), if_neg (by omega), if_neg (by omega), w64s hi (by omega)]
    by_cases h0 : (i : Int) > 0
    · rw [if_pos h0, w64 (n := (i : Int) - 1) (by omega) (by omega), if_pos (by omega), if_pos (by omega), if_neg (by have := hp.2.2 (by omega); omega)]
    · rw [if_neg h0]
  · intro i hi hp
    refine ⟨0, fun k _ => ?_⟩
    have hp := of_decide_eq_false hp
    simp only [spec_l5Serials.l0]
    rw [if_pos (by omega), if_pos (by omega)]
    by_cases c1 : rd l (i : Int) < 0
    · rw [if_pos c1]
    rw [if_neg c1]
    by_cases c2 : rd l (i : Int) ≥ 256
    · rw [if_pos c2]
    rw [if_neg c2]
    by_cases h0 : (i : Int) > 0
    · rw [if_pos h0, w64 (n := (i : Int) - 1) (by omega) (by omega), if_pos (by omega), if_pos (by omega), if_pos (by
        by_cases c3 : rd l ((i : Int) - 1) ≥ rd l (i : Int)
        · exact c3
        · exact absurd ⟨by omega, by omega, fun _ => by omega⟩ hp)]
    · exact absurd ⟨by omega, by omega, fun h => by omega⟩ hp
  · refine ⟨0, fun k _ => ?_⟩
    simp only [spec_l5Serials.l0]
    rw [if_neg (by omega)]
theorem goodS_at {l : List Int} (h : goodS l = true) {i : Nat} (hi : i < l.length) : 0 ≤ rd l i ∧ rd l i < 256 ∧ (0 < i → rd l ((i : Int) - 1) < rd l i) :=
  of_decide_eq_true (List.all_eq_true.1 h i (List.mem_range.2 hi))
theorem goodS_lt {l : List Int} (h : goodS l = true) : ∀ (j i : Nat), i < j → j < l.length → rd l i < rd l j
  | 0, i, hij, _ => by omega
  | j + 1, i, hij, hj => by
    have h1 := (goodS_at h hj).2.2 (by omega)
    rw [show ((j + 1 : Nat) : Int) - 1 = (j : Int) from by omega] at h1
    by_cases e : i = j
    · subst e; exact h1
    · have h2 := goodS_lt h j i (by omega) (by omega)
      omega
theorem rd_mem {l : List Int} {i : Nat} (hi : i < l.length) : rd l i ∈ l := by
  obtain ⟨x, hx⟩ := some_at hi
  rw [rd_at hx]
  exact List.mem_of_getElem? hx
theorem mem_rd {l : List Int} {x : Int} (h : x ∈ l) : ∃ i, i < l.length ∧ rd l (i : Int) = x := by
  obtain ⟨i, hi⟩ := List.mem_iff_getElem?.1 h
  exact ⟨i, (List.getElem?_eq_some_iff.1 hi).1, rd_at hi⟩
theorem goodS_mem {l : List Int} (h : goodS l = true) {x : Int} (hx : x ∈ l) : 0 ≤ x ∧ x < 256 := by
  obtain ⟨i, hi, rfl⟩ := mem_rd hx
  exact ⟨(goodS_at h hi).1, (goodS_at h hi).2.1⟩
theorem holds_ev (l : List Int) (x : Int) (h : l.length ≤ 4611686018427387904) : Ev (fun k => spec_l5Holds.f k l x) (decide (x ∈ l)) := by
  simp only [spec_l5Holds.f]
  have hx : decide (x ∈ l) = !((List.range l.length).all fun i => decide (rd l i ≠ x)) := by
    by_cases hm : x ∈ l
    · obtain ⟨i, hi, e⟩ := mem_rd hm
      have : ((List.range l.length).all fun i => decide (rd l i ≠ x)) = false := by
        rw [List.all_eq_false]
        exact ⟨i, List.mem_range.2 hi, by simp [e]⟩
      rw [this, decide_eq_true hm]; rfl
    · have : ((List.range l.length).all fun i => decide (rd l i ≠ x)) = true := by
        rw [List.all_eq_true]
        exact fun i hi => decide_eq_true (fun e => hm (e ▸ rd_mem (List.mem_range.1 hi)))
      rw [this, decide_eq_false hm]; rfl
  have hn : ∀ m i, i + m = l.length → Ev (fun k => spec_l5Holds.l0 k l x (i : Int)) (!((List.range' i m).all fun i => decide (rd l i ≠ x))) := by
    intro m
    induction m with
    | zero =>
      intro i hi
      refine Ev.last ⟨0, fun k _ => ?_⟩
      simp only [spec_l5Holds.l0]
      rw [if_neg (by omega)]
      rfl
    | succ m ih =>
      intro i hi
      rw [List.range'_succ, List.all_cons]
      by_cases c : rd l (i : Int) = x
      · rw [decide_eq_false (by simp [c]), Bool.false_and]
        refine Ev.last ⟨0, fun k _ => ?_⟩
        simp only [spec_l5Holds.l0]
        rw [if_pos (by omega), if_pos (by omega), if_pos c]
        rfl
      · rw [decide_eq_true c, Bool.true_and]
        refine Ev.step ⟨0, fun k _ => ?_⟩ (ih (i + 1) (by omega))
        simp only [spec_l5Holds.l0]
        rw [if_pos (by omega), if_pos (by omega), if_neg c, w64s (by omega) h]
  rw [hx, List.range_eq_range']
  exact hn l.length 0 (by omega)
theorem less_is (x y : Int) : cmp_Less_int64.f x y = some (decide (x < y)) := by
  simp [cmp_Less_int64.f, cmp_isNaN_int64.f]
theorem nan_is (x : Int) : slices_isNaN_int64.f x = some false := by simp [slices_isNaN_int64.f]
theorem search_ev (l : List Int) (x : Int) (hg : goodS l = true) (h : l.length ≤ 4611686018427387904) : ∃ at_ : Nat, at_ ≤ l.length ∧ (∀ i, i < at_ → rd l (i : Int) < x) ∧ (∀ i, at_ ≤ i → i < l.length → x ≤ rd l (i : Int)) ∧ Ev (fun k => slices_BinarySearch_int64_int64.f k l x) ((at_ : Int), decide (x ∈ l)) := by
  have key : ∀ (m i j : Nat), i + m = j → j ≤ l.length → (∀ q, q < i → rd l (q : Int) < x) → (∀ q, j ≤ q → q < l.length → x ≤ rd l (q : Int)) →
      ∃ at_ : Nat, at_ ≤ l.length ∧ (∀ i, i < at_ → rd l (i : Int) < x) ∧ (∀ i, at_ ≤ i → i < l.length → x ≤ rd l (i : Int)) ∧ Ev (fun k => slices_BinarySearch_int64_int64.l0 k l x (l.length : Int) (i : Int) (j : Int)) ((at_ : Int), decide (x ∈ l)) := by
    intro m
    induction m using Nat.strongRecOn with
    | ind m ih =>
      intro i j hij hj hlo hhi
      by_cases h0 : m = 0
      · obtain rfl : i = j := by omega
        refine ⟨i, hj, hlo, hhi, Ev.last ⟨0, fun k _ => ?_⟩⟩
        simp only [slices_BinarySearch_int64_int64.l0]
        rw [if_neg (by omega)]
        by_cases hi : (i : Int) < (l.length : Int)
        · rw [if_pos hi, if_pos (by omega), if_pos hi]
          by_cases c : rd l (i : Int) = x
          · rw [if_pos c, decide_eq_true (c ▸ rd_mem (by omega))]
          · rw [if_neg c, nan_is, Option.bind_some, if_neg (by simp), decide_eq_false]
            intro hm
            obtain ⟨q, hq, e⟩ := mem_rd hm
            rcases Nat.lt_trichotomy q i with h1 | h1 | h1
            · have := hlo q h1; omega
            · subst h1; exact c e
            · have h2 := hhi i (Nat.le_refl _) (by omega)
              have h3 := goodS_lt hg q i h1 hq
              omega
        · rw [if_neg hi, decide_eq_false]
          intro hm
          obtain ⟨q, hq, e⟩ := mem_rd hm
          have := hlo q (by omega)
          omega
      · have e1 : wrap64 ((i : Int) + (j : Int)) = ((i + j : Nat) : Int) := by rw [w64 (n := (i : Int) + j) (by omega) (by omega)]; rfl
        have e2 : IntKind.u64.wrap ((i + j : Nat) : Int) = ((i + j : Nat) : Int) := by rw [IntKind.wrap_u64]; omega
        have e3 : wrap64 ((((i + j : Nat) : Int)) / 2) = (((i + j) / 2 : Nat) : Int) := by rw [w64 (n := ((i + j : Nat) : Int) / 2) (by omega) (by omega)]; omega
        obtain ⟨c, hc⟩ : ∃ c, c = (i + j) / 2 := ⟨_, rfl⟩
        rw [← hc] at e3
        by_cases hlt : rd l (c : Int) < x
        · obtain ⟨at_, a1, a2, a3, a4⟩ := ih (j - (c + 1)) (by omega) (c + 1) j (by omega) hj (fun q hq => by
            by_cases hqc : q = c
            · subst hqc; exact hlt
            · have := goodS_lt hg c q (by omega) (by omega); omega) hhi
          refine ⟨at_, a1, a2, a3, Ev.step ⟨0, fun k _ => ?_⟩ a4⟩
          simp only [slices_BinarySearch_int64_int64.l0, e1, e2, e3]
          rw [if_pos (by omega), if_pos (by omega), if_pos (by omega), less_is, Option.bind_some, decide_eq_true hlt, if_pos rfl, w64s (n := l.length) (by omega) h]
        · obtain ⟨at_, a1, a2, a3, a4⟩ := ih (c - i) (by omega) i c (by omega) (by omega) hlo (fun q hq hql => by
            by_cases hqc : q = c
            · subst hqc; omega
            · have := goodS_lt hg q c (by omega) hql; omega)
          refine ⟨at_, a1, a2, a3, Ev.step ⟨0, fun k _ => ?_⟩ a4⟩
          simp only [slices_BinarySearch_int64_int64.l0, e1, e2, e3]
          rw [if_pos (by omega), if_pos (by omega), if_pos (by omega), less_is, Option.bind_some, decide_eq_false hlt, if_neg (by simp)]
  simp only [slices_BinarySearch_int64_int64.f]
  exact key l.length 0 l.length (by omega) (Nat.le_refl _) (fun q hq => by omega) (fun q h1 h2 => by omega)
end Go.Proofs.Ytgfadfahbhcllaa.P
end
section
namespace Go.Proofs.Ytgfadfahbhcllaa.P
open Go.RowKit Go.Proofs.YtgfadfahbhcllaaW.PrintWords Go.Proofs.YtgfadfahbhcllaaW.PrintMore Go.Proofs.Ytgfadfahbhcllaa.Q
def tapOk (used : List Int) (taps : List S111) (i : Nat) : Bool := decide ((rd_T111 taps i).f0 ∈ used) && ((List.range i).all fun j => decide ((rd_T111 taps j).f0 ≠ (rd_T111 taps i).f0)) && decide (0 ≤ (rd_T111 taps i).f1) && decide ((rd_T111 taps i).f1 ≤ 4294967295)
def validS (d u : List Int) (a : Int) (taps : List S111) : Bool := goodS d && decide (d.length ≤ 16) && goodS u && decide (0 ≤ a) && decide (a = (u.length : Int) - taps.length) && (List.range taps.length).all (tapOk u taps)
section
variable {d u : List Int} {a : Int} {taps : List S111}
theorem vs1 (h : goodS d = false) : validS d u a taps = false := by unfold validS; rw [h]; rfl
theorem vs2 (h : ¬ d.length ≤ 16) : validS d u a taps = false := by unfold validS; rw [decide_eq_false h]; simp
theorem vs3 (h : goodS u = false) : validS d u a taps = false := by unfold validS; rw [h]; simp
theorem vs4 (h : ¬ 0 ≤ a) : validS d u a taps = false := by unfold validS; rw [decide_eq_false h]; simp
theorem vs5 (h : ¬ a = (u.length : Int) - taps.length) : validS d u a taps = false := by unfold validS; rw [decide_eq_false h]; simp
theorem vs6 {i : Nat} (hi : i < taps.length) (h : tapOk u taps i = false) : validS d u a taps = false := by
  unfold validS
  have : (List.range taps.length).all (tapOk u taps) = false := by rw [List.all_eq_false]; exact ⟨i, List.mem_range.2 hi, by simp [h]⟩
  rw [this, Bool.and_false]
theorem vst (h1 : goodS d = true) (h2 : d.length ≤ 16) (h3 : goodS u = true) (h4 : 0 ≤ a) (h5 : a = (u.length : Int) - taps.length) (h6 : ∀ i, i < taps.length → tapOk u taps i = true) : validS d u a taps = true := by
  unfold validS
  have : (List.range taps.length).all (tapOk u taps) = true := List.all_eq_true.2 (fun i hi => h6 i (List.mem_range.1 hi))
  rw [h1, h3, this, decide_eq_true h2, decide_eq_true h4, decide_eq_true h5]
  rfl
end
end Go.Proofs.Ytgfadfahbhcllaa.P
namespace Go.Proofs.Ytgfadfahbhcllaa.Q
open Go.RowKit Go.Proofs.YtgfadfahbhcllaaW.PrintWords Go.Proofs.YtgfadfahbhcllaaW.PrintLast Go.Proofs.YtgfadfahbhcllaaW.PrintMore Go.Proofs.Ytgfadfahbhcllaa.LK
set_option linter.unusedVariables false
set_option linter.unusedSimpArgs false
def seenB (taps : List S111) (i : Nat) (v : Int) : Bool := (List.range i).any fun j => decide ((rd_T111 taps j).f0 = v)
def seenV (taps : List S111) (i : Nat) : List Value := (List.range 256).map fun (v : Nat) => Value.bool (seenB taps i (v : Int))
theorem seenV_length (taps : List S111) (i : Nat) : (seenV taps i).length = 256 := by unfold seenV; rw [List.length_map, List.length_range]
theorem seenV_zero (taps : List S111) : seenV taps 0 = List.replicate 256 (Value.bool false) := by
  unfold seenV seenB
  refine List.eq_replicate_iff.2 ⟨by simp, fun b hb => ?_⟩
  obtain ⟨x, _, rfl⟩ := List.mem_map.1 hb
  rfl
theorem seenV_at (taps : List S111) (i : Nat) {x : Int} (h0 : 0 ≤ x) (h1 : x < 256) : (seenV taps i)[x.toNat]? = some (Value.bool (seenB taps i x)) := by
  unfold seenV
  rw [List.getElem?_map, List.getElem?_range (by omega)]
  show some (Value.bool (seenB taps i ((x.toNat : Nat) : Int))) = _
  rw [show ((x.toNat : Nat) : Int) = x from by omega]
theorem seenV_set {taps : List S111} {i : Nat} {x : Int} (hx : (rd_T111 taps i).f0 = x) (h0 : 0 ≤ x) (h1 : x < 256) : (seenV taps i).take x.toNat ++ [Value.bool true] ++ (seenV taps i).drop (x.toNat + 1) = seenV taps (i + 1) := by
  have e : (seenV taps i).take x.toNat ++ [Value.bool true] ++ (seenV taps i).drop (x.toNat + 1) = (seenV taps i).set x.toNat (Value.bool true) := by
    rw [List.set_eq_take_append_cons_drop, if_pos (by rw [seenV_length]; omega), List.append_assoc]
    rfl
  rw [e]
  refine List.ext_getElem? (fun j => ?_)
  by_cases hj : j < 256
  · have ej : (seenV taps (i + 1))[j]? = some (Value.bool (seenB taps (i + 1) (j : Int))) := by
      unfold seenV
      rw [List.getElem?_map, List.getElem?_range hj]
      rfl
    have es : seenB taps (i + 1) (j : Int) = (seenB taps i (j : Int) || decide (x = (j : Int))) := by
      unfold seenB
      rw [List.range_succ, List.any_append, List.any_cons, List.any_nil, Bool.or_false, hx]
    rw [ej, es]
    by_cases hjx : x.toNat = j
    · subst hjx
      rw [List.getElem?_set_self (by rw [seenV_length]; omega), decide_eq_true (by omega), Bool.or_true]
    · rw [List.getElem?_set_ne hjx, decide_eq_false (by omega), Bool.or_false]
      unfold seenV
      rw [List.getElem?_map, List.getElem?_range hj]
      rfl
  · rw [List.getElem?_eq_none (by rw [List.length_set, seenV_length]; omega), List.getElem?_eq_none (by rw [seenV_length]; omega)]
theorem seen_no {taps : List S111} {i : Nat} (h : seenB taps i (rd_T111 taps i).f0 = false) : ((List.range i).all fun j => decide ((rd_T111 taps j).f0 ≠ (rd_T111 taps i).f0)) = true := by
  unfold seenB at h
  rw [List.any_eq_false] at h
  exact List.all_eq_true.2 (fun j hj => decide_eq_true (fun e => h j hj (decide_eq_true e)))
theorem seen_yes {taps : List S111} {i : Nat} (h : seenB taps i (rd_T111 taps i).f0 = true) : ((List.range i).all fun j => decide ((rd_T111 taps j).f0 ≠ (rd_T111 taps i).f0)) = false := by
  unfold seenB at h
  obtain ⟨j, hj, e⟩ := List.any_eq_true.1 h
  rw [List.all_eq_false]
  exact ⟨j, hj, by simpa using of_decide_eq_true e⟩
def sizesS (d u : List Int) (taps : List S111) : Prop := d.length ≤ 2097152 ∧ u.length ≤ 2097152 ∧ taps.length ≤ 2097152
instance (d u : List Int) (taps : List S111) : Decidable (sizesS d u taps) := by unfold sizesS; infer_instance
def impl_ValidState.f (l0_0 : List Int) (l0_1 : List Int) (a0_2 : Int) (l0_3 : List S111) : Option Bool := if sizesS l0_0 l0_1 l0_3 then some (P.validS l0_0 l0_1 a0_2 l0_3) else none
set_option maxHeartbeats 8000000 in
set_option maxRecDepth 100000 in
theorem impl_ValidState.calls (A0_0 : Option Addr) (c0_0 : Nat) (l0_0 : List Int) (A0_1 : Option Addr) (c0_1 : Nat) (l0_1 : List Int) (a0_2 : Int) (A0_3 : Option Addr) (c0_3 : Nat) (l0_3 : List S111) (r : Bool) (w : World) (hr0_0 : Kd.C (Kd.int .i64) w A0_0 l0_0.length l0_0) (hc0_0 : l0_0.length ≤ c0_0) (hr0_1 : Kd.C (Kd.int .i64) w A0_1 l0_1.length l0_1) (hc0_1 : l0_1.length ≤ c0_1) (hr0_3 : Kd.C k111 w A0_3 l0_3.length l0_3) (hc0_3 : l0_3.length ≤ c0_3) (h : impl_ValidState.f l0_0 l0_1 a0_2 l0_3 = some r) :
    Calls Try.prog 83 #[.agg #[.slice A0_0 l0_0.length c0_0, .slice A0_1 l0_1.length c0_1, .int .i64 a0_2, .slice A0_3 l0_3.length c0_3]] w fun e w' => e = .returned (.bool r) ∧ Below w.heap.size w w' := by
  unfold impl_ValidState.f at h
  by_cases hsz : sizesS l0_0 l0_1 l0_3
  case neg => rw [if_neg hsz] at h; cases h
  rw [if_pos hsz] at h
  have h := Option.some.inj h
  obtain ⟨kd_, hkd⟩ := (P.impl_good_ev l0_0 (Nat.le_trans hsz.1 (by decide))).ex
  obtain ⟨ku_, hku⟩ := (P.impl_good_ev l0_1 (Nat.le_trans hsz.2.1 (by decide))).ex
  have HKD := Aside0.mk hkd
  have HKU := Aside0.mk hku
  have HR0 := Aside0.mk hr0_0
  have HR1 := Aside0.mk hr0_1
  have HR3 := Aside0.mk hr0_3
  have HC0 := Aside0.mk hc0_0
  have HC1 := Aside0.mk hc0_1
  have H := Aside0.mk h
  have HSz := Aside0.mk hsz
  have jsub : IntKind.i64.wrap ((l0_1.length : Int) - (l0_3.length : Int)) = (l0_1.length : Int) - l0_3.length := by have := hsz.2; rw [IntKind.wrap_i64]; omega
  have H0 := Aside0.mk (Bx.refl w)
  clear hr0_0 hr0_1 hr0_3 hc0_0 hc0_1 hc0_3 hkd hku h hsz
  go_enter Try.func83, Try.ntmps83
  go_wp2_with (first | ((with_reducible refine gate_dst (N := 1) rfl ?_); refine Aside0.out ?_))
  refine Aside0.mk ?_
  refine mk ?hw1 (N := 1) ?hd1 (cs := #[.slice A0_0 l0_0.length c0_0, .slice A0_1 l0_1.length c0_1, .int .i64 a0_2, .slice A0_3 l0_3.length c0_3]) (t := 62) ?hr1 ?_
  case hd1 => rfl
  case hw1 => rfl
  case hr1 => first | (go_simp; done) | (go_simp; rfl)
  intro g1 hg1_ w101 hb1 hB1
  have H102 := Aside0.mk (H0.out.new hg1_ hb1 hB1)
  clear hg1_ hb1 hB1 H0
  have hd0 : w101.cell? ⟨g1, 0, none⟩ = some (.slice A0_0 l0_0.length c0_0) := (blk_cell H102.out.gt0 0).trans rfl
  have hd1 : w101.cell? ⟨g1, 1, none⟩ = some (.slice A0_1 l0_1.length c0_1) := (blk_cell H102.out.gt0 1).trans rfl
  have hd2 : w101.cell? ⟨g1, 2, none⟩ = some (.int .i64 a0_2) := (blk_cell H102.out.gt0 2).trans rfl
  have hd3 : w101.cell? ⟨g1, 3, none⟩ = some (.slice A0_3 l0_3.length c0_3) := (blk_cell H102.out.gt0 3).trans rfl
  go_wp2_with (first | ((with_reducible refine gate_callee (f := 94) rfl ?_); refine Aside0.out ?_))
  refine Aside0.mk ?_
  refine goesW (some 10) rfl ?hw3 Try.func94 (by kernel_rfl) rfl #[.slice A0_0 l0_0.length c0_0] rfl (by (try simp only [List.map_toArray, List.map_cons, List.map_nil]); first | done | rfl) ?_
  case hw3 => rfl
  refine (impl_goodSerials.calls kd_ _ c0_0 l0_0 _ _ (Kd.C_below HR0.out H102.out.below) HC0.out HKD.out).mono ?_
  rintro e w103 ⟨rfl, hd_⟩
  refine ⟨_, rfl, ?_⟩
  have hb_ := hd_.below
  clear hd_ hd0 hd1 hd2 hd3
  have H104 := Aside0.mk (H102.out.step hb_)
  clear hb_ H102
  have hd0 : w103.cell? ⟨g1, 0, none⟩ = some (.slice A0_0 l0_0.length c0_0) := (blk_cell H104.out.gt0 0).trans rfl
  have hd1 : w103.cell? ⟨g1, 1, none⟩ = some (.slice A0_1 l0_1.length c0_1) := (blk_cell H104.out.gt0 1).trans rfl
  have hd2 : w103.cell? ⟨g1, 2, none⟩ = some (.int .i64 a0_2) := (blk_cell H104.out.gt0 2).trans rfl
  have hd3 : w103.cell? ⟨g1, 3, none⟩ = some (.slice A0_3 l0_3.length c0_3) := (blk_cell H104.out.gt0 3).trans rfl
  cases hgd : P.goodS l0_0 with
  | false =>
    have HGD := Aside0.mk hgd
    clear hgd
    go_wp2
    go_ret
    exact ⟨by rw [← H.out, P.vs1 HGD.out]; rfl, H104.out.below⟩
  | true =>
    have HGD := Aside0.mk hgd
    clear hgd
    by_cases c16 : l0_0.length ≤ 16
    · have c16b : decide (16 < (l0_0.length : Int)) = false := decide_eq_false (by omega)
      have C16 := Aside0.mk c16
      clear c16
      go_wp2_with (first | ((with_reducible refine gate_callee (f := 94) rfl ?_); refine Aside0.out ?_))
      refine Aside0.mk ?_
      refine goesW (some 21) rfl ?hw5 Try.func94 (by kernel_rfl) rfl #[.slice A0_1 l0_1.length c0_1] rfl (by (try simp only [List.map_toArray, List.map_cons, List.map_nil]); first | done | rfl) ?_
      case hw5 => rfl
      refine (impl_goodSerials.calls ku_ _ c0_1 l0_1 _ _ (Kd.C_below HR1.out H104.out.below) HC1.out HKU.out).mono ?_
      rintro e w105 ⟨rfl, hd_⟩
      refine ⟨_, rfl, ?_⟩
      have hb_ := hd_.below
      clear hd_ hd0 hd1 hd2 hd3
      have H106 := Aside0.mk (H104.out.step hb_)
      clear hb_ H104
      have hd0 : w105.cell? ⟨g1, 0, none⟩ = some (.slice A0_0 l0_0.length c0_0) := (blk_cell H106.out.gt0 0).trans rfl
      have hd1 : w105.cell? ⟨g1, 1, none⟩ = some (.slice A0_1 l0_1.length c0_1) := (blk_cell H106.out.gt0 1).trans rfl
      have hd2 : w105.cell? ⟨g1, 2, none⟩ = some (.int .i64 a0_2) := (blk_cell H106.out.gt0 2).trans rfl
      have hd3 : w105.cell? ⟨g1, 3, none⟩ = some (.slice A0_3 l0_3.length c0_3) := (blk_cell H106.out.gt0 3).trans rfl
      cases hgu : P.goodS l0_1 with
      | false =>
        have HGU := Aside0.mk hgu
        clear hgu
        go_wp2
        go_ret
        exact ⟨by rw [← H.out, P.vs3 HGU.out]; rfl, H106.out.below⟩
      | true =>
        have HGU := Aside0.mk hgu
        clear hgu
        by_cases ca : 0 ≤ a0_2
        · have cab : decide (a0_2 < 0) = false := decide_eq_false (by omega)
          have CA := Aside0.mk ca
          clear ca
          by_cases ce : a0_2 = (l0_1.length : Int) - l0_3.length
          · have ceb : (a0_2 != (l0_1.length : Int) - (l0_3.length : Int)) = false := bne_eq_false_iff_eq.mpr ce
            have CE := Aside0.mk ce
            clear ce
            go_wp2_with (first | ((with_reducible refine gate_dst (N := 3) rfl ?_); refine Aside0.out ?_))
            refine Aside0.mk ?_
            refine mk ?hw7 (N := 3) ?hd7 (cs := (seenV l0_3 0).toArray) (t := 130) ?hr7 ?_
            case hd7 => rfl
            case hw7 => rfl
            case hr7 => rw [seenV_zero]; first | (go_simp; done) | (go_simp; rfl)
            intro g3 hg3_ w107 hb7 hB7
            have H108 := Aside0.mk (H106.out.new hg3_ hb7 hB7)
            clear hg3_ hb7 hB7 H106
            clear hd0 hd1 hd2 hd3
            have hd0 : w107.cell? ⟨g1, 0, none⟩ = some (.slice A0_0 l0_0.length c0_0) := (blk_cell H108.out.gt1 0).trans rfl
            have hd1 : w107.cell? ⟨g1, 1, none⟩ = some (.slice A0_1 l0_1.length c0_1) := (blk_cell H108.out.gt1 1).trans rfl
            have hd2 : w107.cell? ⟨g1, 2, none⟩ = some (.int .i64 a0_2) := (blk_cell H108.out.gt1 2).trans rfl
            have hd3 : w107.cell? ⟨g1, 3, none⟩ = some (.slice A0_3 l0_3.length c0_3) := (blk_cell H108.out.gt1 3).trans rfl
            go_wp2
            go_loopg [44] (l0_3.length + 1) (fun kq v44 w' => ∃ (i : Nat) (x : Int) (wl : World), v44 = .int .i64 x ∧ Aside0 (wl = w') ∧ Aside0 (x = (i : Int)) ∧ Aside0 (kq + i = l0_3.length + 1) ∧ Aside0 (i ≤ l0_3.length) ∧ Aside0 (Bx w [(g3, (seenV l0_3 i).toArray, 130), (g1, #[.slice A0_0 l0_0.length c0_0, .slice A0_1 l0_1.length c0_1, .int .i64 a0_2, .slice A0_3 l0_3.length c0_3], 62)] w') ∧ Aside0 (∀ j, j < i → P.tapOk l0_1 l0_3 j = true))
            case atStart => exact ⟨0, 0, _, rfl, ⟨rfl⟩, ⟨rfl⟩, ⟨by omega⟩, ⟨Nat.zero_le _⟩, H108, ⟨fun j hj => absurd hj (Nat.not_lt_zero j)⟩⟩
            case round =>
              clear H108 hd0 hd1 hd2 hd3
              obtain ⟨i, x, wl, rfl, hwl, HE, HK, HI, HX, HAll⟩ := hrel
              obtain ⟨hwl⟩ := hwl
              subst hwl
              have he := HE.out
              cases gk with
              | zero => exact absurd HK.out (by have := HI.out; omega)
              | succ k1 =>
                by_cases c3 : i < l0_3.length
                · have C3 := Aside0.mk c3
                  have c3b : decide (x < (l0_3.length : Int)) = true := decide_eq_true (by omega)
                  have p5 : (0 ≤ x) = True := eq_true (by omega)
                  have q5 : (x < (l0_3.length : Int)) = True := eq_true (by omega)
                  have jn : IntKind.i64.wrap (x + 1) = x + 1 := by have := HSz.out.2; rw [IntKind.wrap_i64]; omega
                  obtain ⟨ad, eA, hcf0, hcf1⟩ := at_T111 HR3.out x (by omega) (by omega)
                  subst eA
                  replace hcf0 := pw_cell_below HX.out.below hcf0
                  replace hcf1 := pw_cell_below HX.out.below hcf1
                  obtain ⟨p, hp⟩ : ∃ p, p = rd_T111 l0_3 x := ⟨_, rfl⟩
                  rw [← hp] at hcf0 hcf1
                  have HP := Aside0.mk (show rd_T111 l0_3 (i : Int) = p from by rw [hp, he])
                  obtain ⟨at_, -, -, -, hsv⟩ := P.search_ev l0_1 p.f0 HGU.out (Nat.le_trans HSz.out.2.1 (by decide))
                  obtain ⟨ks, hks⟩ := hsv.ex
                  have HKS := Aside0.mk hks
                  clear c3 he hp hsv hks
                  go_wp2_with (first | ((with_reducible refine gate_dst (N := 5) rfl ?_); refine Aside0.out ?_))
                  refine Aside0.mk ?_
                  refine mk ?hw9 (N := 5) ?hd9 (cs := #[.int .i64 0, .int .i64 0]) (t := 111) ?hr9 ?_
                  case hd9 => rfl
                  case hw9 => rfl
                  case hr9 => first | (go_simp; done) | (go_simp; rfl)
                  intro g5 hg5_ w109 hb9 hB9
                  have H110 := Aside0.mk (HX.out.new hg5_ hb9 hB9)
                  clear hg5_ hb9 hB9 HX
                  clear hcf0 hcf1
                  go_wp2_with (first | ((with_reducible refine gate_store (t := 111) (p := 5) rfl ?_); refine Aside0.out ?_))
                  refine Aside0.mk ?_
                  refine st_all ?hw11 ?hN11 rfl ?hp11 (cs := #[.int .i64 p.f0, .int .i64 p.f1]) ?hx11 H110.out.gt0 (by kernel_rfl) (rfl) (by simp [Value.oneCell']) ?_
                  case hw11 => rfl
                  case hN11 => rfl
                  case hp11 => rfl
                  case hx11 => rfl
                  intro w111 hb11 hS11
                  have H112 := Aside0.mk (H110.out.wr0 (cs' := #[.int .i64 p.f0, .int .i64 p.f1]) hb11 hS11)
                  clear hb11 hS11 H110
                  have he0 : w111.cell? ⟨g5, 0, none⟩ = some (.int .i64 p.f0) := (blk_cell H112.out.gt0 0).trans rfl
                  have he1 : w111.cell? ⟨g5, 1, none⟩ = some (.int .i64 p.f1) := (blk_cell H112.out.gt0 1).trans rfl
                  have hd1 : w111.cell? ⟨g1, 1, none⟩ = some (.slice A0_1 l0_1.length c0_1) := (blk_cell H112.out.gt2 1).trans rfl
                  go_wp2_with (first | ((with_reducible refine gate_callee (f := 101) rfl ?_); refine Aside0.out ?_))
                  refine Aside0.mk ?_
                  refine goesW (some 53) rfl ?hw13 Try.func101 (by kernel_rfl) rfl #[.slice A0_1 l0_1.length c0_1, .int .i64 p.f0] rfl (by (try simp only [List.map_toArray, List.map_cons, List.map_nil]); first | done | rfl) ?_
                  case hw13 => rfl
                  refine (slices_BinarySearch_int64_int64.calls ks _ c0_1 l0_1 p.f0 _ _ _ (Kd.C_below HR1.out H112.out.below) HC1.out HKS.out).mono ?_
                  rintro e w113 ⟨rfl, hd_⟩
                  refine ⟨_, rfl, ?_⟩
                  have hb_ := hd_.below
                  clear hd_ he0 he1 hd1
                  have H114 := Aside0.mk (H112.out.step hb_)
                  clear hb_ H112
                  have he0 : w113.cell? ⟨g5, 0, none⟩ = some (.int .i64 p.f0) := (blk_cell H114.out.gt0 0).trans rfl
                  have he1 : w113.cell? ⟨g5, 1, none⟩ = some (.int .i64 p.f1) := (blk_cell H114.out.gt0 1).trans rfl
                  have hd1 : w113.cell? ⟨g1, 1, none⟩ = some (.slice A0_1 l0_1.length c0_1) := (blk_cell H114.out.gt2 1).trans rfl
                  by_cases cm : p.f0 ∈ l0_1
                  · rw [decide_eq_true cm]
                    have CM := Aside0.mk cm
                    have hr_ := P.goodS_mem HGU.out cm
                    have HRg := Aside0.mk hr_
                    have r0 : (0 ≤ p.f0) = True := eq_true hr_.1
                    have r1 : (p.f0 < 256) = True := eq_true hr_.2
                    have hsn : w113.cell? ⟨g3, p.f0.toNat, none⟩ = some (.bool (seenB l0_3 i p.f0)) := (blk_cell H114.out.gt1 _).trans (by rw [List.getElem?_toArray]; exact seenV_at l0_3 i hr_.1 hr_.2)
                    clear cm hr_
                    cases hsb : seenB l0_3 i p.f0 with
                    | true =>
                      rw [hsb] at hsn
                      have HSB := Aside0.mk hsb
                      clear hsb
                      go_wp2
                      go_ret
                      exact ⟨by rw [← H.out, P.vs6 C3.out (by unfold P.tapOk; rw [HP.out]; rw [show ((List.range i).all fun j => decide ((rd_T111 l0_3 j).f0 ≠ p.f0)) = false from by have h_ := seen_yes (taps := l0_3) (i := i) (by rw [HP.out]; exact HSB.out); rw [HP.out] at h_; exact h_]; simp)]; rfl, H114.out.below⟩
                    | false =>
                      rw [hsb] at hsn
                      have HSB := Aside0.mk hsb
                      clear hsb
                      by_cases cn : 0 ≤ p.f1
                      · have cnb : decide (p.f1 < 0) = false := decide_eq_false (by omega)
                        have CN := Aside0.mk cn
                        clear cn
                        by_cases cx : p.f1 ≤ 4294967295
                        · have cxb : decide (4294967295 < p.f1) = false := decide_eq_false (by omega)
                          have CX := Aside0.mk cx
                          clear cx
                          go_wp2_with (first | ((with_reducible refine gate_store (t := 4) (p := 76) rfl ?_); refine Aside0.out ?_))
                          refine Aside0.mk ?_
                          refine st (o' := p.f0.toNat) (u := .bool true) (seg := [.bool true]) ?hw15 ?hN15 rfl ?hp15 ?hx15 rfl H114.out.gt1 (by kernel_rfl) ?hf15 (by simp [Value.oneCell']) ?_
                          case hw15 => rfl
                          case hN15 => rfl
                          case hp15 => first | rfl | (go_simp; rfl)
                          case hx15 => rfl
                          case hf15 => rw [List.size_toArray, seenV_length]; have := HRg.out; show p.f0.toNat + 1 ≤ 256; omega
                          intro w115 hb15 hS15
                          replace hb15 := hb15.trans (congrArg (fun z : List Value => some (Obj.cells z.toArray 130 (0, 0))) (seenV_set (taps := l0_3) (i := i) (by rw [HP.out]) HRg.out.1 HRg.out.2))
                          have H116 := Aside0.mk (H114.out.wr1 (cs' := (seenV l0_3 (i + 1)).toArray) hb15 hS15)
                          clear hb15 hS15 H114
                          have HZ := Aside0.mk H116.out.tail
                          clear H116 he0 he1 hd1 hsn
                          go_wp2
                          go_roundg k1
                          case measure => omega
                          case rel =>
                            refine ⟨i + 1, x + 1, _, rfl, ⟨rfl⟩, ⟨by rw [HE.out]; rfl⟩, ⟨by have := HK.out; omega⟩, ⟨by have := C3.out; omega⟩, HZ, ⟨fun j hj => ?_⟩⟩
                            by_cases hji : j = i
                            · subst hji
                              unfold P.tapOk
                              rw [HP.out, decide_eq_true CM.out, decide_eq_true CN.out, decide_eq_true CX.out, show ((List.range j).all fun q => decide ((rd_T111 l0_3 q).f0 ≠ p.f0)) = true from by have h_ := seen_no (taps := l0_3) (i := j) (by rw [HP.out]; exact HSB.out); rw [HP.out] at h_; exact h_]
                              rfl
                            · exact HAll.out j (by omega)
                        · have cxb : decide (4294967295 < p.f1) = true := decide_eq_true (by omega)
                          have CX := Aside0.mk cx
                          clear cx
                          go_wp2
                          go_ret
                          exact ⟨by rw [← H.out, P.vs6 C3.out (by unfold P.tapOk; rw [HP.out]; rw [show decide (p.f1 ≤ 4294967295) = false from decide_eq_false (by have := CX.out; omega)]; simp)]; rfl, H114.out.below⟩
                      · have cnb : decide (p.f1 < 0) = true := decide_eq_true (by omega)
                        have CN := Aside0.mk cn
                        clear cn
                        go_wp2
                        go_ret
                        exact ⟨by rw [← H.out, P.vs6 C3.out (by unfold P.tapOk; rw [HP.out]; rw [show decide (0 ≤ p.f1) = false from decide_eq_false (by have := CN.out; omega)]; simp)]; rfl, H114.out.below⟩
                  · rw [decide_eq_false cm]
                    have CM := Aside0.mk cm
                    clear cm
                    go_wp2
                    go_ret
                    exact ⟨by rw [← H.out, P.vs6 C3.out (by unfold P.tapOk; rw [HP.out]; rw [decide_eq_false CM.out]; rfl)]; rfl, H114.out.below⟩
                · have c3b : decide (x < (l0_3.length : Int)) = false := decide_eq_false (by omega)
                  obtain rfl : i = l0_3.length := by have := HI.out; omega
                  go_wp2
                  go_ret
                  exact ⟨by rw [← H.out, P.vst HGD.out C16.out HGU.out CA.out CE.out HAll.out]; rfl, HX.out.below⟩
          · have ceb : (a0_2 != (l0_1.length : Int) - (l0_3.length : Int)) = true := bne_iff_ne.mpr ce
            have CE := Aside0.mk ce
            clear ce
            go_wp2
            go_ret
            exact ⟨by rw [← H.out, P.vs5 CE.out]; rfl, H106.out.below⟩
        · have cab : decide (a0_2 < 0) = true := decide_eq_true (by omega)
          have CA := Aside0.mk ca
          clear ca
          go_wp2
          go_ret
          exact ⟨by rw [← H.out, P.vs4 (by have := CA.out; omega)]; rfl, H106.out.below⟩
    · have c16b : decide (16 < (l0_0.length : Int)) = true := decide_eq_true (by omega)
      have C16 := Aside0.mk c16
      clear c16
      go_wp2
      go_ret
      exact ⟨by rw [← H.out, P.vs2 (by have := C16.out; omega)]; rfl, H104.out.below⟩
end Go.Proofs.Ytgfadfahbhcllaa.Q
end
section
namespace Go.Proofs.Ytgfadfahbhcllaa.Q
open Go.RowKit Go.Proofs.YtgfadfahbhcllaaW.PrintWords Go.Proofs.YtgfadfahbhcllaaW.PrintLast Go.Proofs.Ytgfadfahbhcllaa.LK Go.Proofs.YtgfadfahbhcllaaW.PrintMore
attribute [local go_sem] max2_int min2_int max_two min_two max_three min_three max_four min_four
set_option linter.unusedVariables false
set_option linter.unusedSimpArgs false
end Go.Proofs.Ytgfadfahbhcllaa.Q
end
section
namespace Go.Proofs.Ytgfadfahbhcllaa.Q
open Go.RowKit Go.Proofs.YtgfadfahbhcllaaW.PrintWords Go.Proofs.YtgfadfahbhcllaaW.PrintLast Go.Proofs.Ytgfadfahbhcllaa.LK Go.Proofs.YtgfadfahbhcllaaW.PrintMore
attribute [local go_sem] max2_int min2_int max_two min_two max_three min_three max_four min_four
set_option linter.unusedVariables false
set_option linter.unusedSimpArgs false
end Go.Proofs.Ytgfadfahbhcllaa.Q
end
section
namespace Go.Proofs.Ytgfadfahbhcllaa.P
open Go.RowKit Go.Proofs.YtgfadfahbhcllaaW.PrintWords Go.Proofs.YtgfadfahbhcllaaW.PrintMore Go.Proofs.Ytgfadfahbhcllaa.Q
set_option linter.unusedVariables false
set_option linter.unusedSimpArgs false
theorem goodS_ge {l : List Int} (h : goodS l = true) : ∀ i : Nat, i < l.length → (i : Int) ≤ rd l i
  | 0, hi => (goodS_at h hi).1
  | i + 1, hi => by
    have h1 := goodS_ge h i (by omega)
    have h2 := goodS_lt h (i + 1) i (by omega) hi
    omega
theorem goodS_length {l : List Int} (h : goodS l = true) : l.length ≤ 256 := by
  rcases Nat.lt_or_ge 256 l.length with hl | hl
  · have h1 := goodS_ge h 256 hl
    have h2 := (goodS_at h hl).2.1
    omega
  · exact hl
def snapSz (g t : Int) (xs u : List Int) : Prop := (0 ≤ g ∧ g ≤ 4294967295) ∧ (0 ≤ t ∧ t ≤ 4294967295) ∧ xs.length ≤ 2097152 ∧ u.length ≤ 2097152
instance (g t : Int) (xs u : List Int) : Decidable (snapSz g t xs u) := by unfold snapSz; infer_instance
end Go.Proofs.Ytgfadfahbhcllaa.P
end
section
namespace Go.Proofs.Ytgfadfahbhcllaa.P
open Go.RowKit Go.Proofs.YtgfadfahbhcllaaW.PrintWords Go.Proofs.YtgfadfahbhcllaaW.PrintMore Go.Proofs.Ytgfadfahbhcllaa.Q
set_option linter.unusedVariables false
set_option linter.unusedSimpArgs false
theorem asc_eq : ∀ {l m : List Int}, l.Pairwise (· < ·) → m.Pairwise (· < ·) → (∀ x, x ∈ l ↔ x ∈ m) → l = m
  | [], [], _, _, _ => rfl
  | [], y :: m, _, _, h => absurd ((h y).2 List.mem_cons_self) List.not_mem_nil
  | x :: l, [], _, _, h => absurd ((h x).1 List.mem_cons_self) List.not_mem_nil
  | x :: l, y :: m, hl, hm, h => by
    rw [List.pairwise_cons] at hl hm
    have hxy : x = y := by
      rcases List.mem_cons.1 ((h x).1 List.mem_cons_self) with e | e
      · exact e
      · rcases List.mem_cons.1 ((h y).2 List.mem_cons_self) with e2 | e2
        · exact e2.symm
        · have h1 := hm.1 x e
          have h2 := hl.1 y e2
          omega
    subst hxy
    rw [asc_eq hl.2 hm.2 (fun z => ⟨fun hz => ?_, fun hz => ?_⟩)]
    · rcases List.mem_cons.1 ((h z).1 (List.mem_cons_of_mem _ hz)) with e | e
      · subst e; exact absurd (hl.1 _ hz) (by omega)
      · exact e
    · rcases List.mem_cons.1 ((h z).2 (List.mem_cons_of_mem _ hz)) with e | e
      · subst e; exact absurd (hm.1 _ hz) (by omega)
      · exact e
theorem rd_elem {l : List Int} {i : Nat} (hi : i < l.length) : rd l (i : Int) = l[i] := rd_at (List.getElem?_eq_getElem hi)
theorem goodS_asc {l : List Int} (h : goodS l = true) : l.Pairwise (· < ·) := by
  rw [List.pairwise_iff_getElem]
  intro i j hi hj hij
  have := goodS_lt h j i hij hj
  rwa [rd_elem hi, rd_elem hj] at this
theorem goodS_of {l : List Int} (h : l.Pairwise (· < ·)) (hr : ∀ x ∈ l, 0 ≤ x ∧ x < 256) : goodS l = true := by
  unfold goodS
  rw [List.all_eq_true]
  intro i hi
  have hi := List.mem_range.1 hi
  have h1 := hr _ (rd_mem hi)
  refine decide_eq_true ⟨h1.1, h1.2, fun h0 => ?_⟩
  have hp := (List.pairwise_iff_getElem.1 h) (i - 1) i (by omega) hi (by omega)
  rw [show ((i : Int) - 1) = ((i - 1 : Nat) : Int) from by omega, rd_elem (by omega), rd_elem hi]
  exact hp
def withS (xs : List Int) (x : Int) : List Int := ((List.range 256).filter fun (v : Nat) => decide ((v : Int) = x ∨ (v : Int) ∈ xs)).map fun (v : Nat) => (v : Int)
theorem withS_asc (xs : List Int) (x : Int) : (withS xs x).Pairwise (· < ·) := by
  unfold withS
  rw [List.pairwise_map]
  exact (List.pairwise_lt_range.filter _).imp (fun h => by omega)
theorem withS_mem {xs : List Int} {x : Int} (h : ∀ y ∈ xs, 0 ≤ y ∧ y < 256) (hx : 0 ≤ x ∧ x < 256) {y : Int} : y ∈ withS xs x ↔ y = x ∨ y ∈ xs := by
  unfold withS
  rw [List.mem_map]
  constructor
  · rintro ⟨v, hv, rfl⟩
    rw [List.mem_filter] at hv
    exact of_decide_eq_true hv.2
  · intro hy
    have hr : 0 ≤ y ∧ y < 256 := hy.elim (fun e => e ▸ hx) (h y)
    refine ⟨y.toNat, List.mem_filter.2 ⟨List.mem_range.2 (by omega), decide_eq_true ?_⟩, by omega⟩
    rw [show ((y.toNat : Nat) : Int) = y from by omega]
    exact hy
theorem withS_good {xs : List Int} {x : Int} (h : goodS xs = true) (hx : 0 ≤ x ∧ x < 256) : goodS (withS xs x) = true :=
  goodS_of (withS_asc xs x) (fun y hy => ((withS_mem (fun z hz => goodS_mem h hz) hx).1 hy).elim (fun e => e ▸ hx) (fun hm => goodS_mem h hm))
theorem take_lt {l : List Int} {x : Int} {n : Nat} (h : ∀ i, i < n → rd l (i : Int) < x) : ∀ y ∈ l.take n, y < x := by
  intro y hy
  obtain ⟨i, hi⟩ := List.mem_iff_getElem?.1 hy
  rw [List.getElem?_take] at hi
  by_cases hin : i < n
  · rw [if_pos hin] at hi
    have := h i hin
    rwa [rd_at hi] at this
  · rw [if_neg hin] at hi; cases hi
theorem drop_ge {l : List Int} {x : Int} {n : Nat} (h : ∀ i, n ≤ i → i < l.length → x ≤ rd l (i : Int)) : ∀ y ∈ l.drop n, x ≤ y := by
  intro y hy
  obtain ⟨i, hi⟩ := List.mem_iff_getElem?.1 hy
  rw [List.getElem?_drop] at hi
  have := h (n + i) (by omega) (List.getElem?_eq_some_iff.1 hi).1
  rwa [rd_at hi] at this
theorem put_in {l : List Int} {x : Int} {n : Nat} (hg : goodS l = true) (hx : 0 ≤ x ∧ x < 256) (hn : x ∉ l) (h1 : ∀ i, i < n → rd l (i : Int) < x) (h2 : ∀ i, n ≤ i → i < l.length → x ≤ rd l (i : Int)) : l.take n ++ [x] ++ l.drop n = withS l x := by
  have hp := goodS_asc hg
  have hlt := take_lt h1
  have hge := drop_ge h2
  have hgt : ∀ y ∈ l.drop n, x < y := fun y hy => by
    have a := hge y hy
    have b : x ≠ y := fun e => hn (e ▸ List.mem_of_mem_drop hy)
    omega
  have hsplit := (List.take_append_drop n l) ▸ hp
  rw [List.pairwise_append] at hsplit
  refine asc_eq ?_ (withS_asc l x) (fun y => ?_)
  · rw [List.append_assoc, List.pairwise_append]
    refine ⟨hsplit.1, ?_, fun a ha b hb => ?_⟩
    · rw [List.singleton_append, List.pairwise_cons]
      exact ⟨hgt, hsplit.2.1⟩
    · rw [List.singleton_append] at hb
      rcases List.mem_cons.1 hb with e | e
      · exact e ▸ hlt a ha
      · have := hlt a ha; have := hgt b e; omega
  · rw [withS_mem (fun z hz => goodS_mem hg hz) hx]
    constructor
    · intro hy
      rcases List.mem_append.1 hy with hy | hy
      · rcases List.mem_append.1 hy with hy | hy
        · exact .inr (List.mem_of_mem_take hy)
        · exact .inl (List.mem_singleton.1 hy)
      · exact .inr (List.mem_of_mem_drop hy)
    · rintro (rfl | hy)
      · simp
      · rw [← List.take_append_drop n l] at hy
        rcases List.mem_append.1 hy with h | h
        · exact List.mem_append_left _ (List.mem_append_left _ h)
        · exact List.mem_append_right _ h
def outS (xs : List Int) (x : Int) : List Int := xs.filter fun y => decide (y ≠ x)
theorem outS_mem {xs : List Int} {x y : Int} : y ∈ outS xs x ↔ y ∈ xs ∧ y ≠ x := by unfold outS; rw [List.mem_filter]; simp
theorem outS_good {xs : List Int} {x : Int} (h : goodS xs = true) : goodS (outS xs x) = true :=
  goodS_of ((goodS_asc h).filter _) (fun y hy => goodS_mem h (outS_mem.1 hy).1)
theorem outS_length (xs : List Int) (x : Int) : (outS xs x).length ≤ xs.length := List.length_filter_le _ _
theorem take_out {l : List Int} {x : Int} {n : Nat} (hg : goodS l = true) (hm : x ∈ l) (h1 : ∀ i, i < n → rd l (i : Int) < x) (h2 : ∀ i, n ≤ i → i < l.length → x ≤ rd l (i : Int)) (hl : n ≤ l.length) : n < l.length ∧ rd l (n : Int) = x ∧ l.take n ++ l.drop (n + 1) = outS l x := by
  obtain ⟨q, hq, e⟩ := mem_rd hm
  have hqn : q = n := by
    rcases Nat.lt_trichotomy q n with h | h | h
    · have := h1 q h; omega
    · exact h
    · have a := h2 n (Nat.le_refl _) (by omega)
      have b := goodS_lt hg q n h hq
      omega
  subst hqn
  refine ⟨hq, e, ?_⟩
  have hp := goodS_asc hg
  have hd : l.drop q = x :: l.drop (q + 1) := by
    rw [List.drop_eq_getElem_cons hq, ← rd_elem hq, e]
  have hsplit := (List.take_append_drop q l) ▸ hp
  rw [hd, List.pairwise_append] at hsplit
  have hs2 := hsplit.2.1
  rw [List.pairwise_cons] at hs2
  refine asc_eq ?_ ((goodS_asc hg).filter _) (fun y => ?_)
  · rw [List.pairwise_append]
    exact ⟨hsplit.1, hs2.2, fun a ha b hb => hsplit.2.2 a ha b (List.mem_cons_of_mem _ hb)⟩
  · have hmem : y ∈ l ↔ y ∈ l.take q ∨ y = x ∨ y ∈ l.drop (q + 1) := by
      conv => lhs; rw [← List.take_append_drop q l, hd]
      rw [List.mem_append, List.mem_cons]
    show _ ↔ y ∈ outS l x
    rw [outS_mem, hmem, List.mem_append]
    constructor
    · rintro (h | h)
      · exact ⟨.inl h, by have := take_lt h1 y h; omega⟩
      · exact ⟨.inr (.inr h), by have := hs2.1 y h; omega⟩
    · rintro ⟨h | h | h, hne⟩
      · exact .inl h
      · exact absurd h hne
      · exact .inr h
theorem withS_length {l : List Int} {x : Int} (hg : goodS l = true) (hx : 0 ≤ x ∧ x < 256) (hn : x ∉ l) : (withS l x).length = l.length + 1 := by
  have key : ∃ n, n ≤ l.length ∧ (∀ i, i < n → rd l (i : Int) < x) ∧ (∀ i, n ≤ i → i < l.length → x ≤ rd l (i : Int)) := by
    have : ∀ m, m ≤ l.length → ∃ n, n ≤ m ∧ (∀ i, i < n → rd l (i : Int) < x) ∧ (∀ i, n ≤ i → i < m → x ≤ rd l (i : Int)) := by
      intro m
      induction m with
      | zero => exact fun _ => ⟨0, by omega, fun i hi => by omega, fun i _ hi => by omega⟩
      | succ m ih =>
        intro hm
        obtain ⟨n, a, b, c⟩ := ih (by omega)
        by_cases hlt : rd l (m : Int) < x
        · refine ⟨m + 1, by omega, fun i hi => ?_, fun i h1 h2 => by omega⟩
          by_cases e : i = m
          · subst e; exact hlt
          · have := goodS_lt hg m i (by omega) (by omega); omega
        · refine ⟨n, by omega, b, fun i h1 h2 => ?_⟩
          by_cases e : i = m
          · subst e; omega
          · exact c i h1 (by omega)
    exact this l.length (Nat.le_refl _)
  obtain ⟨n, a, b, c⟩ := key
  rw [← put_in hg hx hn b c]
  simp
  omega
abbrev TR := S111
def takeS (d u : List Int) (a : Int) (taps : List TR) (kd A B : Int) : Option (List Int × List Int × Int × List TR) :=
  if kd = 1 then (if 256 ≤ A ∨ A ∈ u ∨ A ∈ d then none else some (d, withS u A, a, taps ++ [⟨A, B⟩]))
  else if kd = 2 then (if B = 1 ∧ A < 256 ∧ A ∉ d ∧ d.length < 16 then some (withS d A, u, a, taps) else if B = 0 ∧ A ∈ d then some (outS d A, u, a, taps) else none)
  else if kd = 3 then (if B ≠ 0 ∨ (u.length : Int) < A then none else if a < A then some (d, u, A, taps.drop (A - a).toNat) else some (d, u, a, taps))
  else none
theorem taps_iff {u : List Int} {taps : List TR} : (List.range taps.length).all (tapOk u taps) = true ↔ (∀ t ∈ taps, t.f0 ∈ u ∧ 0 ≤ t.f1 ∧ t.f1 ≤ 4294967295) ∧ taps.Pairwise (fun s t => s.f0 ≠ t.f0) := by
  have hrd : ∀ (i : Nat) (hi : i < taps.length), rd_T111 taps (i : Int) = taps[i] := fun i hi => rdOf_at (List.getElem?_eq_getElem hi)
  rw [List.all_eq_true]
  constructor
  · intro h
    have hk : ∀ i (hi : i < taps.length), (taps[i].f0 ∈ u ∧ 0 ≤ taps[i].f1 ∧ taps[i].f1 ≤ 4294967295) ∧ ∀ j (hj : j < i), (taps[j]'(by omega)).f0 ≠ taps[i].f0 := by
      intro i hi
      have h1 := h i (List.mem_range.2 hi)
      unfold tapOk at h1
      simp only [Bool.and_eq_true, decide_eq_true_eq, List.all_eq_true] at h1
      obtain ⟨⟨⟨h1, h2⟩, h3⟩, h4⟩ := h1
      rw [hrd i hi] at h1 h3 h4
      refine ⟨⟨h1, h3, h4⟩, fun j hj => ?_⟩
      have := h2 j (List.mem_range.2 hj)
      rwa [hrd i hi, hrd j (by omega)] at this
    refine ⟨fun t ht => ?_, ?_⟩
    · obtain ⟨i, hi, rfl⟩ := List.mem_iff_getElem.1 ht
      exact (hk i hi).1
    · rw [List.pairwise_iff_getElem]
      exact fun i j hi hj hij => (hk j hj).2 i hij
  · rintro ⟨h1, h2⟩ i hi
    have hi := List.mem_range.1 hi
    unfold tapOk
    rw [hrd i hi]
    obtain ⟨a, b, c⟩ := h1 _ (List.getElem_mem hi)
    rw [decide_eq_true a, decide_eq_true b, decide_eq_true c, Bool.and_true, Bool.and_true, Bool.true_and, List.all_eq_true]
    intro j hj
    have hj := List.mem_range.1 hj
    rw [hrd j (by omega)]
    exact decide_eq_true ((List.pairwise_iff_getElem.1 h2) j i (by omega) hi hj)
theorem validS_iff {d u : List Int} {a : Int} {taps : List TR} : validS d u a taps = true ↔ goodS d = true ∧ d.length ≤ 16 ∧ goodS u = true ∧ 0 ≤ a ∧ a = (u.length : Int) - taps.length ∧ (∀ t ∈ taps, t.f0 ∈ u ∧ 0 ≤ t.f1 ∧ t.f1 ≤ 4294967295) ∧ taps.Pairwise (fun s t => s.f0 ≠ t.f0) := by
  unfold validS
  simp only [Bool.and_eq_true, decide_eq_true_eq, taps_iff]
  constructor
  · rintro ⟨⟨⟨⟨⟨h1, h2⟩, h3⟩, h4⟩, h5⟩, h6, h7⟩
    exact ⟨h1, h2, h3, h4, h5, h6, h7⟩
  · rintro ⟨h1, h2, h3, h4, h5, h6, h7⟩
    exact ⟨⟨⟨⟨⟨h1, h2⟩, h3⟩, h4⟩, h5⟩, h6, h7⟩
theorem takeS_valid {d u : List Int} {a : Int} {taps : List TR} {kd A B : Int} {d' u' : List Int} {a' : Int} {taps' : List TR} (hv : validS d u a taps = true) (hA : 0 ≤ A) (hB : 0 ≤ B ∧ B ≤ 4294967295) (h : takeS d u a taps kd A B = some (d', u', a', taps')) : validS d' u' a' taps' = true := by
  obtain ⟨h1, h2, h3, h4, h5, h6, h7⟩ := validS_iff.1 hv
  unfold takeS at h
  by_cases k1 : kd = 1
  · rw [if_pos k1] at h
    by_cases c : 256 ≤ A ∨ A ∈ u ∨ A ∈ d
    · rw [if_pos c] at h; cases h
    · rw [if_neg c] at h
      simp only [not_or] at c
      obtain ⟨c1, c2, c3⟩ := c
      simp only [Option.some.injEq, Prod.mk.injEq] at h
      obtain ⟨rfl, rfl, rfl, rfl⟩ := h
      have hx : 0 ≤ A ∧ A < 256 := ⟨hA, by omega⟩
      have hm : ∀ y, y ∈ withS u A ↔ y = A ∨ y ∈ u := fun y => withS_mem (fun z hz => goodS_mem h3 hz) hx
      refine validS_iff.2 ⟨h1, h2, withS_good h3 hx, h4, ?_, ?_, ?_⟩
      · rw [withS_length h3 hx c2, List.length_append, List.length_singleton]; omega
      · intro t ht
        rcases List.mem_append.1 ht with ht | ht
        · exact ⟨(hm _).2 (.inr (h6 t ht).1), (h6 t ht).2⟩
        · rw [List.mem_singleton] at ht
          subst ht
          exact ⟨(hm _).2 (.inl rfl), hB⟩
      · rw [List.pairwise_append]
        refine ⟨h7, List.pairwise_singleton _ _, fun s hs t ht => ?_⟩
        rw [List.mem_singleton] at ht
        subst ht
        exact fun e => c2 (by have h := (h6 s hs).1; rw [e] at h; exact h)
  rw [if_neg k1] at h
  by_cases k2 : kd = 2
  · rw [if_pos k2] at h
    by_cases c : B = 1 ∧ A < 256 ∧ A ∉ d ∧ d.length < 16
    · rw [if_pos c] at h
      simp only [Option.some.injEq, Prod.mk.injEq] at h
      obtain ⟨rfl, rfl, rfl, rfl⟩ := h
      exact validS_iff.2 ⟨withS_good h1 ⟨hA, c.2.1⟩, by rw [withS_length h1 ⟨hA, c.2.1⟩ c.2.2.1]; omega, h3, h4, h5, h6, h7⟩
    · rw [if_neg c] at h
      by_cases c2 : B = 0 ∧ A ∈ d
      · rw [if_pos c2] at h
        simp only [Option.some.injEq, Prod.mk.injEq] at h
        obtain ⟨rfl, rfl, rfl, rfl⟩ := h
        exact validS_iff.2 ⟨outS_good h1, Nat.le_trans (outS_length _ _) h2, h3, h4, h5, h6, h7⟩
      · rw [if_neg c2] at h; cases h
  rw [if_neg k2] at h
  by_cases k3 : kd = 3
  · rw [if_pos k3] at h
    by_cases c : B ≠ 0 ∨ (u.length : Int) < A
    · rw [if_pos c] at h; cases h
    · rw [if_neg c] at h
      by_cases c2 : a < A
      · rw [if_pos c2] at h
        simp only [Option.some.injEq, Prod.mk.injEq] at h
        obtain ⟨rfl, rfl, rfl, rfl⟩ := h
        simp only [not_or] at c
        refine validS_iff.2 ⟨h1, h2, h3, hA, ?_, fun t ht => h6 t (List.mem_of_mem_drop ht), ?_⟩
        · rw [List.length_drop]; omega
        · exact h7.sublist (List.drop_sublist _ _)
      · rw [if_neg c2] at h
        simp only [Option.some.injEq, Prod.mk.injEq] at h
        obtain ⟨rfl, rfl, rfl, rfl⟩ := h
        exact hv
  · rw [if_neg k3] at h; cases h
end Go.Proofs.Ytgfadfahbhcllaa.P
end
section
namespace Go.Proofs.Ytgfadfahbhcllaa.Q
open Go.RowKit Go.Proofs.YtgfadfahbhcllaaW.PrintWords Go.Proofs.YtgfadfahbhcllaaW.PrintLast Go.Proofs.YtgfadfahbhcllaaW.PrintMore Go.Proofs.Ytgfadfahbhcllaa.LK
set_option linter.unusedVariables false
set_option linter.unusedSimpArgs false
section
variable {P : Program} {ops : Array Oper} {rest : List Oper} {o : Oper} {a : Act} {Q : Exit → Act → World → Prop} {W : World}
theorem mkSl {N : Tmp} {cs : Array Value} {t n : Nat} (hw : Region.wanted o (yielded ops a.tmps) = true) (_hd : o.dst = some N)
    (hrun : (execOp a.eval o).run P W = .ok (.value (.slice (some ⟨W.heap.size, 0, none⟩) n n)) (W.alloc (.cells cs t (0, 0))))
    (h : ∀ g, g = W.heap.size → ∀ w1, w1.heap[g]? = some (.cells cs t (0, 0)) → Below W.heap.size W w1 → wpList P ops Q rest (a.put o.dst (.slice (some ⟨g, 0, none⟩) n n)) w1) : wpList P ops Q (o :: rest) a W := by
  refine wants hw fun K hK => ?_
  unfold Oper.wp
  rw [hrun]
  exact hK _ _ (h _ rfl _ (blk_new W _) (below_alloc (Below.refl _ _) _))
end
set_option maxHeartbeats 4000000 in
set_option maxRecDepth 100000 in
theorem with_calls {w : World} {A : Option Addr} {c : Nat} {xs : List Int} {x : Int} (hr : Kd.C (Kd.int .i64) w A xs.length xs) (hc : xs.length ≤ c) (hg : P.goodS xs = true) (hx : 0 ≤ x ∧ x < 256) (hn : x ∉ xs) :
    Calls Try.prog 103 #[.slice A xs.length c, .int .i64 x] w fun e w' => ∃ v : Value, e = .returned v ∧ Kd.R (Kd.int .i64) 2 w' w.heap.size (fun _ => True) v (P.withS xs x) ∧ Below w.heap.size w w' := by
  have hl := P.goodS_length hg
  obtain ⟨at_, a1, a2, a3, a4⟩ := P.search_ev xs x hg (Nat.le_trans hl (by decide))
  obtain ⟨ks, hks⟩ := a4.ex
  have HP := Aside0.mk (P.put_in hg hx hn a2 a3)
  have HAt := Aside0.mk a1
  have HK := Aside0.mk hks
  have HR := Aside0.mk hr
  have HC := Aside0.mk hc
  have HL := Aside0.mk hl
  have jw : IntKind.i64.wrap ((at_ : Int) + 1) = (at_ : Int) + 1 := by rw [IntKind.wrap_i64]; omega
  clear hr hc hg a1 a2 a3 a4 hks hl
  go_enter Try.func103, Try.ntmps103
  go_wp2_with (first | ((with_reducible refine gate_callee (f := 101) rfl ?_); refine Aside0.out ?_))
  refine Aside0.mk ?_
  refine goesW (some 10) rfl ?hw1 Try.func101 (by kernel_rfl) rfl #[.slice A xs.length c, .int .i64 x] rfl (by (try simp only [List.map_toArray, List.map_cons, List.map_nil]); first | done | rfl) ?_
  case hw1 => rfl
  refine (slices_BinarySearch_int64_int64.calls ks _ _ xs x _ _ _ HR.out HC.out HK.out).mono ?_
  rintro e w1 ⟨rfl, hd_⟩
  refine ⟨_, rfl, ?_⟩
  have HB1 := Aside0.mk hd_.below
  clear hd_
  go_wp2_with (first | ((with_reducible refine gate_callee (f := 99) rfl ?_); refine Aside0.out ?_))
  refine Aside0.mk ?_
  refine goesW (some 14) rfl ?hw2 Try.func99 (by kernel_rfl) rfl #[.slice A xs.length c] rfl (by (try simp only [List.map_toArray, List.map_cons, List.map_nil]); first | done | rfl) ?_
  case hw2 => rfl
  refine (slices_Clone_int64_int64.calls _ _ xs xs _ (Kd.C_below HR.out HB1.out) HC.out (if_pos (Nat.le_trans HL.out (by decide)))).mono ?_
  rintro e w2 ⟨v, rfl, ho_, hb_⟩
  refine ⟨_, rfl, ?_⟩
  have HO := Aside0.mk ho_
  have HB2 := Aside0.mk (below_step HB1.out hb_)
  have HSz := Aside0.mk HB1.out.size
  clear ho_ hb_
  obtain ⟨A2, c2, e2⟩ := Kd.R_slice HO.out
  subst e2
  go_wp2_with (first | ((with_reducible refine gate_dst (N := 17) rfl ?_); refine Aside0.out ?_))
  refine Aside0.mk ?_
  refine mkSl (N := 17) (cs := #[.int .i64 x]) (t := 2) (n := 1) ?hw3 ?hd3 ?hr3 ?_
  case hd3 => rfl
  case hw3 => rfl
  case hr3 => first | (go_simp; done) | (go_simp; rfl)
  intro g hg_ w3 hbox hb_
  have HBox := Aside0.mk hbox
  have HO3 := Aside0.mk (Kd.R_below HO.out hb_)
  have HB3 := Aside0.mk (below_step HB2.out hb_)
  have HNe := Aside0.mk (show some g ≠ (Value.slice A2 xs.length c2).ownBlock from fun e => by have := Kd.R_lt HO.out g e.symm; omega)
  have HB3s := Aside0.mk hb_.size
  clear hg_ hbox hb_
  go_wp2_with (first | ((with_reducible refine gate_callee (f := 109) rfl ?_); refine Aside0.out ?_))
  refine Aside0.mk ?_
  refine goesW (some 18) rfl ?hw4 Try.func109 (by kernel_rfl) rfl #[.slice A2 xs.length c2, .int .i64 (at_ : Int), .slice (some ⟨g, 0, none⟩) 1 1] rfl (by (try simp only [List.map_toArray, List.map_cons, List.map_nil]); first | done | rfl) ?_
  case hw4 => rfl
  refine (insert_calls HB3.out.size (Kd.R_lower HO3.out HSz.out) HBox.out HNe.out (Nat.le_trans HL.out (by decide)) HAt.out).mono ?_
  rintro e w4 ⟨v4, rfl, hr4, hs4⟩
  refine ⟨_, rfl, ?_⟩
  rw [HP.out] at hr4
  have HR4 := Aside0.mk hr4
  have HB4 := Aside0.mk (below_stp HB3.out hs4 (fun k hk => Nat.le_trans HSz.out (Kd.R_base HO.out k hk.symm)))
  clear hr4 hs4
  go_wp2
  go_ret
  exact ⟨_, rfl, HR4.out, HB4.out⟩
set_option maxHeartbeats 4000000 in
set_option maxRecDepth 100000 in
theorem without_calls {w : World} {A : Option Addr} {c : Nat} {xs : List Int} {x : Int} (hr : Kd.C (Kd.int .i64) w A xs.length xs) (hc : xs.length ≤ c) (hg : P.goodS xs = true) (hm : x ∈ xs) :
    Calls Try.prog 104 #[.slice A xs.length c, .int .i64 x] w fun e w' => ∃ v : Value, e = .returned v ∧ Kd.R (Kd.int .i64) 2 w' w.heap.size (fun _ => True) v (P.outS xs x) ∧ Below w.heap.size w w' := by
  have hl := P.goodS_length hg
  obtain ⟨at_, a1, a2, a3, a4⟩ := P.search_ev xs x hg (Nat.le_trans hl (by decide))
  obtain ⟨ks, hks⟩ := a4.ex
  obtain ⟨hlt, -, hout⟩ := P.take_out hg hm a2 a3 a1
  have HLt := Aside0.mk hlt
  have HP := Aside0.mk hout
  clear hlt hout
  have HAt := Aside0.mk a1
  have HK := Aside0.mk hks
  have HR := Aside0.mk hr
  have HC := Aside0.mk hc
  have HL := Aside0.mk hl
  have jw : IntKind.i64.wrap ((at_ : Int) + 1) = (at_ : Int) + 1 := by rw [IntKind.wrap_i64]; omega
  clear hr hc hg a1 a2 a3 a4 hks hl
  go_enter Try.func104, Try.ntmps104
  go_wp2_with (first | ((with_reducible refine gate_callee (f := 101) rfl ?_); refine Aside0.out ?_))
  refine Aside0.mk ?_
  refine goesW (some 10) rfl ?hw1 Try.func101 (by kernel_rfl) rfl #[.slice A xs.length c, .int .i64 x] rfl (by (try simp only [List.map_toArray, List.map_cons, List.map_nil]); first | done | rfl) ?_
  case hw1 => rfl
  refine (slices_BinarySearch_int64_int64.calls ks _ _ xs x _ _ _ HR.out HC.out HK.out).mono ?_
  rintro e w1 ⟨rfl, hd_⟩
  refine ⟨_, rfl, ?_⟩
  have HB1 := Aside0.mk hd_.below
  clear hd_
  go_wp2_with (first | ((with_reducible refine gate_callee (f := 99) rfl ?_); refine Aside0.out ?_))
  refine Aside0.mk ?_
  refine goesW (some 14) rfl ?hw2 Try.func99 (by kernel_rfl) rfl #[.slice A xs.length c] rfl (by (try simp only [List.map_toArray, List.map_cons, List.map_nil]); first | done | rfl) ?_
  case hw2 => rfl
  refine (slices_Clone_int64_int64.calls _ _ xs xs _ (Kd.C_below HR.out HB1.out) HC.out (if_pos (Nat.le_trans HL.out (by decide)))).mono ?_
  rintro e w2 ⟨v, rfl, ho_, hb_⟩
  refine ⟨_, rfl, ?_⟩
  have HO := Aside0.mk ho_
  have HB2 := Aside0.mk (below_step HB1.out hb_)
  have HSz := Aside0.mk HB1.out.size
  clear ho_ hb_
  obtain ⟨A2, c2, e2⟩ := Kd.R_slice HO.out
  subst e2
  go_wp2_with (first | ((with_reducible refine gate_callee (f := 110) rfl ?_); refine Aside0.out ?_))
  refine Aside0.mk ?_
  refine goesW (some 18) rfl ?hw4 Try.func110 (by kernel_rfl) rfl #[.slice A2 xs.length c2, .int .i64 (at_ : Int), .int .i64 ((at_ : Int) + 1)] rfl (by (try simp only [List.map_toArray, List.map_cons, List.map_nil]); first | done | rfl) ?_
  case hw4 => rfl
  refine (delete_calls HB2.out.size (Kd.R_lower HO.out HSz.out) (Nat.le_trans HL.out (by decide)) HLt.out).mono ?_
  rintro e w4 ⟨v4, rfl, hr4, hs4⟩
  refine ⟨_, rfl, ?_⟩
  rw [HP.out] at hr4
  have HR4 := Aside0.mk hr4
  have HB4 := Aside0.mk (below_stp HB2.out hs4 (fun k hk => Nat.le_trans HSz.out (Kd.R_base HO.out k hk.symm)))
  clear hr4 hs4
  go_wp2
  go_ret
  exact ⟨_, rfl, HR4.out, HB4.out⟩
end Go.Proofs.Ytgfadfahbhcllaa.Q
end
section
namespace Go.Proofs.Ytgfadfahbhcllaa.Q
open Go.RowKit Go.Proofs.YtgfadfahbhcllaaW.PrintWords Go.Proofs.YtgfadfahbhcllaaW.PrintLast Go.Proofs.Ytgfadfahbhcllaa.LK Go.Proofs.YtgfadfahbhcllaaW.PrintMore
attribute [local go_sem] max2_int min2_int max_two min_two max_three min_three max_four min_four
set_option linter.unusedVariables false
set_option linter.unusedSimpArgs false
def impl_has.f (k : Nat) (l0 : List Int) (a1 : Int) : Option (Bool) := (slices_BinarySearch_int64_int64.f k l0 a1).bind fun bt101 => (some bt101.2)
set_option maxHeartbeats 8000000 in
set_option maxRecDepth 100000 in
theorem impl_has.calls (k : Nat) (A0 : Option Addr) (c0 : Nat) (l0 : List Int) (a1 : Int) (r : Bool) (w : World) (hr0 : Kd.C (Kd.int .i64) w A0 l0.length l0) (hc0 : l0.length ≤ c0) (h : impl_has.f k l0 a1 = some r) :
    Calls Try.prog 102 #[.slice A0 l0.length c0, .int .i64 a1] w fun e w' => e = .returned (.bool r) ∧ Drawn0 w w' := by
  have HR0 := Aside0.mk hr0
  have HC0 := Aside0.mk hc0
  clear hr0 hc0
  have H : ((slices_BinarySearch_int64_int64.f k l0 a1).bind fun bt101 => (some bt101.2)) = some r := h
  clear h
  replace H := Option.bind_eq_some_iff.mp H
  obtain ⟨⟨t101, t102⟩, A30, H⟩ := H
  replace H : (some t102) = some r := H
  have A3 := Aside0.mk A30
  clear A30
  obtain rfl := Option.some.inj H
  go_enter Try.func102, Try.ntmps102
  go_wp2_with (first | ((with_reducible refine gate_callee (f := 101) rfl ?_); refine goesL_ (some 10) rfl rfl Try.func101 (by kernel_rfl) rfl #[.slice A0 l0.length c0, .int .i64 a1] rfl (by (try simp only [List.map_toArray, List.map_cons, List.map_nil]); first | done | rfl | (simp only [List.length_drop, List.length_take]; rfl)) ?_; (with_reducible refine (slices_BinarySearch_int64_int64.calls k _ _ l0 a1 t101 t102 _ ?side1 ?side2 A3.out).mono ?_); (case side1 => repeat (first | exact HR0.out | (with_reducible refine Kd.C_alloc ?_ _) | (with_reducible refine Kd.C_drewN ?_ _) | (with_reducible refine Kd.C_drew ?_))); (case side2 => exact HC0.out); rintro e w' ⟨rfl, ⟨nd, rfl⟩⟩; refine ⟨_, rfl, ?_⟩))
  go_ret
  exact ⟨by first | rfl | (simp; done) | (simp [*]; done), by repeat (first | exact Drawn0.refl _ | apply Drawn0.step)⟩
end Go.Proofs.Ytgfadfahbhcllaa.Q
end
section
namespace Go.Proofs.Ytgfadfahbhcllaa.Q
open Go.RowKit Go.Proofs.YtgfadfahbhcllaaW.PrintWords Go.Proofs.YtgfadfahbhcllaaW.PrintLast Go.Proofs.Ytgfadfahbhcllaa.LK Go.Proofs.YtgfadfahbhcllaaW.PrintMore
attribute [local go_sem] max2_int min2_int max_two min_two max_three min_three max_four min_four
set_option linter.unusedVariables false
set_option linter.unusedSimpArgs false
end Go.Proofs.Ytgfadfahbhcllaa.Q
end
section
namespace Go.Proofs.Ytgfadfahbhcllaa.Q
open Go.RowKit Go.Proofs.YtgfadfahbhcllaaW.PrintWords Go.Proofs.YtgfadfahbhcllaaW.PrintLast Go.Proofs.Ytgfadfahbhcllaa.LK Go.Proofs.YtgfadfahbhcllaaW.PrintMore
attribute [local go_sem] max2_int min2_int max_two min_two max_three min_three max_four min_four
set_option linter.unusedVariables false
set_option linter.unusedSimpArgs false
end Go.Proofs.Ytgfadfahbhcllaa.Q
end
section
namespace Go.Proofs.Ytgfadfahbhcllaa.Q
open Go.RowKit Go.Proofs.YtgfadfahbhcllaaW.PrintWords Go.Proofs.YtgfadfahbhcllaaW.PrintLast Go.Proofs.Ytgfadfahbhcllaa.LK Go.Proofs.YtgfadfahbhcllaaW.PrintMore
attribute [local go_sem] max2_int min2_int max_two min_two max_three min_three max_four min_four
set_option linter.unusedVariables false
set_option linter.unusedSimpArgs false
end Go.Proofs.Ytgfadfahbhcllaa.Q
end
section
namespace Go.Proofs.Ytgfadfahbhcllaa.Q
open Go.RowKit Go.Proofs.YtgfadfahbhcllaaW.PrintWords Go.Proofs.YtgfadfahbhcllaaW.PrintLast Go.Proofs.Ytgfadfahbhcllaa.LK Go.Proofs.YtgfadfahbhcllaaW.PrintMore
attribute [local go_sem] max2_int min2_int max_two min_two max_three min_three max_four min_four
set_option linter.unusedVariables false
set_option linter.unusedSimpArgs false
end Go.Proofs.Ytgfadfahbhcllaa.Q
end
section
namespace Go.Proofs.Ytgfadfahbhcllaa.Q
open Go.RowKit Go.Proofs.YtgfadfahbhcllaaW.PrintWords Go.Proofs.YtgfadfahbhcllaaW.PrintLast Go.Proofs.Ytgfadfahbhcllaa.LK Go.Proofs.YtgfadfahbhcllaaW.PrintMore
attribute [local go_sem] max2_int min2_int max_two min_two max_three min_three max_four min_four
set_option linter.unusedVariables false
set_option linter.unusedSimpArgs false
end Go.Proofs.Ytgfadfahbhcllaa.Q
end
section
namespace Go.Proofs.Ytgfadfahbhcllaa.Q
open Go.RowKit Go.Proofs.YtgfadfahbhcllaaW.PrintWords Go.Proofs.YtgfadfahbhcllaaW.PrintLast Go.Proofs.Ytgfadfahbhcllaa.LK Go.Proofs.YtgfadfahbhcllaaW.PrintMore
attribute [local go_sem] max2_int min2_int max_two min_two max_three min_three max_four min_four
set_option linter.unusedVariables false
set_option linter.unusedSimpArgs false
end Go.Proofs.Ytgfadfahbhcllaa.Q
end
section
namespace Go.Proofs.Ytgfadfahbhcllaa.P
open Go.RowKit Go.Proofs.YtgfadfahbhcllaaW.PrintWords Go.Proofs.Ytgfadfahbhcllaa.Q
set_option linter.unusedVariables false
set_option linter.unusedSimpArgs false
def U8s (l : List Int) : Prop := ∀ z ∈ l, 0 ≤ z ∧ z ≤ 255
theorem U8s.drop {l : List Int} (h : U8s l) (n : Nat) : U8s (l.drop n) := fun z hz => h z (List.mem_of_mem_drop hz)
theorem U8s.take {l : List Int} (h : U8s l) (n : Nat) : U8s (l.take n) := fun z hz => h z (List.mem_of_mem_take hz)
theorem U8s.at_ {l : List Int} (h : U8s l) {i : Nat} {b : Int} (hb : l[i]? = some b) : 0 ≤ b ∧ b ≤ 255 := h b (List.mem_of_getElem? hb)
end Go.Proofs.Ytgfadfahbhcllaa.P
end
section
namespace Go.Proofs.Ytgfadfahbhcllaa.Q
open Go.RowKit Go.Proofs.YtgfadfahbhcllaaW.PrintWords Go.Proofs.YtgfadfahbhcllaaW.PrintLast Go.Proofs.Ytgfadfahbhcllaa.LK Go.Proofs.YtgfadfahbhcllaaW.PrintMore
attribute [local go_sem] max2_int min2_int max_two min_two max_three min_three max_four min_four
set_option linter.unusedVariables false
set_option linter.unusedSimpArgs false
end Go.Proofs.Ytgfadfahbhcllaa.Q
end
section
namespace Go.Proofs.Ytgfadfahbhcllaa.P
open Go.RowKit Go.Proofs.YtgfadfahbhcllaaW.PrintWords Go.Proofs.YtgfadfahbhcllaaW.PrintMore Go.Proofs.Ytgfadfahbhcllaa.Q
set_option linter.unusedVariables false
set_option maxRecDepth 100000
set_option linter.unusedSimpArgs false
def ats (i : Nat) : Nat := [0, 60, 64, 124].getD i 0
end Go.Proofs.Ytgfadfahbhcllaa.P
end
section
namespace Go.Proofs.Ytgfadfahbhcllaa.Q
open Go.RowKit Go.Proofs.YtgfadfahbhcllaaW.PrintWords Go.Proofs.YtgfadfahbhcllaaW.PrintLast Go.Proofs.Ytgfadfahbhcllaa.LK Go.Proofs.YtgfadfahbhcllaaW.PrintMore
attribute [local go_sem] max2_int min2_int max_two min_two max_three min_three max_four min_four
set_option linter.unusedVariables false
set_option linter.unusedSimpArgs false
end Go.Proofs.Ytgfadfahbhcllaa.Q
end
section
namespace Go.Proofs.Ytgfadfahbhcllaa.Q
open Go.RowKit Go.Proofs.YtgfadfahbhcllaaW.PrintWords Go.Proofs.YtgfadfahbhcllaaW.PrintLast Go.Proofs.YtgfadfahbhcllaaW.PrintMore Go.Proofs.Ytgfadfahbhcllaa.LK
set_option linter.unusedVariables false
set_option linter.unusedSimpArgs false
section
variable {P : Program} {ops : Array Oper} {rest : List Oper} {o : Oper} {a : Act} {Q : Exit → Act → World → Prop} {K : Act → World → Prop} {W : World}
theorem st_part_step {T g o' t : Nat} {p x : Operand} {cur : Array Value} {u : Value} {seg : List Value} (hw : Region.wanted o (yielded ops a.tmps) = true) (hN : o.dst = none) (ho : o.op = .store T p x)
    (hp : a.eval p = .pointer (some ⟨g, o', none⟩)) (hx : a.eval x = u) (hu : u.cells.toList = seg) (hh : W.heap[g]? = some (.cells cur t (0, 0))) (ht : (P.info? T).map (·.size) = some seg.length)
    (hfit : o' + seg.length ≤ cur.size) (h1 : ∀ q ∈ seg, q.oneCell' = true)
    (h : ∀ w1, w1.heap[g]? = some (.cells (cur.toList.take o' ++ seg ++ cur.toList.drop (o' + seg.length)).toArray t (0, 0)) → Stp (fun k => k = g) W w1 → K a w1) : if Region.wanted o (yielded ops a.tmps) = true then Oper.wp P o a W K Q else K (a.put none undef) W := by
  rw [if_pos hw]
  obtain ⟨cur', h3, _, h5⟩ := setCells_row seg o' W cur hh hfit
  obtain ⟨s1, s2, s3, s4⟩ := setCells_same g seg o' W
  unfold Oper.wp execOp
  simp only [ho, hp, hx, Sem.run_bind, Sem.run_pure, Result.andThen_ok, run_store_run T u seg hh hu ht hfit h1]
  show K (a.put o.dst undef) _
  rw [hN]
  refine h _ ?_ ⟨s1, s2, s3, Nat.le_of_eq s4.symm, fun i _ hi => setCells_far seg o' i hi⟩
  rw [← h5]
  exact h3
end
structure SnapOk (g t : Int) (xs u : List Int) : Prop where
  g : 0 ≤ g ∧ g ≤ 4294967295
  t : 0 ≤ t ∧ t ≤ 4294967295
  xs : P.goodS xs = true ∧ xs.length ≤ 16
  u : P.goodS u = true ∧ u.length ≤ 256
end Go.Proofs.Ytgfadfahbhcllaa.Q
end
section
namespace Go.Proofs.Ytgfadfahbhcllaa.P
open Go.RowKit Go.Proofs.YtgfadfahbhcllaaW.PrintWords Go.Proofs.YtgfadfahbhcllaaW.PrintMore Go.Proofs.Ytgfadfahbhcllaa.Q
theorem has_ev (l : List Int) (x : Int) (hg : goodS l = true) : Ev (fun k => impl_has.f k l x) (decide (x ∈ l)) := by
  obtain ⟨at_, -, -, -, h⟩ := search_ev l x hg (Nat.le_trans (goodS_length hg) (by decide))
  simp only [impl_has.f]
  exact Ev.bind h (Ev.const rfl)
end Go.Proofs.Ytgfadfahbhcllaa.P
namespace Go.Proofs.Ytgfadfahbhcllaa.Q
open Go.RowKit Go.Proofs.YtgfadfahbhcllaaW.PrintWords Go.Proofs.YtgfadfahbhcllaaW.PrintLast Go.Proofs.YtgfadfahbhcllaaW.PrintMore Go.Proofs.Ytgfadfahbhcllaa.LK
set_option linter.unusedVariables false
set_option linter.unusedSimpArgs false
structure St (w : World) (b : Nat) (v0 v1 v3 : Value) (d u : List Int) (t : List P.TR) : Prop where
  d : Kd.R (Kd.int .i64) 2 w b (fun k => some k ≠ v1.ownBlock) v0 d
  u : Kd.R (Kd.int .i64) 2 w b (fun k => some k ≠ v0.ownBlock) v1 u
  t : Kd.R k111 111 w b (fun _ => True) v3 t
section
variable {w w' : World} {b : Nat} {v0 v1 v3 v0' v1' v3' : Value} {d u d' u' : List Int} {t t' : List P.TR}
theorem St.below (h : St w b v0 v1 v3 d u t) (hb : Below w.heap.size w w') : St w' b v0 v1 v3 d u t := ⟨Kd.R_below h.d hb, Kd.R_below h.u hb, Kd.R_below h.t hb⟩
theorem St.other {g T : Nat} {cs : Array Value} (h : St w b v0 v1 v3 d u t) (hb : w.heap[g]? = some (.cells cs T (0, 0))) (ht : ∀ q, q ∈ [2, 111] → q ≠ T) (hs : Stp (fun k => k = g) w w') : St w' b v0 v1 v3 d u t :=
  ⟨R_other h.d hb (fun q hq => ht q (by rcases List.mem_cons.1 hq with rfl | hq; exact List.mem_cons_self; cases hq)) hs, R_other h.u hb (fun q hq => ht q (by rcases List.mem_cons.1 hq with rfl | hq; exact List.mem_cons_self; cases hq)) hs, R_other h.t hb (fun q hq => ht q (by rcases List.mem_cons.1 hq with rfl | hq; exact List.mem_cons_of_mem _ List.mem_cons_self; cases hq)) hs⟩
theorem St.newU (h : St w b v0 v1 v3 d u t) (hw : b ≤ w.heap.size) (hr : Kd.R (Kd.int .i64) 2 w' w.heap.size (fun _ => True) v1' u') (hb : Below w.heap.size w w') : St w' b v0 v1' v3 d u' t :=
  ⟨Kd.R_mono (Kd.R_elder h.d hr hb) (fun _ hk => hk.2), Kd.R_mono (Kd.R_lower (Kd.R_newR hr h.d) hw) (fun _ hk => hk.2), Kd.R_below h.t hb⟩
theorem St.newD (h : St w b v0 v1 v3 d u t) (hw : b ≤ w.heap.size) (hr : Kd.R (Kd.int .i64) 2 w' w.heap.size (fun _ => True) v0' d') (hb : Below w.heap.size w w') : St w' b v0' v1 v3 d' u t :=
  ⟨Kd.R_mono (Kd.R_lower (Kd.R_newR hr h.u) hw) (fun _ hk => hk.2), Kd.R_mono (Kd.R_elder h.u hr hb) (fun _ hk => hk.2), Kd.R_below h.t hb⟩
theorem St.newT (h : St w b v0 v1 v3 d u t) (hw : b ≤ w.heap.size) (hr : Kd.R k111 111 w' w.heap.size (fun _ => True) v3' t') (hb : Below w.heap.size w w') : St w' b v0 v1 v3' d u t' :=
  ⟨Kd.R_below h.d hb, Kd.R_below h.u hb, Kd.R_lower hr hw⟩
theorem St.onT (h : St w b v0 v1 v3 d u t) (hr : Kd.R k111 111 w' b (fun _ => True) v3' t') (hg : w.grownBy w' v3.ownBlock) : St w' b v0 v1 v3' d u t' :=
  ⟨Kd.R_over h.d h.t (by decide) hg, Kd.R_over h.u h.t (by decide) hg, hr⟩
end
def Fresh (n : Nat) (v v' : Value) : Prop := ∀ k, v'.ownBlock = some k → v.ownBlock = some k ∨ n ≤ k
set_option maxHeartbeats 8000000 in
set_option maxRecDepth 100000 in
theorem take_state {w : World} {b g : Nat} {v0 v1 v3 : Value} {d u : List Int} {a : Int} {t : List P.TR} {q kd A B : Int} (hb : b ≤ w.heap.size) (hg : b ≤ g) (hG : w.heap[g]? = some (.cells #[v0, v1, .int .i64 a, v3] 62 (0, 0))) (hS : St w b v0 v1 v3 d u t) (hv : P.validS d u a t = true) (hA : 0 ≤ A ∧ A ≤ 4294967295) (hB : 0 ≤ B ∧ B ≤ 4294967295) :
    Calls Try.prog 84 #[.pointer (some ⟨g, 0, none⟩), .agg #[.int .u32 q, .int .i64 kd, .int .u32 A, .int .u32 B]] w fun e w' => ∃ v0' v1' v3' : Value, e = .returned (.bool (P.takeS d u a t kd A B).isSome) ∧ w'.heap[g]? = some (.cells #[v0', v1', .int .i64 ((P.takeS d u a t kd A B).getD (d, u, a, t)).2.2.1, v3'] 62 (0, 0)) ∧ St w' b v0' v1' v3' ((P.takeS d u a t kd A B).getD (d, u, a, t)).1 ((P.takeS d u a t kd A B).getD (d, u, a, t)).2.1 ((P.takeS d u a t kd A B).getD (d, u, a, t)).2.2.2 ∧ Fresh w.heap.size v0 v0' ∧ Fresh w.heap.size v1 v1' ∧ Fresh w.heap.size v3 v3' ∧ Stp (fun k => k = g ∨ some k = v3.ownBlock) w w' := by
  obtain ⟨r, hr⟩ : ∃ r, r = P.takeS d u a t kd A B := ⟨_, rfl⟩
  rw [← hr]
  have HR := Aside0.mk hr
  have HV := Aside0.mk hv
  have HA := Aside0.mk hA
  have HB_ := Aside0.mk hB
  obtain ⟨A0, c0, e0⟩ := Kd.R_slice hS.d
  obtain ⟨A1, c1, e1⟩ := Kd.R_slice hS.u
  obtain ⟨A3, c3, e3⟩ := Kd.R_slice hS.t
  subst e0 e1 e3
  obtain ⟨hv1, hv2, hv3, hv4, hv5, -, -⟩ := P.validS_iff.1 hv
  obtain ⟨kD, hkD⟩ := (P.has_ev d A hv1).ex
  obtain ⟨kU, hkU⟩ := (P.has_ev u A hv3).ex
  have HKD := Aside0.mk hkD
  have HKU := Aside0.mk hkU
  have HLd := Aside0.mk (P.goodS_length hv1)
  have HLu := Aside0.mk (P.goodS_length hv3)
  have HGd := Aside0.mk hv1
  have HGu := Aside0.mk hv3
  have HV5 := Aside0.mk (show 0 ≤ a ∧ a = (u.length : Int) - t.length from ⟨hv4, hv5⟩)
  have HS := Aside0.mk hS
  have HT := Aside0.mk (Stp.refl (fun k => k = g ∨ some k = (Value.slice A3 t.length c3).ownBlock) w)
  have HBw := Aside0.mk hb
  have H0 := Aside0.mk (show Bx (trunc w b) [(g, #[.slice A0 d.length c0, .slice A1 u.length c1, .int .i64 a, .slice A3 t.length c3], 62)] w from Bx_add (Bx.of (by rw [trunc_size hb]; exact trunc_below hb)) (by rw [trunc_size hb]; exact hg) hG (by simp))
  have jA : IntKind.i64.wrap A = A := by rw [IntKind.wrap_i64]; omega
  have jB : IntKind.i64.wrap B = B := by rw [IntKind.wrap_i64]; omega
  clear hr hv hA hB hkD hkU hv1 hv2 hv3 hv4 hv5 hS hG
  go_enter Try.func84, Try.ntmps84
  go_wp2_with (first | ((with_reducible refine gate_dst (N := 3) rfl ?_); refine Aside0.out ?_))
  refine Aside0.mk ?_
  refine mk ?hw1 (N := 3) ?hd1 (cs := #[.int .u32 q, .int .i64 kd, .int .u32 A, .int .u32 B]) (t := 27) ?hr1 ?_
  case hd1 => rfl
  case hw1 => rfl
  case hr1 => first | (go_simp; done) | (go_simp; rfl)
  intro g3 hg3_ w101 hb1 hB1
  have H102 := Aside0.mk (H0.out.new hg3_ hb1 hB1)
  have n3_ := Aside0.mk (St.below HS.out hB1)
  clear HS
  have HS := n3_
  clear n3_
  have n4_ := Aside0.mk (HT.out.trans (Stp.of_below hB1 _))
  clear HT
  have HT := n4_
  clear n4_
  clear hg3_ hb1 hB1 H0
  by_cases k1 : kd = 1
  · subst k1
    by_cases cA : A < 256
    · have cAb : decide (256 ≤ A) = false := decide_eq_false (by omega)
      have CA := Aside0.mk cA
      clear cA
      have hc0 : w101.cell? ⟨g, 0, none⟩ = some (.slice A0 d.length c0) := (blk_cell H102.out.gt1 0).trans rfl
      have hc1 : w101.cell? ⟨g, 1, none⟩ = some (.slice A1 u.length c1) := (blk_cell H102.out.gt1 1).trans rfl
      have hc2 : w101.cell? ⟨g, 2, none⟩ = some (.int .i64 a) := (blk_cell H102.out.gt1 2).trans rfl
      have hc3 : w101.cell? ⟨g, 3, none⟩ = some (.slice A3 t.length c3) := (blk_cell H102.out.gt1 3).trans rfl
      have hf1 : w101.cell? ⟨g3, 1, none⟩ = some (.int .i64 1) := (blk_cell H102.out.gt0 1).trans rfl
      have hf2 : w101.cell? ⟨g3, 2, none⟩ = some (.int .u32 A) := (blk_cell H102.out.gt0 2).trans rfl
      have hf3 : w101.cell? ⟨g3, 3, none⟩ = some (.int .u32 B) := (blk_cell H102.out.gt0 3).trans rfl
      go_wp2_with (first | ((with_reducible refine gate_callee (f := 102) rfl ?_); refine Aside0.out ?_))
      refine Aside0.mk ?_
      refine goesW (some 21) rfl ?hw5 Try.func102 (by kernel_rfl) rfl #[.slice A1 u.length c1, .int .i64 A] rfl (by (try simp only [List.map_toArray, List.map_cons, List.map_nil]); first | done | rfl) ?_
      case hw5 => rfl
      refine (impl_has.calls _ _ _ u A _ _ (Kd.R_reads' HS.out.u).2.2 (Kd.R_reads' HS.out.u).2.1 HKU.out).mono ?_
      rintro e w105 ⟨rfl, hd_⟩
      refine ⟨_, rfl, ?_⟩
      have hb_ := hd_.below
      clear hd_
      clear hc0 hc1 hc2 hc3 hf1 hf2 hf3
      have H106 := Aside0.mk (H102.out.step hb_)
      have n7_ := Aside0.mk (St.below HS.out hb_)
      clear HS
      have HS := n7_
      clear n7_
      have n8_ := Aside0.mk (HT.out.trans (Stp.of_below hb_ _))
      clear HT
      have HT := n8_
      clear n8_
      clear hb_ H102
      by_cases mU : A ∈ u
      · have MU := Aside0.mk mU
        rw [decide_eq_true mU]
        clear mU
        go_wp2
        go_ret
        have hr_ : r = none := by
          rw [HR.out]
          unfold P.takeS
          rw [if_pos rfl, if_pos (.inr (.inl MU.out))]
        rw [hr_]
        first | exact ⟨rfl, .slice A0 d.length c0, .slice A1 u.length c1, .slice A3 t.length c3, H106.out.gt1, HS.out, fun k hk => .inl hk, fun k hk => .inl hk, fun k hk => .inl hk, HT.out⟩ | exact ⟨.slice A0 d.length c0, .slice A1 u.length c1, .slice A3 t.length c3, rfl, H106.out.gt1, HS.out, fun k hk => .inl hk, fun k hk => .inl hk, fun k hk => .inl hk, HT.out⟩
      · have MU := Aside0.mk mU
        rw [decide_eq_false mU]
        clear mU
        have hc0 : w105.cell? ⟨g, 0, none⟩ = some (.slice A0 d.length c0) := (blk_cell H106.out.gt1 0).trans rfl
        have hc1 : w105.cell? ⟨g, 1, none⟩ = some (.slice A1 u.length c1) := (blk_cell H106.out.gt1 1).trans rfl
        have hc2 : w105.cell? ⟨g, 2, none⟩ = some (.int .i64 a) := (blk_cell H106.out.gt1 2).trans rfl
        have hc3 : w105.cell? ⟨g, 3, none⟩ = some (.slice A3 t.length c3) := (blk_cell H106.out.gt1 3).trans rfl
        have hf1 : w105.cell? ⟨g3, 1, none⟩ = some (.int .i64 1) := (blk_cell H106.out.gt0 1).trans rfl
        have hf2 : w105.cell? ⟨g3, 2, none⟩ = some (.int .u32 A) := (blk_cell H106.out.gt0 2).trans rfl
        have hf3 : w105.cell? ⟨g3, 3, none⟩ = some (.int .u32 B) := (blk_cell H106.out.gt0 3).trans rfl
        go_wp2_with (first | ((with_reducible refine gate_callee (f := 102) rfl ?_); refine Aside0.out ?_))
        refine Aside0.mk ?_
        refine goesW (some 29) rfl ?hw9 Try.func102 (by kernel_rfl) rfl #[.slice A0 d.length c0, .int .i64 A] rfl (by (try simp only [List.map_toArray, List.map_cons, List.map_nil]); first | done | rfl) ?_
        case hw9 => rfl
        refine (impl_has.calls _ _ _ d A _ _ (Kd.R_reads' HS.out.d).2.2 (Kd.R_reads' HS.out.d).2.1 HKD.out).mono ?_
        rintro e w109 ⟨rfl, hd_⟩
        refine ⟨_, rfl, ?_⟩
        have hb_ := hd_.below
        clear hd_
        clear hc0 hc1 hc2 hc3 hf1 hf2 hf3
        have H110 := Aside0.mk (H106.out.step hb_)
        have n11_ := Aside0.mk (St.below HS.out hb_)
        clear HS
        have HS := n11_
        clear n11_
        have n12_ := Aside0.mk (HT.out.trans (Stp.of_below hb_ _))
        clear HT
        have HT := n12_
        clear n12_
        clear hb_ H106
        by_cases mD : A ∈ d
        · have MD := Aside0.mk mD
          rw [decide_eq_true mD]
          clear mD
          go_wp2
          go_ret
          have hr_ : r = none := by
            rw [HR.out]
            unfold P.takeS
            rw [if_pos rfl, if_pos (.inr (.inr MD.out))]
          rw [hr_]
          first | exact ⟨rfl, .slice A0 d.length c0, .slice A1 u.length c1, .slice A3 t.length c3, H110.out.gt1, HS.out, fun k hk => .inl hk, fun k hk => .inl hk, fun k hk => .inl hk, HT.out⟩ | exact ⟨.slice A0 d.length c0, .slice A1 u.length c1, .slice A3 t.length c3, rfl, H110.out.gt1, HS.out, fun k hk => .inl hk, fun k hk => .inl hk, fun k hk => .inl hk, HT.out⟩
        · have MD := Aside0.mk mD
          rw [decide_eq_false mD]
          clear mD
          have hc0 : w109.cell? ⟨g, 0, none⟩ = some (.slice A0 d.length c0) := (blk_cell H110.out.gt1 0).trans rfl
          have hc1 : w109.cell? ⟨g, 1, none⟩ = some (.slice A1 u.length c1) := (blk_cell H110.out.gt1 1).trans rfl
          have hc2 : w109.cell? ⟨g, 2, none⟩ = some (.int .i64 a) := (blk_cell H110.out.gt1 2).trans rfl
          have hc3 : w109.cell? ⟨g, 3, none⟩ = some (.slice A3 t.length c3) := (blk_cell H110.out.gt1 3).trans rfl
          have hf1 : w109.cell? ⟨g3, 1, none⟩ = some (.int .i64 1) := (blk_cell H110.out.gt0 1).trans rfl
          have hf2 : w109.cell? ⟨g3, 2, none⟩ = some (.int .u32 A) := (blk_cell H110.out.gt0 2).trans rfl
          have hf3 : w109.cell? ⟨g3, 3, none⟩ = some (.int .u32 B) := (blk_cell H110.out.gt0 3).trans rfl
          go_wp2_with (first | ((with_reducible refine gate_callee (f := 103) rfl ?_); refine Aside0.out ?_))
          refine Aside0.mk ?_
          refine goesW (some 37) rfl ?hw13 Try.func103 (by kernel_rfl) rfl #[.slice A1 u.length c1, .int .i64 A] rfl (by (try simp only [List.map_toArray, List.map_cons, List.map_nil]); first | done | rfl) ?_
          case hw13 => rfl
          refine (with_calls (Kd.R_reads' HS.out.u).2.2 (Kd.R_reads' HS.out.u).2.1 HGu.out ⟨HA.out.1, CA.out⟩ MU.out).mono ?_
          rintro e w113 ⟨v9, rfl, hr_, hb_⟩
          refine ⟨_, rfl, ?_⟩
          clear hc0 hc1 hc2 hc3 hf1 hf2 hf3
          obtain ⟨A4, c4, e4⟩ := Kd.R_slice hr_
          subst e4
          have HFr := Aside0.mk (show Fresh w.heap.size (.slice A1 u.length c1) (.slice A4 (P.withS u A).length c4) from fun k hk => .inr (Nat.le_trans HT.out.size (Kd.R_base hr_ k hk)))
          have HS2_ := Aside0.mk (St.newU HS.out (Nat.le_trans HBw.out HT.out.size) hr_ hb_)
          clear HS hr_
          have HS := HS2_
          clear HS2_
          have H114 := Aside0.mk (H110.out.step hb_)
          have n15_ := Aside0.mk (HT.out.trans (Stp.of_below hb_ _))
          clear HT
          have HT := n15_
          clear n15_
          clear hb_ H110
          go_wp2_with (first | ((with_reducible refine gate_store (t := 39) (p := 39) rfl ?_); refine Aside0.out ?_))
          refine Aside0.mk ?_
          refine st (o' := 1) (u := .slice A4 (P.withS u A).length c4) (seg := [.slice A4 (P.withS u A).length c4]) ?hw16 ?hN16 rfl ?hp16 ?hx16 rfl H114.out.gt1 (by kernel_rfl) ?hf16 (by simp [Value.oneCell']) ?_
          case hw16 => rfl
          case hN16 => rfl
          case hp16 => rfl
          case hx16 => rfl
          case hf16 => show 1 + 1 ≤ 4; decide
          intro w116 hb16 hS16
          have H117 := Aside0.mk (H114.out.wr1 (cs' := #[.slice A0 d.length c0, .slice A4 (P.withS u A).length c4, .int .i64 a, .slice A3 t.length c3]) hb16 hS16)
          have n18_ := Aside0.mk (St.other HS.out H114.out.gt1 (by decide) hS16)
          clear HS
          have HS := n18_
          clear n18_
          have n19_ := Aside0.mk (HT.out.trans (hS16.mono (fun k _ hk => .inl hk)))
          clear HT
          have HT := n19_
          clear n19_
          clear hb16 hS16 H114
          go_wp2
          have H121 := Aside0.mk H117.out.drew
          have n22_ := Aside0.mk (St.below HS.out (below_drew1 (Below.refl w116.heap.size w116)))
          clear HS
          have HS := n22_
          clear n22_
          have n23_ := Aside0.mk (HT.out.trans (Stp.of_below (below_drew1 (Below.refl w116.heap.size w116)) _))
          clear HT
          have HT := n23_
          clear n23_
          refine start_ (n := 15) (S := fun w' => w'.cell? ⟨g, 3, none⟩ = some (.slice A3 t.length c3) ∧ w'.cell? ⟨g3, 3, none⟩ = some (.int .u32 B)) (ds := [14]) #[false, false, false, false, false, false, false, false, false, false, false, false, false, false, false] (by kernel_rfl) rfl rfl ⟨(blk_cell H121.out.gt1 3).trans rfl, (blk_cell H121.out.gt0 3).trans rfl⟩ (fun hHeld => ?_)
          clear H117
          generalize w116.drew = w120 at H121 HS HT hHeld ⊢
          refine pure_ (i := 0) (N := some 40) (v := ?_) (a' := ?_) #[true, false, false, false, false, false, false, false, false, false, false, false, false, false, false] rfl rfl (by kernel_rfl) (fun _ _ _ h => h) (Or.inl ⟨by rfl, ?_⟩) ?_ ?_
          rotate_left
          · intro w'
            go_simp
            with_reducible rfl
          rotate_left
          · simp only [Act.put, List.setIfInBounds_toArray, List.set_cons_zero, List.set_cons_succ, i64_w, i32_w]
            rfl
          refine pure_ (i := 1) (N := some 41) (v := ?_) (a' := ?_) #[true, true, false, false, false, false, false, false, false, false, false, false, false, false, false] rfl rfl (by kernel_rfl) (fun _ _ _ h => h) (Or.inl ⟨by rfl, ?_⟩) ?_ ?_
          rotate_left
          · intro w'
            go_simp
            with_reducible rfl
          rotate_left
          · simp only [Act.put, List.setIfInBounds_toArray, List.set_cons_zero, List.set_cons_succ, i64_w, i32_w]
            rfl
          refine pure_ (i := 2) (N := some 42) (v := ?_) (a' := ?_) #[true, true, true, false, false, false, false, false, false, false, false, false, false, false, false] rfl rfl (by kernel_rfl) (fun _ _ _ h => h) (Or.inl ⟨by rfl, ?_⟩) ?_ ?_
          rotate_left
          · intro w'
            go_simp
            with_reducible rfl
          rotate_left
          · simp only [Act.put, List.setIfInBounds_toArray, List.set_cons_zero, List.set_cons_succ, i64_w, i32_w]
            rfl
          refine pure_ (i := 3) (N := some 43) (v := ?_) (a' := ?_) #[true, true, true, true, false, false, false, false, false, false, false, false, false, false, false] rfl rfl (by kernel_rfl) (fun _ _ _ h => h) (Or.inl ⟨by rfl, ?_⟩) ?_ ?_
          rotate_left
          · intro w'
            go_simp
            with_reducible rfl
          rotate_left
          · simp only [Act.put, List.setIfInBounds_toArray, List.set_cons_zero, List.set_cons_succ, i64_w, i32_w]
            rfl
          refine take_ (i := 4) (N := some 44) (v := ?_) (a' := ?_) #[true, true, true, true, true, false, false, false, false, false, false, false, false, false, false] rfl rfl (by kernel_rfl) (fun _ _ _ h => h) (Or.inl ⟨by rfl, ?_⟩) hHeld ?_ ?_
          rotate_left
          · rintro w' ⟨s0, s1⟩
            go_simp
            with_reducible rfl
          rotate_left
          · simp only [Act.put, List.setIfInBounds_toArray, List.set_cons_zero, List.set_cons_succ, i64_w, i32_w]
            rfl
          refine pure_ (i := 5) (N := some 45) (v := ?_) (a' := ?_) #[true, true, true, true, true, true, false, false, false, false, false, false, false, false, false] rfl rfl (by kernel_rfl) (fun _ _ _ h => h) (Or.inl ⟨by rfl, ?_⟩) ?_ ?_
          rotate_left
          · intro w'
            go_simp
            with_reducible rfl
          rotate_left
          · simp only [Act.put, List.setIfInBounds_toArray, List.set_cons_zero, List.set_cons_succ, i64_w, i32_w]
            rfl
          refine pure_ (i := 6) (N := some 46) (v := ?_) (a' := ?_) #[true, true, true, true, true, true, true, false, false, false, false, false, false, false, false] rfl rfl (by kernel_rfl) (fun _ _ _ h => h) (Or.inl ⟨by rfl, ?_⟩) ?_ ?_
          rotate_left
          · intro w'
            go_simp
            with_reducible rfl
          rotate_left
          · simp only [Act.put, List.setIfInBounds_toArray, List.set_cons_zero, List.set_cons_succ, i64_w, i32_w]
            rfl
          refine take_ (i := 7) (N := some 47) (v := ?_) (a' := ?_) #[true, true, true, true, true, true, true, true, false, false, false, false, false, false, false] rfl rfl (by kernel_rfl) (fun _ _ _ h => h) (Or.inl ⟨by rfl, ?_⟩) hHeld ?_ ?_
          rotate_left
          · rintro w' ⟨s0, s1⟩
            go_simp
            with_reducible rfl
          rotate_left
          · simp only [Act.put, List.setIfInBounds_toArray, List.set_cons_zero, List.set_cons_succ, i64_w, i32_w]
            rfl
          refine pure_ (i := 8) (N := some 48) (v := ?_) (a' := ?_) #[true, true, true, true, true, true, true, true, true, false, false, false, false, false, false] rfl rfl (by kernel_rfl) (fun _ _ _ h => h) (Or.inl ⟨by rfl, ?_⟩) ?_ ?_
          rotate_left
          · intro w'
            go_simp
            with_reducible rfl
          rotate_left
          · simp only [Act.put, List.setIfInBounds_toArray, List.set_cons_zero, List.set_cons_succ, i64_w, i32_w]
            rfl
          refine pure_ (i := 9) (N := some 49) (v := ?_) (a' := ?_) #[true, true, true, true, true, true, true, true, true, true, false, false, false, false, false] rfl rfl (by kernel_rfl) (fun _ _ _ h => h) (Or.inl ⟨by rfl, ?_⟩) ?_ ?_
          rotate_left
          · intro w'
            go_simp
            with_reducible rfl
          rotate_left
          · simp only [Act.put, List.setIfInBounds_toArray, List.set_cons_zero, List.set_cons_succ, i64_w, i32_w]
            rfl
          refine one_ (i := 10) (N := some 50) #[true, true, true, true, true, true, true, true, true, true, true, false, false, false, false] rfl rfl (by kernel_rfl) (by decide) (fun K hK => ?_)
          refine value_ (w1 := ?_) (v := ?_) (by rfl) rfl ?_ ?_
          rotate_left 2
          · go_simp
            constructor
            · rfl
            · rfl
          refine hK.out _ _ ⟨(blk_cell (blk_alloc H121.out.gt1 _) 3).trans rfl, (blk_cell (blk_alloc H121.out.gt0 _) 3).trans rfl⟩ (fun hHeld => ?_)
          clear hK K
          refine norm_ (a' := ?_) ?_ ?_
          rotate_left
          · show Act.put _ (some 50) _ = _
            simp only [Act.put, List.setIfInBounds_toArray, List.set_cons_zero, List.set_cons_succ, i64_w, i32_w]
            rfl
          refine one_ (i := 11) (N := some 51) #[true, true, true, true, true, true, true, true, true, true, true, true, false, false, false] rfl rfl (by kernel_rfl) (by decide) (fun K hK => ?_)
          refine Kd.R_append_step k111 (w0 := trunc w b) b (by rfl) (.tmp 44) (.tmp 50) 60 111 (.agg #[(.int .i64 0), (.int .i64 0)]) 16 rfl Try.underlying60 info111 rfl (by decide) (by omega) (.slice A3 t.length c3) t (⟨A, B⟩ : P.TR) [.int .i64 A, .int .i64 B] (fun _ => True) (fun _ => False) rfl rfl ?aP24 (fun _ hk => hk.elim) ?aF24 ?aO24 ?aB24 ?aS24 ?aL24 ?_
          case aP24 => exact k111_mkM _ _ _ ⟨A, B⟩
          case aB24 => have h := H121.out.below; rw [trunc_size HBw.out] at h; exact h
          case aF24 => exact fun _ _ => trivial
          case aO24 => exact HS.out.t
          case aS24 => exact Nat.le_trans HBw.out HT.out.size
          case aL24 => have := HV5.out; have := HLu.out; omega
          intro v8 w124 ho hb_ hg_ hat_
          obtain ⟨A8, c8, e8⟩ := Kd.R_slice ho
          subst e8
          have hst_ := Stp.grown (S := fun k => some k = (.slice A3 t.length c3 : Value).ownBlock) hg_ (fun k hk => hk.symm)
          have HFt := Aside0.mk (show Fresh w.heap.size (.slice A3 t.length c3) (.slice A8 (t ++ [(⟨A, B⟩ : P.TR)]).length c8) from fun k hk => hat_.elim (fun e => .inl (e ▸ hk)) (fun ⟨q_, e, h⟩ => .inr (by rw [hk] at e; injection e with e; have := HT.out.size; omega)))
          have H125 := Aside0.mk (H121.out.stp hst_ (fun k hk => by rw [trunc_size HBw.out]; exact Kd.R_base HS.out.t k hk.symm) (fun b_ hb he => by
            obtain ⟨cells, hc⟩ := Kd.R_typed HS.out.t b_.1 he.symm
            have h2 := (H121.out.at_ b_ hb).2
            rw [hc] at h2
            simp only [List.mem_cons, List.not_mem_nil, or_false] at hb
            rcases hb with rfl | rfl <;> cases h2))
          have HT2_ := Aside0.mk (HT.out.trans (hst_.mono (fun k _ hk => .inr hk)))
          have HS2_ := Aside0.mk (St.onT HS.out ho hg_)
          clear hst_ H121 HT HS ho hb_ hg_ hat_
          have HT := HT2_
          have HS := HS2_
          clear HT2_ HS2_
          refine hK.out _ _ ⟨(blk_cell H125.out.gt1 3).trans rfl, (blk_cell H125.out.gt0 3).trans rfl⟩ (fun hHeld => ?_)
          clear hK K
          refine norm_ (a' := ?_) ?_ ?_
          rotate_left
          · show Act.put _ (some 51) _ = _
            simp only [Act.put, List.setIfInBounds_toArray, List.set_cons_zero, List.set_cons_succ, i64_w, i32_w]
            rfl
          refine pure_ (i := 12) (N := some 52) (v := ?_) (a' := ?_) #[true, true, true, true, true, true, true, true, true, true, true, true, true, false, false] rfl rfl (by kernel_rfl) (fun _ _ _ h => h) (Or.inl ⟨by rfl, ?_⟩) ?_ ?_
          rotate_left
          · intro w'
            go_simp
            with_reducible rfl
          rotate_left
          · simp only [Act.put, List.setIfInBounds_toArray, List.set_cons_zero, List.set_cons_succ, i64_w, i32_w]
            rfl
          refine pure_ (i := 13) (N := some 53) (v := ?_) (a' := ?_) #[true, true, true, true, true, true, true, true, true, true, true, true, true, true, false] rfl rfl (by kernel_rfl) (fun _ _ _ h => h) (Or.inl ⟨by rfl, ?_⟩) ?_ ?_
          rotate_left
          · intro w'
            go_simp
            with_reducible rfl
          rotate_left
          · simp only [Act.put, List.setIfInBounds_toArray, List.set_cons_zero, List.set_cons_succ, i64_w, i32_w]
            rfl
          refine last_ (i := 14) (N := none) #[true, true, true, true, true, true, true, true, true, true, true, true, true, true, true] rfl rfl (by kernel_rfl) (by decide) (fun K hK => ?_)
          refine st_part_step (o' := 3) (u := .slice A8 (t ++ [(⟨A, B⟩ : P.TR)]).length c8) (seg := [.slice A8 (t ++ [(⟨A, B⟩ : P.TR)]).length c8]) (by rfl) rfl rfl ?hp26 ?hx26 rfl H125.out.gt1 (by kernel_rfl) (by show 3 + 1 ≤ 4; decide) (by simp [Value.oneCell']) ?_
          case hp26 => rfl
          case hx26 => rfl
          intro w126 hb26 hS26
          have H127 := Aside0.mk (H125.out.wr1 (cs' := #[.slice A0 d.length c0, .slice A4 (P.withS u A).length c4, .int .i64 a, .slice A8 (t ++ [(⟨A, B⟩ : P.TR)]).length c8]) hb26 hS26)
          have n28_ := Aside0.mk (St.other HS.out H125.out.gt1 (by decide) hS26)
          clear HS
          have HS := n28_
          clear n28_
          have n29_ := Aside0.mk (HT.out.trans (hS26.mono (fun k _ hk => .inl hk)))
          clear HT
          have HT := n29_
          clear n29_
          clear hb26 hS26 H125
          refine hK.out _ _ ?_
          clear hK K
          refine done_ (by kernel_rfl) ?_
          try dsimp only
          go_wp2
          go_ret
          have hr_ : r = some (d, P.withS u A, a, t ++ [⟨A, B⟩]) := by
            rw [HR.out]
            unfold P.takeS
            rw [if_pos rfl, if_neg (by rintro (h | h | h); exact absurd CA.out (by omega); exact MU.out h; exact MD.out h)]
          rw [hr_]
          first | exact ⟨rfl, .slice A0 d.length c0, .slice A4 (P.withS u A).length c4, .slice A8 (t ++ [(⟨A, B⟩ : P.TR)]).length c8, H127.out.gt1, HS.out, fun k hk => .inl hk, HFr.out, HFt.out, HT.out⟩ | exact ⟨.slice A0 d.length c0, .slice A4 (P.withS u A).length c4, .slice A8 (t ++ [(⟨A, B⟩ : P.TR)]).length c8, rfl, H127.out.gt1, HS.out, fun k hk => .inl hk, HFr.out, HFt.out, HT.out⟩
    · have cAb : decide (256 ≤ A) = true := decide_eq_true (by omega)
      have CA := Aside0.mk cA
      clear cA
      have hc0 : w101.cell? ⟨g, 0, none⟩ = some (.slice A0 d.length c0) := (blk_cell H102.out.gt1 0).trans rfl
      have hc1 : w101.cell? ⟨g, 1, none⟩ = some (.slice A1 u.length c1) := (blk_cell H102.out.gt1 1).trans rfl
      have hc2 : w101.cell? ⟨g, 2, none⟩ = some (.int .i64 a) := (blk_cell H102.out.gt1 2).trans rfl
      have hc3 : w101.cell? ⟨g, 3, none⟩ = some (.slice A3 t.length c3) := (blk_cell H102.out.gt1 3).trans rfl
      have hf1 : w101.cell? ⟨g3, 1, none⟩ = some (.int .i64 1) := (blk_cell H102.out.gt0 1).trans rfl
      have hf2 : w101.cell? ⟨g3, 2, none⟩ = some (.int .u32 A) := (blk_cell H102.out.gt0 2).trans rfl
      have hf3 : w101.cell? ⟨g3, 3, none⟩ = some (.int .u32 B) := (blk_cell H102.out.gt0 3).trans rfl
      go_wp2
      go_ret
      clear hc0 hc1 hc2 hc3 hf1 hf2 hf3
      have hr_ : r = none := by
        rw [HR.out]
        unfold P.takeS
        rw [if_pos rfl, if_pos (.inl (by have := CA.out; omega))]
      rw [hr_]
      first | exact ⟨rfl, .slice A0 d.length c0, .slice A1 u.length c1, .slice A3 t.length c3, H102.out.gt1, HS.out, fun k hk => .inl hk, fun k hk => .inl hk, fun k hk => .inl hk, HT.out⟩ | exact ⟨.slice A0 d.length c0, .slice A1 u.length c1, .slice A3 t.length c3, rfl, H102.out.gt1, HS.out, fun k hk => .inl hk, fun k hk => .inl hk, fun k hk => .inl hk, HT.out⟩
  · by_cases k2 : kd = 2
    · subst k2
      clear k1
      by_cases cB : B = 1
      · have cBb : (B == 1) = true := beq_iff_eq.mpr cB
        have cB0 : (B == 0) = false := beq_eq_false_iff_ne.mpr (by omega)
        have CB := Aside0.mk cB
        clear cB
        by_cases cA : A < 256
        · have cAb : decide (A < 256) = true := decide_eq_true cA
          have CA := Aside0.mk cA
          clear cA
          have hc0 : w101.cell? ⟨g, 0, none⟩ = some (.slice A0 d.length c0) := (blk_cell H102.out.gt1 0).trans rfl
          have hc1 : w101.cell? ⟨g, 1, none⟩ = some (.slice A1 u.length c1) := (blk_cell H102.out.gt1 1).trans rfl
          have hc2 : w101.cell? ⟨g, 2, none⟩ = some (.int .i64 a) := (blk_cell H102.out.gt1 2).trans rfl
          have hc3 : w101.cell? ⟨g, 3, none⟩ = some (.slice A3 t.length c3) := (blk_cell H102.out.gt1 3).trans rfl
          have hf1 : w101.cell? ⟨g3, 1, none⟩ = some (.int .i64 2) := (blk_cell H102.out.gt0 1).trans rfl
          have hf2 : w101.cell? ⟨g3, 2, none⟩ = some (.int .u32 A) := (blk_cell H102.out.gt0 2).trans rfl
          have hf3 : w101.cell? ⟨g3, 3, none⟩ = some (.int .u32 B) := (blk_cell H102.out.gt0 3).trans rfl
          go_wp2_with (first | ((with_reducible refine gate_callee (f := 102) rfl ?_); refine Aside0.out ?_))
          refine Aside0.mk ?_
          refine goesW (some 70) rfl ?hw30 Try.func102 (by kernel_rfl) rfl #[.slice A0 d.length c0, .int .i64 A] rfl (by (try simp only [List.map_toArray, List.map_cons, List.map_nil]); first | done | rfl) ?_
          case hw30 => rfl
          refine (impl_has.calls _ _ _ d A _ _ (Kd.R_reads' HS.out.d).2.2 (Kd.R_reads' HS.out.d).2.1 HKD.out).mono ?_
          rintro e w130 ⟨rfl, hd_⟩
          refine ⟨_, rfl, ?_⟩
          have hb_ := hd_.below
          clear hd_
          clear hc0 hc1 hc2 hc3 hf1 hf2 hf3
          have H131 := Aside0.mk (H102.out.step hb_)
          have n32_ := Aside0.mk (St.below HS.out hb_)
          clear HS
          have HS := n32_
          clear n32_
          have n33_ := Aside0.mk (HT.out.trans (Stp.of_below hb_ _))
          clear HT
          have HT := n33_
          clear n33_
          clear hb_ H102
          by_cases mD : A ∈ d
          · have MD := Aside0.mk mD
            rw [decide_eq_true mD]
            clear mD
            have hc0 : w130.cell? ⟨g, 0, none⟩ = some (.slice A0 d.length c0) := (blk_cell H131.out.gt1 0).trans rfl
            have hc1 : w130.cell? ⟨g, 1, none⟩ = some (.slice A1 u.length c1) := (blk_cell H131.out.gt1 1).trans rfl
            have hc2 : w130.cell? ⟨g, 2, none⟩ = some (.int .i64 a) := (blk_cell H131.out.gt1 2).trans rfl
            have hc3 : w130.cell? ⟨g, 3, none⟩ = some (.slice A3 t.length c3) := (blk_cell H131.out.gt1 3).trans rfl
            have hf1 : w130.cell? ⟨g3, 1, none⟩ = some (.int .i64 2) := (blk_cell H131.out.gt0 1).trans rfl
            have hf2 : w130.cell? ⟨g3, 2, none⟩ = some (.int .u32 A) := (blk_cell H131.out.gt0 2).trans rfl
            have hf3 : w130.cell? ⟨g3, 3, none⟩ = some (.int .u32 B) := (blk_cell H131.out.gt0 3).trans rfl
            go_wp2
            go_ret
            clear hc0 hc1 hc2 hc3 hf1 hf2 hf3
            have hr_ : r = none := by
              rw [HR.out]
              unfold P.takeS
              rw [if_neg (by decide), if_pos rfl, if_neg (by rintro ⟨-, -, h, -⟩; exact h MD.out), if_neg (by rintro ⟨h, -⟩; have := CB.out; omega)]
            rw [hr_]
            first | exact ⟨rfl, .slice A0 d.length c0, .slice A1 u.length c1, .slice A3 t.length c3, H131.out.gt1, HS.out, fun k hk => .inl hk, fun k hk => .inl hk, fun k hk => .inl hk, HT.out⟩ | exact ⟨.slice A0 d.length c0, .slice A1 u.length c1, .slice A3 t.length c3, rfl, H131.out.gt1, HS.out, fun k hk => .inl hk, fun k hk => .inl hk, fun k hk => .inl hk, HT.out⟩
          · have MD := Aside0.mk mD
            rw [decide_eq_false mD]
            clear mD
            by_cases cL : d.length < 16
            · have cLb : decide ((d.length : Int) < 16) = true := decide_eq_true (by omega)
              have CL := Aside0.mk cL
              clear cL
              have hc0 : w130.cell? ⟨g, 0, none⟩ = some (.slice A0 d.length c0) := (blk_cell H131.out.gt1 0).trans rfl
              have hc1 : w130.cell? ⟨g, 1, none⟩ = some (.slice A1 u.length c1) := (blk_cell H131.out.gt1 1).trans rfl
              have hc2 : w130.cell? ⟨g, 2, none⟩ = some (.int .i64 a) := (blk_cell H131.out.gt1 2).trans rfl
              have hc3 : w130.cell? ⟨g, 3, none⟩ = some (.slice A3 t.length c3) := (blk_cell H131.out.gt1 3).trans rfl
              have hf1 : w130.cell? ⟨g3, 1, none⟩ = some (.int .i64 2) := (blk_cell H131.out.gt0 1).trans rfl
              have hf2 : w130.cell? ⟨g3, 2, none⟩ = some (.int .u32 A) := (blk_cell H131.out.gt0 2).trans rfl
              have hf3 : w130.cell? ⟨g3, 3, none⟩ = some (.int .u32 B) := (blk_cell H131.out.gt0 3).trans rfl
              go_wp2_with (first | ((with_reducible refine gate_callee (f := 103) rfl ?_); refine Aside0.out ?_))
              refine Aside0.mk ?_
              refine goesW (some 87) rfl ?hw34 Try.func103 (by kernel_rfl) rfl #[.slice A0 d.length c0, .int .i64 A] rfl (by (try simp only [List.map_toArray, List.map_cons, List.map_nil]); first | done | rfl) ?_
              case hw34 => rfl
              refine (with_calls (Kd.R_reads' HS.out.d).2.2 (Kd.R_reads' HS.out.d).2.1 HGd.out ⟨HA.out.1, CA.out⟩ MD.out).mono ?_
              rintro e w134 ⟨v9, rfl, hr_, hb_⟩
              refine ⟨_, rfl, ?_⟩
              clear hc0 hc1 hc2 hc3 hf1 hf2 hf3
              obtain ⟨A4, c4, e4⟩ := Kd.R_slice hr_
              subst e4
              have HFr := Aside0.mk (show Fresh w.heap.size (.slice A0 d.length c0) (.slice A4 (P.withS d A).length c4) from fun k hk => .inr (Nat.le_trans HT.out.size (Kd.R_base hr_ k hk)))
              have HS2_ := Aside0.mk (St.newD HS.out (Nat.le_trans HBw.out HT.out.size) hr_ hb_)
              clear HS hr_
              have HS := HS2_
              clear HS2_
              have H135 := Aside0.mk (H131.out.step hb_)
              have n36_ := Aside0.mk (HT.out.trans (Stp.of_below hb_ _))
              clear HT
              have HT := n36_
              clear n36_
              clear hb_ H131
              go_wp2_with (first | ((with_reducible refine gate_store (t := 39) (p := 89) rfl ?_); refine Aside0.out ?_))
              refine Aside0.mk ?_
              refine st (o' := 0) (u := .slice A4 (P.withS d A).length c4) (seg := [.slice A4 (P.withS d A).length c4]) ?hw37 ?hN37 rfl ?hp37 ?hx37 rfl H135.out.gt1 (by kernel_rfl) ?hf37 (by simp [Value.oneCell']) ?_
              case hw37 => rfl
              case hN37 => rfl
              case hp37 => rfl
              case hx37 => rfl
              case hf37 => show 0 + 1 ≤ 4; decide
              intro w137 hb37 hS37
              have H138 := Aside0.mk (H135.out.wr1 (cs' := #[.slice A4 (P.withS d A).length c4, .slice A1 u.length c1, .int .i64 a, .slice A3 t.length c3]) hb37 hS37)
              have n39_ := Aside0.mk (St.other HS.out H135.out.gt1 (by decide) hS37)
              clear HS
              have HS := n39_
              clear n39_
              have n40_ := Aside0.mk (HT.out.trans (hS37.mono (fun k _ hk => .inl hk)))
              clear HT
              have HT := n40_
              clear n40_
              clear hb37 hS37 H135
              go_wp2
              go_ret
              have hr_ : r = some (P.withS d A, u, a, t) := by
                rw [HR.out]
                unfold P.takeS
                rw [if_neg (by decide), if_pos rfl, if_pos ⟨CB.out, CA.out, MD.out, CL.out⟩]
              rw [hr_]
              first | exact ⟨rfl, .slice A4 (P.withS d A).length c4, .slice A1 u.length c1, .slice A3 t.length c3, H138.out.gt1, HS.out, HFr.out, fun k hk => .inl hk, fun k hk => .inl hk, HT.out⟩ | exact ⟨.slice A4 (P.withS d A).length c4, .slice A1 u.length c1, .slice A3 t.length c3, rfl, H138.out.gt1, HS.out, HFr.out, fun k hk => .inl hk, fun k hk => .inl hk, HT.out⟩
            · have cLb : decide ((d.length : Int) < 16) = false := decide_eq_false (by omega)
              have CL := Aside0.mk cL
              clear cL
              have hc0 : w130.cell? ⟨g, 0, none⟩ = some (.slice A0 d.length c0) := (blk_cell H131.out.gt1 0).trans rfl
              have hc1 : w130.cell? ⟨g, 1, none⟩ = some (.slice A1 u.length c1) := (blk_cell H131.out.gt1 1).trans rfl
              have hc2 : w130.cell? ⟨g, 2, none⟩ = some (.int .i64 a) := (blk_cell H131.out.gt1 2).trans rfl
              have hc3 : w130.cell? ⟨g, 3, none⟩ = some (.slice A3 t.length c3) := (blk_cell H131.out.gt1 3).trans rfl
              have hf1 : w130.cell? ⟨g3, 1, none⟩ = some (.int .i64 2) := (blk_cell H131.out.gt0 1).trans rfl
              have hf2 : w130.cell? ⟨g3, 2, none⟩ = some (.int .u32 A) := (blk_cell H131.out.gt0 2).trans rfl
              have hf3 : w130.cell? ⟨g3, 3, none⟩ = some (.int .u32 B) := (blk_cell H131.out.gt0 3).trans rfl
              go_wp2
              go_ret
              clear hc0 hc1 hc2 hc3 hf1 hf2 hf3
              have hr_ : r = none := by
                rw [HR.out]
                unfold P.takeS
                rw [if_neg (by decide), if_pos rfl, if_neg (by rintro ⟨-, -, -, h⟩; have := CL.out; omega), if_neg (by rintro ⟨h, -⟩; have := CB.out; omega)]
              rw [hr_]
              first | exact ⟨rfl, .slice A0 d.length c0, .slice A1 u.length c1, .slice A3 t.length c3, H131.out.gt1, HS.out, fun k hk => .inl hk, fun k hk => .inl hk, fun k hk => .inl hk, HT.out⟩ | exact ⟨.slice A0 d.length c0, .slice A1 u.length c1, .slice A3 t.length c3, rfl, H131.out.gt1, HS.out, fun k hk => .inl hk, fun k hk => .inl hk, fun k hk => .inl hk, HT.out⟩
        · have cAb : decide (A < 256) = false := decide_eq_false cA
          have CA := Aside0.mk cA
          clear cA
          have hc0 : w101.cell? ⟨g, 0, none⟩ = some (.slice A0 d.length c0) := (blk_cell H102.out.gt1 0).trans rfl
          have hc1 : w101.cell? ⟨g, 1, none⟩ = some (.slice A1 u.length c1) := (blk_cell H102.out.gt1 1).trans rfl
          have hc2 : w101.cell? ⟨g, 2, none⟩ = some (.int .i64 a) := (blk_cell H102.out.gt1 2).trans rfl
          have hc3 : w101.cell? ⟨g, 3, none⟩ = some (.slice A3 t.length c3) := (blk_cell H102.out.gt1 3).trans rfl
          have hf1 : w101.cell? ⟨g3, 1, none⟩ = some (.int .i64 2) := (blk_cell H102.out.gt0 1).trans rfl
          have hf2 : w101.cell? ⟨g3, 2, none⟩ = some (.int .u32 A) := (blk_cell H102.out.gt0 2).trans rfl
          have hf3 : w101.cell? ⟨g3, 3, none⟩ = some (.int .u32 B) := (blk_cell H102.out.gt0 3).trans rfl
          go_wp2
          go_ret
          clear hc0 hc1 hc2 hc3 hf1 hf2 hf3
          have hr_ : r = none := by
            rw [HR.out]
            unfold P.takeS
            rw [if_neg (by decide), if_pos rfl, if_neg (by rintro ⟨-, h, -⟩; have := CA.out; omega), if_neg (by rintro ⟨h, -⟩; have := CB.out; omega)]
          rw [hr_]
          first | exact ⟨rfl, .slice A0 d.length c0, .slice A1 u.length c1, .slice A3 t.length c3, H102.out.gt1, HS.out, fun k hk => .inl hk, fun k hk => .inl hk, fun k hk => .inl hk, HT.out⟩ | exact ⟨.slice A0 d.length c0, .slice A1 u.length c1, .slice A3 t.length c3, rfl, H102.out.gt1, HS.out, fun k hk => .inl hk, fun k hk => .inl hk, fun k hk => .inl hk, HT.out⟩
      · have cBb : (B == 1) = false := beq_eq_false_iff_ne.mpr cB
        have CB := Aside0.mk cB
        clear cB
        by_cases cZ : B = 0
        · have cB0 : (B == 0) = true := beq_iff_eq.mpr cZ
          have CZ := Aside0.mk cZ
          clear cZ
          have hc0 : w101.cell? ⟨g, 0, none⟩ = some (.slice A0 d.length c0) := (blk_cell H102.out.gt1 0).trans rfl
          have hc1 : w101.cell? ⟨g, 1, none⟩ = some (.slice A1 u.length c1) := (blk_cell H102.out.gt1 1).trans rfl
          have hc2 : w101.cell? ⟨g, 2, none⟩ = some (.int .i64 a) := (blk_cell H102.out.gt1 2).trans rfl
          have hc3 : w101.cell? ⟨g, 3, none⟩ = some (.slice A3 t.length c3) := (blk_cell H102.out.gt1 3).trans rfl
          have hf1 : w101.cell? ⟨g3, 1, none⟩ = some (.int .i64 2) := (blk_cell H102.out.gt0 1).trans rfl
          have hf2 : w101.cell? ⟨g3, 2, none⟩ = some (.int .u32 A) := (blk_cell H102.out.gt0 2).trans rfl
          have hf3 : w101.cell? ⟨g3, 3, none⟩ = some (.int .u32 B) := (blk_cell H102.out.gt0 3).trans rfl
          go_wp2_with (first | ((with_reducible refine gate_callee (f := 102) rfl ?_); refine Aside0.out ?_))
          refine Aside0.mk ?_
          refine goesW (some 100) rfl ?hw41 Try.func102 (by kernel_rfl) rfl #[.slice A0 d.length c0, .int .i64 A] rfl (by (try simp only [List.map_toArray, List.map_cons, List.map_nil]); first | done | rfl) ?_
          case hw41 => rfl
          refine (impl_has.calls _ _ _ d A _ _ (Kd.R_reads' HS.out.d).2.2 (Kd.R_reads' HS.out.d).2.1 HKD.out).mono ?_
          rintro e w141 ⟨rfl, hd_⟩
          refine ⟨_, rfl, ?_⟩
          have hb_ := hd_.below
          clear hd_
          clear hc0 hc1 hc2 hc3 hf1 hf2 hf3
          have H142 := Aside0.mk (H102.out.step hb_)
          have n43_ := Aside0.mk (St.below HS.out hb_)
          clear HS
          have HS := n43_
          clear n43_
          have n44_ := Aside0.mk (HT.out.trans (Stp.of_below hb_ _))
          clear HT
          have HT := n44_
          clear n44_
          clear hb_ H102
          by_cases mD : A ∈ d
          · have MD := Aside0.mk mD
            rw [decide_eq_true mD]
            clear mD
            have hc0 : w141.cell? ⟨g, 0, none⟩ = some (.slice A0 d.length c0) := (blk_cell H142.out.gt1 0).trans rfl
            have hc1 : w141.cell? ⟨g, 1, none⟩ = some (.slice A1 u.length c1) := (blk_cell H142.out.gt1 1).trans rfl
            have hc2 : w141.cell? ⟨g, 2, none⟩ = some (.int .i64 a) := (blk_cell H142.out.gt1 2).trans rfl
            have hc3 : w141.cell? ⟨g, 3, none⟩ = some (.slice A3 t.length c3) := (blk_cell H142.out.gt1 3).trans rfl
            have hf1 : w141.cell? ⟨g3, 1, none⟩ = some (.int .i64 2) := (blk_cell H142.out.gt0 1).trans rfl
            have hf2 : w141.cell? ⟨g3, 2, none⟩ = some (.int .u32 A) := (blk_cell H142.out.gt0 2).trans rfl
            have hf3 : w141.cell? ⟨g3, 3, none⟩ = some (.int .u32 B) := (blk_cell H142.out.gt0 3).trans rfl
            go_wp2_with (first | ((with_reducible refine gate_callee (f := 104) rfl ?_); refine Aside0.out ?_))
            refine Aside0.mk ?_
            refine goesW (some 108) rfl ?hw45 Try.func104 (by kernel_rfl) rfl #[.slice A0 d.length c0, .int .i64 A] rfl (by (try simp only [List.map_toArray, List.map_cons, List.map_nil]); first | done | rfl) ?_
            case hw45 => rfl
            refine (without_calls (Kd.R_reads' HS.out.d).2.2 (Kd.R_reads' HS.out.d).2.1 HGd.out MD.out).mono ?_
            rintro e w145 ⟨v9, rfl, hr_, hb_⟩
            refine ⟨_, rfl, ?_⟩
            clear hc0 hc1 hc2 hc3 hf1 hf2 hf3
            obtain ⟨A4, c4, e4⟩ := Kd.R_slice hr_
            subst e4
            have HFr := Aside0.mk (show Fresh w.heap.size (.slice A0 d.length c0) (.slice A4 (P.outS d A).length c4) from fun k hk => .inr (Nat.le_trans HT.out.size (Kd.R_base hr_ k hk)))
            have HS2_ := Aside0.mk (St.newD HS.out (Nat.le_trans HBw.out HT.out.size) hr_ hb_)
            clear HS hr_
            have HS := HS2_
            clear HS2_
            have H146 := Aside0.mk (H142.out.step hb_)
            have n47_ := Aside0.mk (HT.out.trans (Stp.of_below hb_ _))
            clear HT
            have HT := n47_
            clear n47_
            clear hb_ H142
            go_wp2_with (first | ((with_reducible refine gate_store (t := 39) (p := 110) rfl ?_); refine Aside0.out ?_))
            refine Aside0.mk ?_
            refine st (o' := 0) (u := .slice A4 (P.outS d A).length c4) (seg := [.slice A4 (P.outS d A).length c4]) ?hw48 ?hN48 rfl ?hp48 ?hx48 rfl H146.out.gt1 (by kernel_rfl) ?hf48 (by simp [Value.oneCell']) ?_
            case hw48 => rfl
            case hN48 => rfl
            case hp48 => rfl
            case hx48 => rfl
            case hf48 => show 0 + 1 ≤ 4; decide
            intro w148 hb48 hS48
            have H149 := Aside0.mk (H146.out.wr1 (cs' := #[.slice A4 (P.outS d A).length c4, .slice A1 u.length c1, .int .i64 a, .slice A3 t.length c3]) hb48 hS48)
            have n50_ := Aside0.mk (St.other HS.out H146.out.gt1 (by decide) hS48)
            clear HS
            have HS := n50_
            clear n50_
            have n51_ := Aside0.mk (HT.out.trans (hS48.mono (fun k _ hk => .inl hk)))
            clear HT
            have HT := n51_
            clear n51_
            clear hb48 hS48 H146
            go_wp2
            go_ret
            have hr_ : r = some (P.outS d A, u, a, t) := by
              rw [HR.out]
              unfold P.takeS
              rw [if_neg (by decide), if_pos rfl, if_neg (by rintro ⟨h, -⟩; exact CB.out h), if_pos ⟨CZ.out, MD.out⟩]
            rw [hr_]
            first | exact ⟨rfl, .slice A4 (P.outS d A).length c4, .slice A1 u.length c1, .slice A3 t.length c3, H149.out.gt1, HS.out, HFr.out, fun k hk => .inl hk, fun k hk => .inl hk, HT.out⟩ | exact ⟨.slice A4 (P.outS d A).length c4, .slice A1 u.length c1, .slice A3 t.length c3, rfl, H149.out.gt1, HS.out, HFr.out, fun k hk => .inl hk, fun k hk => .inl hk, HT.out⟩
          · have MD := Aside0.mk mD
            rw [decide_eq_false mD]
            clear mD
            have hc0 : w141.cell? ⟨g, 0, none⟩ = some (.slice A0 d.length c0) := (blk_cell H142.out.gt1 0).trans rfl
            have hc1 : w141.cell? ⟨g, 1, none⟩ = some (.slice A1 u.length c1) := (blk_cell H142.out.gt1 1).trans rfl
            have hc2 : w141.cell? ⟨g, 2, none⟩ = some (.int .i64 a) := (blk_cell H142.out.gt1 2).trans rfl
            have hc3 : w141.cell? ⟨g, 3, none⟩ = some (.slice A3 t.length c3) := (blk_cell H142.out.gt1 3).trans rfl
            have hf1 : w141.cell? ⟨g3, 1, none⟩ = some (.int .i64 2) := (blk_cell H142.out.gt0 1).trans rfl
            have hf2 : w141.cell? ⟨g3, 2, none⟩ = some (.int .u32 A) := (blk_cell H142.out.gt0 2).trans rfl
            have hf3 : w141.cell? ⟨g3, 3, none⟩ = some (.int .u32 B) := (blk_cell H142.out.gt0 3).trans rfl
            go_wp2
            go_ret
            clear hc0 hc1 hc2 hc3 hf1 hf2 hf3
            have hr_ : r = none := by
              rw [HR.out]
              unfold P.takeS
              rw [if_neg (by decide), if_pos rfl, if_neg (by rintro ⟨h, -⟩; exact CB.out h), if_neg (by rintro ⟨-, h⟩; exact MD.out h)]
            rw [hr_]
            first | exact ⟨rfl, .slice A0 d.length c0, .slice A1 u.length c1, .slice A3 t.length c3, H142.out.gt1, HS.out, fun k hk => .inl hk, fun k hk => .inl hk, fun k hk => .inl hk, HT.out⟩ | exact ⟨.slice A0 d.length c0, .slice A1 u.length c1, .slice A3 t.length c3, rfl, H142.out.gt1, HS.out, fun k hk => .inl hk, fun k hk => .inl hk, fun k hk => .inl hk, HT.out⟩
        · have cB0 : (B == 0) = false := beq_eq_false_iff_ne.mpr cZ
          have CZ := Aside0.mk cZ
          clear cZ
          have hc0 : w101.cell? ⟨g, 0, none⟩ = some (.slice A0 d.length c0) := (blk_cell H102.out.gt1 0).trans rfl
          have hc1 : w101.cell? ⟨g, 1, none⟩ = some (.slice A1 u.length c1) := (blk_cell H102.out.gt1 1).trans rfl
          have hc2 : w101.cell? ⟨g, 2, none⟩ = some (.int .i64 a) := (blk_cell H102.out.gt1 2).trans rfl
          have hc3 : w101.cell? ⟨g, 3, none⟩ = some (.slice A3 t.length c3) := (blk_cell H102.out.gt1 3).trans rfl
          have hf1 : w101.cell? ⟨g3, 1, none⟩ = some (.int .i64 2) := (blk_cell H102.out.gt0 1).trans rfl
          have hf2 : w101.cell? ⟨g3, 2, none⟩ = some (.int .u32 A) := (blk_cell H102.out.gt0 2).trans rfl
          have hf3 : w101.cell? ⟨g3, 3, none⟩ = some (.int .u32 B) := (blk_cell H102.out.gt0 3).trans rfl
          go_wp2
          go_ret
          clear hc0 hc1 hc2 hc3 hf1 hf2 hf3
          have hr_ : r = none := by
            rw [HR.out]
            unfold P.takeS
            rw [if_neg (by decide), if_pos rfl, if_neg (by rintro ⟨h, -⟩; exact CB.out h), if_neg (by rintro ⟨h, -⟩; exact CZ.out h)]
          rw [hr_]
          first | exact ⟨rfl, .slice A0 d.length c0, .slice A1 u.length c1, .slice A3 t.length c3, H102.out.gt1, HS.out, fun k hk => .inl hk, fun k hk => .inl hk, fun k hk => .inl hk, HT.out⟩ | exact ⟨.slice A0 d.length c0, .slice A1 u.length c1, .slice A3 t.length c3, rfl, H102.out.gt1, HS.out, fun k hk => .inl hk, fun k hk => .inl hk, fun k hk => .inl hk, HT.out⟩
    · by_cases k3 : kd = 3
      · subst k3
        clear k1 k2
        by_cases cB : B ≠ 0
        · have cBb : (B != 0) = true := bne_iff_ne.mpr cB
          have CB := Aside0.mk cB
          clear cB
          have hc0 : w101.cell? ⟨g, 0, none⟩ = some (.slice A0 d.length c0) := (blk_cell H102.out.gt1 0).trans rfl
          have hc1 : w101.cell? ⟨g, 1, none⟩ = some (.slice A1 u.length c1) := (blk_cell H102.out.gt1 1).trans rfl
          have hc2 : w101.cell? ⟨g, 2, none⟩ = some (.int .i64 a) := (blk_cell H102.out.gt1 2).trans rfl
          have hc3 : w101.cell? ⟨g, 3, none⟩ = some (.slice A3 t.length c3) := (blk_cell H102.out.gt1 3).trans rfl
          have hf1 : w101.cell? ⟨g3, 1, none⟩ = some (.int .i64 3) := (blk_cell H102.out.gt0 1).trans rfl
          have hf2 : w101.cell? ⟨g3, 2, none⟩ = some (.int .u32 A) := (blk_cell H102.out.gt0 2).trans rfl
          have hf3 : w101.cell? ⟨g3, 3, none⟩ = some (.int .u32 B) := (blk_cell H102.out.gt0 3).trans rfl
          go_wp2
          go_ret
          clear hc0 hc1 hc2 hc3 hf1 hf2 hf3
          have hr_ : r = none := by
            rw [HR.out]
            unfold P.takeS
            rw [if_neg (by decide), if_neg (by decide), if_pos rfl, if_pos (.inl CB.out)]
          rw [hr_]
          first | exact ⟨rfl, .slice A0 d.length c0, .slice A1 u.length c1, .slice A3 t.length c3, H102.out.gt1, HS.out, fun k hk => .inl hk, fun k hk => .inl hk, fun k hk => .inl hk, HT.out⟩ | exact ⟨.slice A0 d.length c0, .slice A1 u.length c1, .slice A3 t.length c3, rfl, H102.out.gt1, HS.out, fun k hk => .inl hk, fun k hk => .inl hk, fun k hk => .inl hk, HT.out⟩
        · have cBb : (B != 0) = false := bne_eq_false_iff_eq.mpr (by omega)
          have CB := Aside0.mk cB
          clear cB
          by_cases cU : (u.length : Int) < A
          · have cUb : decide ((u.length : Int) < A) = true := decide_eq_true cU
            have CU := Aside0.mk cU
            clear cU
            have hc0 : w101.cell? ⟨g, 0, none⟩ = some (.slice A0 d.length c0) := (blk_cell H102.out.gt1 0).trans rfl
            have hc1 : w101.cell? ⟨g, 1, none⟩ = some (.slice A1 u.length c1) := (blk_cell H102.out.gt1 1).trans rfl
            have hc2 : w101.cell? ⟨g, 2, none⟩ = some (.int .i64 a) := (blk_cell H102.out.gt1 2).trans rfl
            have hc3 : w101.cell? ⟨g, 3, none⟩ = some (.slice A3 t.length c3) := (blk_cell H102.out.gt1 3).trans rfl
            have hf1 : w101.cell? ⟨g3, 1, none⟩ = some (.int .i64 3) := (blk_cell H102.out.gt0 1).trans rfl
            have hf2 : w101.cell? ⟨g3, 2, none⟩ = some (.int .u32 A) := (blk_cell H102.out.gt0 2).trans rfl
            have hf3 : w101.cell? ⟨g3, 3, none⟩ = some (.int .u32 B) := (blk_cell H102.out.gt0 3).trans rfl
            go_wp2
            go_ret
            clear hc0 hc1 hc2 hc3 hf1 hf2 hf3
            have hr_ : r = none := by
              rw [HR.out]
              unfold P.takeS
              rw [if_neg (by decide), if_neg (by decide), if_pos rfl, if_pos (.inr CU.out)]
            rw [hr_]
            first | exact ⟨rfl, .slice A0 d.length c0, .slice A1 u.length c1, .slice A3 t.length c3, H102.out.gt1, HS.out, fun k hk => .inl hk, fun k hk => .inl hk, fun k hk => .inl hk, HT.out⟩ | exact ⟨.slice A0 d.length c0, .slice A1 u.length c1, .slice A3 t.length c3, rfl, H102.out.gt1, HS.out, fun k hk => .inl hk, fun k hk => .inl hk, fun k hk => .inl hk, HT.out⟩
          · have cUb : decide ((u.length : Int) < A) = false := decide_eq_false cU
            have CU := Aside0.mk cU
            clear cU
            by_cases cG : a < A
            · have cGb : decide (a < A) = true := decide_eq_true cG
              have CG := Aside0.mk cG
              clear cG
              obtain ⟨m, hm⟩ : ∃ m : Nat, m = (A - a).toNat := ⟨_, rfl⟩
              have HM := Aside0.mk (show A - a = (m : Int) ∧ m ≤ t.length from by have := CG.out; have := CU.out; have := HV5.out; omega)
              have hm2 := HM.out
              have jS : IntKind.i64.wrap (A - a) = (m : Int) := by have := HLu.out; have := CU.out; have := HV5.out; rw [IntKind.wrap_i64]; omega
              clear hm
              obtain ⟨i5, hi5, _, hsz5, _⟩ := info_parts info111
              obtain ⟨A9, hA9⟩ : ∃ A9, A9 = (if c3 = m then A3 else A3.map (·.add (m * 2))) := ⟨_, rfl⟩
              have hcut : ∀ W, (Instr.slice 60 (.slice A3 t.length c3) (some (.int .i64 (m : Int))) none none).run Try.prog W = .ok (.slice A9 (t.length - m) (c3 - m)) W := fun W => by rw [hA9]; exact cut_from (P := Try.prog) 60 111 .i64 Try.underlying60 hi5 2 hsz5 A3 t.length c3 (m : Int) (by omega) (by omega) W
              have HA9 := Aside0.mk hA9
              clear hA9
              clear hi5 hsz5 hm2
              have hc0 : w101.cell? ⟨g, 0, none⟩ = some (.slice A0 d.length c0) := (blk_cell H102.out.gt1 0).trans rfl
              have hc1 : w101.cell? ⟨g, 1, none⟩ = some (.slice A1 u.length c1) := (blk_cell H102.out.gt1 1).trans rfl
              have hc2 : w101.cell? ⟨g, 2, none⟩ = some (.int .i64 a) := (blk_cell H102.out.gt1 2).trans rfl
              have hc3 : w101.cell? ⟨g, 3, none⟩ = some (.slice A3 t.length c3) := (blk_cell H102.out.gt1 3).trans rfl
              have hf1 : w101.cell? ⟨g3, 1, none⟩ = some (.int .i64 3) := (blk_cell H102.out.gt0 1).trans rfl
              have hf2 : w101.cell? ⟨g3, 2, none⟩ = some (.int .u32 A) := (blk_cell H102.out.gt0 2).trans rfl
              have hf3 : w101.cell? ⟨g3, 3, none⟩ = some (.int .u32 B) := (blk_cell H102.out.gt0 3).trans rfl
              go_wp2
              clear hc0 hc1 hc2 hc3 hf1 hf2 hf3
              have H153 := Aside0.mk H102.out.drew
              have n54_ := Aside0.mk (St.below HS.out (below_drew1 (Below.refl w101.heap.size w101)))
              clear HS
              have HS := n54_
              clear n54_
              have n55_ := Aside0.mk (HT.out.trans (Stp.of_below (below_drew1 (Below.refl w101.heap.size w101)) _))
              clear HT
              have HT := n55_
              clear n55_
              refine start_ (n := 16) (S := fun w' => w'.cell? ⟨g, 3, none⟩ = some (.slice A3 t.length c3) ∧ w'.cell? ⟨g, 2, none⟩ = some (.int .i64 a)) (ds := [15]) #[false, false, false, false, false, false, false, false, false, false, false, false, false, false, false, false] (by kernel_rfl) rfl rfl ⟨(blk_cell H153.out.gt1 3).trans rfl, (blk_cell H153.out.gt1 2).trans rfl⟩ (fun hHeld => ?_)
              clear H102
              generalize w101.drew = w152 at H153 HS HT hHeld ⊢
              refine pure_ (i := 0) (N := some 131) (v := ?_) (a' := ?_) #[true, false, false, false, false, false, false, false, false, false, false, false, false, false, false, false] rfl rfl (by kernel_rfl) (fun _ _ _ h => h) (Or.inl ⟨by rfl, ?_⟩) ?_ ?_
              rotate_left
              · intro w'
                go_simp
                with_reducible rfl
              rotate_left
              · simp only [Act.put, List.setIfInBounds_toArray, List.set_cons_zero, List.set_cons_succ, i64_w, i32_w]
                rfl
              refine pure_ (i := 1) (N := some 132) (v := ?_) (a' := ?_) #[true, true, false, false, false, false, false, false, false, false, false, false, false, false, false, false] rfl rfl (by kernel_rfl) (fun _ _ _ h => h) (Or.inl ⟨by rfl, ?_⟩) ?_ ?_
              rotate_left
              · intro w'
                go_simp
                with_reducible rfl
              rotate_left
              · simp only [Act.put, List.setIfInBounds_toArray, List.set_cons_zero, List.set_cons_succ, i64_w, i32_w]
                rfl
              refine pure_ (i := 2) (N := some 133) (v := ?_) (a' := ?_) #[true, true, true, false, false, false, false, false, false, false, false, false, false, false, false, false] rfl rfl (by kernel_rfl) (fun _ _ _ h => h) (Or.inl ⟨by rfl, ?_⟩) ?_ ?_
              rotate_left
              · intro w'
                go_simp
                with_reducible rfl
              rotate_left
              · simp only [Act.put, List.setIfInBounds_toArray, List.set_cons_zero, List.set_cons_succ, i64_w, i32_w]
                rfl
              refine pure_ (i := 3) (N := some 134) (v := ?_) (a' := ?_) #[true, true, true, true, false, false, false, false, false, false, false, false, false, false, false, false] rfl rfl (by kernel_rfl) (fun _ _ _ h => h) (Or.inl ⟨by rfl, ?_⟩) ?_ ?_
              rotate_left
              · intro w'
                go_simp
                with_reducible rfl
              rotate_left
              · simp only [Act.put, List.setIfInBounds_toArray, List.set_cons_zero, List.set_cons_succ, i64_w, i32_w]
                rfl
              refine take_ (i := 4) (N := some 135) (v := ?_) (a' := ?_) #[true, true, true, true, true, false, false, false, false, false, false, false, false, false, false, false] rfl rfl (by kernel_rfl) (fun _ _ _ h => h) (Or.inl ⟨by rfl, ?_⟩) hHeld ?_ ?_
              rotate_left
              · rintro w' ⟨s0, s1⟩
                go_simp
                with_reducible rfl
              rotate_left
              · simp only [Act.put, List.setIfInBounds_toArray, List.set_cons_zero, List.set_cons_succ, i64_w, i32_w]
                rfl
              refine pure_ (i := 5) (N := some 136) (v := ?_) (a' := ?_) #[true, true, true, true, true, true, false, false, false, false, false, false, false, false, false, false] rfl rfl (by kernel_rfl) (fun _ _ _ h => h) (Or.inl ⟨by rfl, ?_⟩) ?_ ?_
              rotate_left
              · intro w'
                go_simp
                with_reducible rfl
              rotate_left
              · simp only [Act.put, List.setIfInBounds_toArray, List.set_cons_zero, List.set_cons_succ, i64_w, i32_w]
                rfl
              refine pure_ (i := 6) (N := some 137) (v := ?_) (a' := ?_) #[true, true, true, true, true, true, true, false, false, false, false, false, false, false, false, false] rfl rfl (by kernel_rfl) (fun _ _ _ h => h) (Or.inl ⟨by rfl, ?_⟩) ?_ ?_
              rotate_left
              · intro w'
                go_simp
                with_reducible rfl
              rotate_left
              · simp only [Act.put, List.setIfInBounds_toArray, List.set_cons_zero, List.set_cons_succ, i64_w, i32_w]
                rfl
              refine pure_ (i := 7) (N := some 138) (v := ?_) (a' := ?_) #[true, true, true, true, true, true, true, true, false, false, false, false, false, false, false, false] rfl rfl (by kernel_rfl) (fun _ _ _ h => h) (Or.inl ⟨by rfl, ?_⟩) ?_ ?_
              rotate_left
              · intro w'
                go_simp
                with_reducible rfl
              rotate_left
              · simp only [Act.put, List.setIfInBounds_toArray, List.set_cons_zero, List.set_cons_succ, i64_w, i32_w]
                rfl
              refine pure_ (i := 8) (N := some 139) (v := ?_) (a' := ?_) #[true, true, true, true, true, true, true, true, true, false, false, false, false, false, false, false] rfl rfl (by kernel_rfl) (fun _ _ _ h => h) (Or.inl ⟨by rfl, ?_⟩) ?_ ?_
              rotate_left
              · intro w'
                go_simp
                with_reducible rfl
              rotate_left
              · simp only [Act.put, List.setIfInBounds_toArray, List.set_cons_zero, List.set_cons_succ, i64_w, i32_w]
                rfl
              refine take_ (i := 9) (N := some 140) (v := ?_) (a' := ?_) #[true, true, true, true, true, true, true, true, true, true, false, false, false, false, false, false] rfl rfl (by kernel_rfl) (fun _ _ _ h => h) (Or.inl ⟨by rfl, ?_⟩) hHeld ?_ ?_
              rotate_left
              · rintro w' ⟨s0, s1⟩
                go_simp
                with_reducible rfl
              rotate_left
              · simp only [Act.put, List.setIfInBounds_toArray, List.set_cons_zero, List.set_cons_succ, i64_w, i32_w]
                rfl
              refine pure_ (i := 10) (N := some 141) (v := ?_) (a' := ?_) #[true, true, true, true, true, true, true, true, true, true, true, false, false, false, false, false] rfl rfl (by kernel_rfl) (fun _ _ _ h => h) (Or.inl ⟨by rfl, ?_⟩) ?_ ?_
              rotate_left
              · intro w'
                go_simp
                with_reducible rfl
              rotate_left
              · simp only [Act.put, List.setIfInBounds_toArray, List.set_cons_zero, List.set_cons_succ, i64_w, i32_w]
                rfl
              refine pure_ (i := 11) (N := some 142) (v := ?_) (a' := ?_) #[true, true, true, true, true, true, true, true, true, true, true, true, false, false, false, false] rfl rfl (by kernel_rfl) (fun _ _ _ h => h) (Or.inl ⟨by rfl, ?_⟩) ?_ ?_
              rotate_left
              · intro w'
                go_simp
                with_reducible rfl
              rotate_left
              · simp only [Act.put, List.setIfInBounds_toArray, List.set_cons_zero, List.set_cons_succ, i64_w, i32_w]
                rfl
              refine one_ (i := 12) (N := some 143) #[true, true, true, true, true, true, true, true, true, true, true, true, true, false, false, false] rfl rfl (by kernel_rfl) (by decide) (fun K hK => ?_)
              refine goes_ Try.func100 (by kernel_rfl) rfl #[.slice A9 (t.drop m).length (c3 - m)] (by rfl) rfl rfl (by (try simp only [List.map_toArray, List.map_cons, List.map_nil]); first | done | rfl | (simp only [List.length_drop]; rfl)) ?_
              refine (impl_TapRec.calls _ _ (t.drop m) (t.drop m) _ (by rw [HA9.out]; exact Kd.C_drop (Kd.R_reads' HS.out.t).2.2 HM.out.2 (Kd.R_reads' HS.out.t).2.1) (by have := (Kd.R_reads' HS.out.t).2.1; rw [List.length_drop]; omega) (if_pos (by have := HV5.out; have := HLu.out; rw [List.length_drop]; omega))).mono ?_
              rintro e w156 ⟨v8, rfl, ho, hb_⟩
              refine ⟨_, rfl, ?_⟩
              obtain ⟨A8, c8, e8⟩ := Kd.R_slice ho
              subst e8
              have HFt := Aside0.mk (show Fresh w.heap.size (.slice A3 t.length c3) (.slice A8 (t.drop m).length c8) from fun k hk => .inr (Nat.le_trans HT.out.size (Kd.R_base ho k hk)))
              have HS2_ := Aside0.mk (St.newT HS.out (Nat.le_trans HBw.out HT.out.size) ho hb_)
              clear HS ho
              have HS := HS2_
              clear HS2_
              have H157 := Aside0.mk (H153.out.step hb_)
              have n58_ := Aside0.mk (HT.out.trans (Stp.of_below hb_ _))
              clear HT
              have HT := n58_
              clear n58_
              clear hb_ H153
              refine hK.out _ _ ⟨(blk_cell H157.out.gt1 3).trans rfl, (blk_cell H157.out.gt1 2).trans rfl⟩ (fun hHeld => ?_)
              clear hK K
              refine norm_ (a' := ?_) ?_ ?_
              rotate_left
              · show Act.put _ (some 143) _ = _
                simp only [Act.put, List.setIfInBounds_toArray, List.set_cons_zero, List.set_cons_succ, i64_w, i32_w]
                rfl
              refine pure_ (i := 13) (N := some 144) (v := ?_) (a' := ?_) #[true, true, true, true, true, true, true, true, true, true, true, true, true, true, false, false] rfl rfl (by kernel_rfl) (fun _ _ _ h => h) (Or.inl ⟨by rfl, ?_⟩) ?_ ?_
              rotate_left
              · intro w'
                go_simp
                with_reducible rfl
              rotate_left
              · simp only [Act.put, List.setIfInBounds_toArray, List.set_cons_zero, List.set_cons_succ, i64_w, i32_w]
                rfl
              refine pure_ (i := 14) (N := some 145) (v := ?_) (a' := ?_) #[true, true, true, true, true, true, true, true, true, true, true, true, true, true, true, false] rfl rfl (by kernel_rfl) (fun _ _ _ h => h) (Or.inl ⟨by rfl, ?_⟩) ?_ ?_
              rotate_left
              · intro w'
                go_simp
                with_reducible rfl
              rotate_left
              · simp only [Act.put, List.setIfInBounds_toArray, List.set_cons_zero, List.set_cons_succ, i64_w, i32_w]
                rfl
              refine last_ (i := 15) (N := none) #[true, true, true, true, true, true, true, true, true, true, true, true, true, true, true, true] rfl rfl (by kernel_rfl) (by decide) (fun K hK => ?_)
              refine st_part_step (o' := 3) (u := .slice A8 (t.drop m).length c8) (seg := [.slice A8 (t.drop m).length c8]) (by rfl) rfl rfl ?hp59 ?hx59 rfl H157.out.gt1 (by kernel_rfl) (by show 3 + 1 ≤ 4; decide) (by simp [Value.oneCell']) ?_
              case hp59 => rfl
              case hx59 => rfl
              intro w159 hb59 hS59
              have H160 := Aside0.mk (H157.out.wr1 (cs' := #[.slice A0 d.length c0, .slice A1 u.length c1, .int .i64 a, .slice A8 (t.drop m).length c8]) hb59 hS59)
              have n61_ := Aside0.mk (St.other HS.out H157.out.gt1 (by decide) hS59)
              clear HS
              have HS := n61_
              clear n61_
              have n62_ := Aside0.mk (HT.out.trans (hS59.mono (fun k _ hk => .inl hk)))
              clear HT
              have HT := n62_
              clear n62_
              clear hb59 hS59 H157
              refine hK.out _ _ ?_
              clear hK K
              refine done_ (by kernel_rfl) ?_
              try dsimp only
              go_wp2_with (first | ((with_reducible refine gate_store (t := 2) (p := 149) rfl ?_); refine Aside0.out ?_))
              refine Aside0.mk ?_
              refine st (o' := 2) (u := .int .i64 A) (seg := [.int .i64 A]) ?hw63 ?hN63 rfl ?hp63 ?hx63 rfl H160.out.gt1 (by kernel_rfl) ?hf63 (by simp [Value.oneCell']) ?_
              case hw63 => rfl
              case hN63 => rfl
              case hp63 => rfl
              case hx63 => rfl
              case hf63 => show 2 + 1 ≤ 4; decide
              intro w163 hb63 hS63
              have H164 := Aside0.mk (H160.out.wr1 (cs' := #[.slice A0 d.length c0, .slice A1 u.length c1, .int .i64 A, .slice A8 (t.drop m).length c8]) hb63 hS63)
              have n65_ := Aside0.mk (St.other HS.out H160.out.gt1 (by decide) hS63)
              clear HS
              have HS := n65_
              clear n65_
              have n66_ := Aside0.mk (HT.out.trans (hS63.mono (fun k _ hk => .inl hk)))
              clear HT
              have HT := n66_
              clear n66_
              clear hb63 hS63 H160
              go_wp2
              go_ret
              have hr_ : r = some (d, u, A, t.drop m) := by
                rw [HR.out]
                unfold P.takeS
                rw [if_neg (by decide), if_neg (by decide), if_pos rfl, if_neg (by rintro (h | h); exact h (by have := CB.out; omega); have := CU.out; omega), if_pos CG.out, show (A - a).toNat = m from by have := HM.out; omega]
              rw [hr_]
              first | exact ⟨rfl, .slice A0 d.length c0, .slice A1 u.length c1, .slice A8 (t.drop m).length c8, H164.out.gt1, HS.out, fun k hk => .inl hk, fun k hk => .inl hk, HFt.out, HT.out⟩ | exact ⟨.slice A0 d.length c0, .slice A1 u.length c1, .slice A8 (t.drop m).length c8, rfl, H164.out.gt1, HS.out, fun k hk => .inl hk, fun k hk => .inl hk, HFt.out, HT.out⟩
            · have cGb : decide (a < A) = false := decide_eq_false cG
              have CG := Aside0.mk cG
              clear cG
              have hc0 : w101.cell? ⟨g, 0, none⟩ = some (.slice A0 d.length c0) := (blk_cell H102.out.gt1 0).trans rfl
              have hc1 : w101.cell? ⟨g, 1, none⟩ = some (.slice A1 u.length c1) := (blk_cell H102.out.gt1 1).trans rfl
              have hc2 : w101.cell? ⟨g, 2, none⟩ = some (.int .i64 a) := (blk_cell H102.out.gt1 2).trans rfl
              have hc3 : w101.cell? ⟨g, 3, none⟩ = some (.slice A3 t.length c3) := (blk_cell H102.out.gt1 3).trans rfl
              have hf1 : w101.cell? ⟨g3, 1, none⟩ = some (.int .i64 3) := (blk_cell H102.out.gt0 1).trans rfl
              have hf2 : w101.cell? ⟨g3, 2, none⟩ = some (.int .u32 A) := (blk_cell H102.out.gt0 2).trans rfl
              have hf3 : w101.cell? ⟨g3, 3, none⟩ = some (.int .u32 B) := (blk_cell H102.out.gt0 3).trans rfl
              go_wp2
              go_ret
              clear hc0 hc1 hc2 hc3 hf1 hf2 hf3
              have hr_ : r = some (d, u, a, t) := by
                rw [HR.out]
                unfold P.takeS
                rw [if_neg (by decide), if_neg (by decide), if_pos rfl, if_neg (by rintro (h | h); exact h (by have := CB.out; omega); have := CU.out; omega), if_neg (by have := CG.out; omega)]
              rw [hr_]
              first | exact ⟨rfl, .slice A0 d.length c0, .slice A1 u.length c1, .slice A3 t.length c3, H102.out.gt1, HS.out, fun k hk => .inl hk, fun k hk => .inl hk, fun k hk => .inl hk, HT.out⟩ | exact ⟨.slice A0 d.length c0, .slice A1 u.length c1, .slice A3 t.length c3, rfl, H102.out.gt1, HS.out, fun k hk => .inl hk, fun k hk => .inl hk, fun k hk => .inl hk, HT.out⟩
      · have kb1 : (kd == 1) = false := beq_eq_false_iff_ne.mpr k1
        have kb2 : (kd == 2) = false := beq_eq_false_iff_ne.mpr k2
        have kb3 : (kd == 3) = false := beq_eq_false_iff_ne.mpr k3
        have K1 := Aside0.mk k1
        have K2 := Aside0.mk k2
        have K3 := Aside0.mk k3
        clear k1 k2 k3
        have hc0 : w101.cell? ⟨g, 0, none⟩ = some (.slice A0 d.length c0) := (blk_cell H102.out.gt1 0).trans rfl
        have hc1 : w101.cell? ⟨g, 1, none⟩ = some (.slice A1 u.length c1) := (blk_cell H102.out.gt1 1).trans rfl
        have hc2 : w101.cell? ⟨g, 2, none⟩ = some (.int .i64 a) := (blk_cell H102.out.gt1 2).trans rfl
        have hc3 : w101.cell? ⟨g, 3, none⟩ = some (.slice A3 t.length c3) := (blk_cell H102.out.gt1 3).trans rfl
        have hf1 : w101.cell? ⟨g3, 1, none⟩ = some (.int .i64 kd) := (blk_cell H102.out.gt0 1).trans rfl
        have hf2 : w101.cell? ⟨g3, 2, none⟩ = some (.int .u32 A) := (blk_cell H102.out.gt0 2).trans rfl
        have hf3 : w101.cell? ⟨g3, 3, none⟩ = some (.int .u32 B) := (blk_cell H102.out.gt0 3).trans rfl
        go_wp2
        go_ret
        clear hc0 hc1 hc2 hc3 hf1 hf2 hf3
        have hr_ : r = none := by
          rw [HR.out]
          unfold P.takeS
          rw [if_neg K1.out, if_neg K2.out, if_neg K3.out]
        rw [hr_]
        first | exact ⟨rfl, .slice A0 d.length c0, .slice A1 u.length c1, .slice A3 t.length c3, H102.out.gt1, HS.out, fun k hk => .inl hk, fun k hk => .inl hk, fun k hk => .inl hk, HT.out⟩ | exact ⟨.slice A0 d.length c0, .slice A1 u.length c1, .slice A3 t.length c3, rfl, H102.out.gt1, HS.out, fun k hk => .inl hk, fun k hk => .inl hk, fun k hk => .inl hk, HT.out⟩
end Go.Proofs.Ytgfadfahbhcllaa.Q
end
