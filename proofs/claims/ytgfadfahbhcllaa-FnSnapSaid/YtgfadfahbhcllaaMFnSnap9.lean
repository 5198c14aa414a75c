/- Part 9 of 9 of the proof that the law FnSnap returns true at every input. No further condition. -/
import Derived.Test.YtgfadfahbhcllaaRows
import Derived.WalkKit
import Derived.ProofKit
import Derived.OpenShut
import Derived.ShutString
import Derived.ChangeOld
import Derived.Below
import Derived.SizedLaws
import Derived.Test.YtgfadfahbhcllaaMFnSnap8
section
namespace Go.Proofs.Ytgfadfahbhcllaa.P
open Go.RowKit Go.Proofs.YtgfadfahbhcllaaW.PrintWords Go.Proofs.YtgfadfahbhcllaaW.PrintMore Go.Proofs.Ytgfadfahbhcllaa.Q
set_option linter.unusedVariables false
set_option linter.unusedSimpArgs false
theorem asc_eq : ∀ {l m : List Int}, l.Pairwise (· < ·) → m.Pairwise (· < ·) → (∀ x, x ∈ l ↔ x ∈ m) → l = m
 | [], [], _, _, _ => rfl
 | [], y :: m, _, _, h => absurd ((h y).2 List.mem_cons_self) List.not_mem_nil
 | x :: l, [], _, _, h => absurd ((h x).1 List.mem_cons_self) List.not_mem_nil
 | x :: l, y :: m, hl, hm, h => by
  rw [List.pairwise_cons] at hl hm
  have hxy : x = y := by
   rcases List.mem_cons.1 ((h x).1 List.mem_cons_self) with e | e
   ·exact e
   ·rcases List.mem_cons.1 ((h y).2 List.mem_cons_self) with e2 | e2
    ·exact e2.symm
    ·have h1 := hm.1 x e
     have h2 := hl.1 y e2
     omega
  subst hxy
  rw [asc_eq hl.2 hm.2 (fun z => ⟨fun hz => ?_, fun hz => ?_⟩)]
  ·rcases List.mem_cons.1 ((h z).1 (List.mem_cons_of_mem _ hz)) with e | e
   ·subst e; exact absurd (hl.1 _ hz) (by omega)
   ·exact e
  ·rcases List.mem_cons.1 ((h z).2 (List.mem_cons_of_mem _ hz)) with e | e
   ·subst e; exact absurd (hm.1 _ hz) (by omega)
   ·exact e
theorem rd_elem {l : List Int} {i : Nat} (hi : i < l.length) : rd l (i : Int) = l[i] := rd_at (List.getElem?_eq_getElem hi)
theorem goodS_asc {l : List Int} (h : goodS l = true) : l.Pairwise (· < ·) := by
 rw [List.pairwise_iff_getElem]
 intro i j hi hj hij
 have := goodS_lt h j i hij hj
 rwa [rd_elem hi, rd_elem hj] at this
theorem goodS_of {l : List Int} (h : l.Pairwise (· < ·)) (hr : ∀ x ∈ l, 0 ≤ x ∧ x < 256) : goodS l = true := by
 unfold goodS
 rw [List.all_eq_true]
 intro i hi
 have hi := List.mem_range.1 hi
 have h1 := hr _ (rd_mem hi)
 refine decide_eq_true ⟨h1.1, h1.2, fun h0 => ?_⟩
 have hp := (List.pairwise_iff_getElem.1 h) (i - 1) i (by omega) hi (by omega)
 rw [show ((i : Int) - 1) = ((i - 1 : Nat) : Int) from by omega, rd_elem (by omega), rd_elem hi]
 exact hp
def withS (xs : List Int) (x : Int) : List Int := ((List.range 256).filter fun (v : Nat) => decide ((v : Int) = x ∨ (v : Int) ∈ xs)).map fun (v : Nat) => (v : Int)
theorem withS_asc (xs : List Int) (x : Int) : (withS xs x).Pairwise (· < ·) := by
 unfold withS
 rw [List.pairwise_map]
 exact (List.pairwise_lt_range.filter _).imp (fun h => by omega)
theorem withS_mem {xs : List Int} {x : Int} (h : ∀ y ∈ xs, 0 ≤ y ∧ y < 256) (hx : 0 ≤ x ∧ x < 256) {y : Int} : y ∈ withS xs x ↔ y = x ∨ y ∈ xs := by
 unfold withS
 rw [List.mem_map]
 constructor
 ·rintro ⟨v, hv, rfl⟩
  rw [List.mem_filter] at hv
  exact of_decide_eq_true hv.2
 ·intro hy
  have hr : 0 ≤ y ∧ y < 256 := hy.elim (fun e => e ▸ hx) (h y)
  refine ⟨y.toNat, List.mem_filter.2 ⟨List.mem_range.2 (by omega), decide_eq_true ?_⟩, by omega⟩
  rw [show ((y.toNat : Nat) : Int) = y from by omega]
  exact hy
theorem withS_good {xs : List Int} {x : Int} (h : goodS xs = true) (hx : 0 ≤ x ∧ x < 256) : goodS (withS xs x) = true :=
 goodS_of (withS_asc xs x) (fun y hy => ((withS_mem (fun z hz => goodS_mem h hz) hx).1 hy).elim (fun e => e ▸ hx) (fun hm => goodS_mem h hm))
theorem take_lt {l : List Int} {x : Int} {n : Nat} (h : ∀ i, i < n → rd l (i : Int) < x) : ∀ y ∈ l.take n, y < x := by
 intro y hy
 obtain ⟨i, hi⟩ := List.mem_iff_getElem?.1 hy
 rw [List.getElem?_take] at hi
 by_cases hin : i < n
 ·rw [if_pos hin] at hi
  have := h i hin
  rwa [rd_at hi] at this
 ·rw [if_neg hin] at hi; cases hi
theorem drop_ge {l : List Int} {x : Int} {n : Nat} (h : ∀ i, n ≤ i → i < l.length → x ≤ rd l (i : Int)) : ∀ y ∈ l.drop n, x ≤ y := by
 intro y hy
 obtain ⟨i, hi⟩ := List.mem_iff_getElem?.1 hy
 rw [List.getElem?_drop] at hi
 have := h (n + i) (by omega) (List.getElem?_eq_some_iff.1 hi).1
 rwa [rd_at hi] at this
theorem put_in {l : List Int} {x : Int} {n : Nat} (hg : goodS l = true) (hx : 0 ≤ x ∧ x < 256) (hn : x ∉ l) (h1 : ∀ i, i < n → rd l (i : Int) < x) (h2 : ∀ i, n ≤ i → i < l.length → x ≤ rd l (i : Int)) : l.take n ++ [x] ++ l.drop n = withS l x := by
 have hp := goodS_asc hg
 have hlt := take_lt h1
 have hge := drop_ge h2
 have hgt : ∀ y ∈ l.drop n, x < y := fun y hy => by
  have a := hge y hy
  have b : x ≠ y := fun e => hn (e ▸ List.mem_of_mem_drop hy)
  omega
 have hsplit := (List.take_append_drop n l) ▸ hp
 rw [List.pairwise_append] at hsplit
 refine asc_eq ?_ (withS_asc l x) (fun y => ?_)
 ·rw [List.append_assoc, List.pairwise_append]
  refine ⟨hsplit.1, ?_, fun a ha b hb => ?_⟩
  ·rw [List.singleton_append, List.pairwise_cons]
   exact ⟨hgt, hsplit.2.1⟩
  ·rw [List.singleton_append] at hb
   rcases List.mem_cons.1 hb with e | e
   ·exact e ▸ hlt a ha
   ·have := hlt a ha; have := hgt b e; omega
 ·rw [withS_mem (fun z hz => goodS_mem hg hz) hx]
  constructor
  ·intro hy
   rcases List.mem_append.1 hy with hy | hy
   ·rcases List.mem_append.1 hy with hy | hy
    ·exact .inr (List.mem_of_mem_take hy)
    ·exact .inl (List.mem_singleton.1 hy)
   ·exact .inr (List.mem_of_mem_drop hy)
  ·rintro (rfl | hy)
   ·simp
   ·rw [← List.take_append_drop n l] at hy
    rcases List.mem_append.1 hy with h | h
    ·exact List.mem_append_left _ (List.mem_append_left _ h)
    ·exact List.mem_append_right _ h
theorem withS_length {l : List Int} {x : Int} (hg : goodS l = true) (hx : 0 ≤ x ∧ x < 256) (hn : x ∉ l) : (withS l x).length = l.length + 1 := by
 have key : ∃ n, n ≤ l.length ∧ (∀ i, i < n → rd l (i : Int) < x) ∧ (∀ i, n ≤ i → i < l.length → x ≤ rd l (i : Int)) := by
  have : ∀ m, m ≤ l.length → ∃ n, n ≤ m ∧ (∀ i, i < n → rd l (i : Int) < x) ∧ (∀ i, n ≤ i → i < m → x ≤ rd l (i : Int)) := by
   intro m
   induction m with
   | zero => exact fun _ => ⟨0, by omega, fun i hi => by omega, fun i _ hi => by omega⟩
   | succ m ih =>
    intro hm
    obtain ⟨n, a, b, c⟩ := ih (by omega)
    by_cases hlt : rd l (m : Int) < x
    ·refine ⟨m + 1, by omega, fun i hi => ?_, fun i h1 h2 => by omega⟩
     by_cases e : i = m
     ·subst e; exact hlt
     ·have := goodS_lt hg m i (by omega) (by omega); omega
    ·refine ⟨n, by omega, b, fun i h1 h2 => ?_⟩
     by_cases e : i = m
     ·subst e; omega
     ·exact c i h1 (by omega)
  exact this l.length (Nat.le_refl _)
 obtain ⟨n, a, b, c⟩ := key
 rw [← put_in hg hx hn b c]
 simp
 omega
end Go.Proofs.Ytgfadfahbhcllaa.P
end
section
namespace Go.Proofs.Ytgfadfahbhcllaa.Q
open Go.RowKit Go.Proofs.YtgfadfahbhcllaaW.PrintWords Go.Proofs.YtgfadfahbhcllaaW.PrintLast Go.Proofs.Ytgfadfahbhcllaa.LK Go.Proofs.YtgfadfahbhcllaaW.PrintMore
attribute [local go_sem] max2_int min2_int max_two min_two max_three min_three max_four min_four
set_option linter.unusedVariables false
set_option linter.unusedSimpArgs false
end Go.Proofs.Ytgfadfahbhcllaa.Q
end
section
namespace Go.Proofs.Ytgfadfahbhcllaa.Q
open Go.RowKit Go.Proofs.YtgfadfahbhcllaaW.PrintWords Go.Proofs.YtgfadfahbhcllaaW.PrintLast Go.Proofs.Ytgfadfahbhcllaa.LK Go.Proofs.YtgfadfahbhcllaaW.PrintMore
attribute [local go_sem] max2_int min2_int max_two min_two max_three min_three max_four min_four
set_option linter.unusedVariables false
set_option linter.unusedSimpArgs false
end Go.Proofs.Ytgfadfahbhcllaa.Q
end
section
namespace Go.Proofs.Ytgfadfahbhcllaa.Q
open Go.RowKit Go.Proofs.YtgfadfahbhcllaaW.PrintWords Go.Proofs.YtgfadfahbhcllaaW.PrintLast Go.Proofs.Ytgfadfahbhcllaa.LK Go.Proofs.YtgfadfahbhcllaaW.PrintMore
attribute [local go_sem] max2_int min2_int max_two min_two max_three min_three max_four min_four
set_option linter.unusedVariables false
set_option linter.unusedSimpArgs false
end Go.Proofs.Ytgfadfahbhcllaa.Q
end
section
namespace Go.Proofs.Ytgfadfahbhcllaa.Q
open Go.RowKit Go.Proofs.YtgfadfahbhcllaaW.PrintWords Go.Proofs.YtgfadfahbhcllaaW.PrintLast Go.Proofs.Ytgfadfahbhcllaa.LK Go.Proofs.YtgfadfahbhcllaaW.PrintMore
attribute [local go_sem] max2_int min2_int max_two min_two max_three min_three max_four min_four
set_option linter.unusedVariables false
set_option linter.unusedSimpArgs false
end Go.Proofs.Ytgfadfahbhcllaa.Q
end
section
namespace Go.Proofs.Ytgfadfahbhcllaa.P
open Go.RowKit Go.Proofs.YtgfadfahbhcllaaW.PrintWords Go.Proofs.YtgfadfahbhcllaaW.PrintMore Go.Proofs.Ytgfadfahbhcllaa.Q
set_option linter.unusedVariables false
set_option linter.unusedSimpArgs false
theorem and_byte (x : Int) : 0 ≤ Go.bits .and .i64 x 255 ∧ Go.bits .and .i64 x 255 ≤ 255 := by
 have h : (BitVec.ofInt 64 x).toNat &&& 255 < 2 ^ 8 := Nat.and_lt_two_pow _ (by decide)
 unfold Go.bits
 rw [IntKind.wrap_i64]
 have e : ((BitVec.ofInt IntKind.i64.bits x) &&& (BitVec.ofInt IntKind.i64.bits 255)).toNat = (BitVec.ofInt 64 x).toNat &&& 255 := by
  rw [BitVec.toNat_and]
  rfl
 simp only [e]
 omega
theorem bits_u8 (op : BinOp) (x y : Int) : 0 ≤ Go.bits op .u8 x y ∧ Go.bits op .u8 x y ≤ 255 := by
 unfold Go.bits
 rw [IntKind.wrap_u8]
 omega
def Cur (l : List Int) (i : Int) : Prop := 0 ≤ i ∧ i ≤ l.length
theorem byte_is {l : List Int} {i h : Int} (hl : l.length ≤ 1048576) (hc : Cur l i) : ∃ x i' h', spec_l1Byte.f l i h = some (x, i', h') ∧ 0 ≤ x ∧ x ≤ 255 ∧ Cur l i' := by
 unfold Cur at *
 simp only [spec_l1Byte.f]
 by_cases c : i < (l.length : Int)
 ·rw [if_pos c, if_pos hc.1]
  refine ⟨_, _, _, rfl, (and_byte _).1, (and_byte _).2, ?_⟩
  rw [w64 (n := i + 1) (by omega) (by omega)]
  omega
 ·rw [if_neg c]
  exact ⟨_, _, _, rfl, (and_byte _).1, (and_byte _).2, hc⟩
theorem tmod_range {x n : Int} (h0 : 0 ≤ x) (hn : 0 < n) : 0 ≤ Int.tmod x n ∧ Int.tmod x n < n := by
 rw [Int.tmod_eq_emod_of_nonneg h0]
 exact ⟨Int.emod_nonneg _ (by omega), Int.emod_lt_of_pos _ hn⟩
theorem below_is {l : List Int} {i h n : Int} (hl : l.length ≤ 1048576) (hc : Cur l i) (hn : 0 < n) : ∃ x i' h', spec_l1Below.f l i h n = some (x, i', h') ∧ 0 ≤ x ∧ x < n ∧ Cur l i' := by
 simp only [spec_l1Below.f]
 by_cases c : n ≤ 256
 ·rw [if_pos c]
  obtain ⟨x, i', h', e, h0, h1, hc'⟩ := byte_is (h := h) hl hc
  rw [e, Option.bind_some, if_neg (by omega)]
  exact ⟨_, _, _, rfl, (tmod_range h0 hn).1, (tmod_range h0 hn).2, hc'⟩
 ·rw [if_neg c]
  obtain ⟨x, i', h', e, h0, h1, hc'⟩ := byte_is (h := h) hl hc
  rw [e, Option.bind_some]
  obtain ⟨y, i2, h2, e2, y0, y1, hc2⟩ := byte_is (h := h') hl hc'
  rw [e2, Option.bind_some]
  obtain ⟨z, i3, h3, e3, z0, z1, hc3⟩ := byte_is (h := h2) hl hc2
  rw [e3, Option.bind_some, if_neg (by omega)]
  have ew : wrap64 (wrap64 (wrap64 (x * 65536) + wrap64 (y * 256)) + z) = x * 65536 + y * 256 + z := by
   rw [w64 (n := x * 65536) (by omega) (by omega), w64 (n := y * 256) (by omega) (by omega), w64 (n := x * 65536 + y * 256) (by omega) (by omega), w64 (n := x * 65536 + y * 256 + z) (by omega) (by omega)]
  rw [ew]
  exact ⟨_, _, _, rfl, (tmod_range (by omega) hn).1, (tmod_range (by omega) hn).2, hc3⟩
theorem once_is {l : List Int} {i h n : Int} (hl : l.length ≤ 1048576) (hc : Cur l i) (hn : 0 < n) : ∃ b i' h', spec_l1Once.f l i h n = some (b, i', h') ∧ Cur l i' := by
 obtain ⟨x, i', h', e, -, -, hc'⟩ := below_is (h := h) hl hc hn
 simp only [spec_l1Once.f, e, Option.bind_some]
 exact ⟨_, _, _, rfl, hc'⟩
theorem new_ev {l : List Int} (hl : l.length ≤ 1048576) : ∃ h, Ev (fun k => spec_l1New.f k l) (l, 0, h) := by
 simp only [spec_l1New.f]
 have key : ∀ m i x, i + m = l.length → ∃ h, Ev (fun k => spec_l1New.l0 k l x (i : Int)) (l, 0, h) := by
  intro m
  induction m with
  | zero =>
   intro i x hi
   refine ⟨x, Ev.last ⟨0, fun k _ => ?_⟩⟩
   simp only [spec_l1New.l0]
   rw [if_neg (by omega)]
  | succ m ih =>
   intro i x hi
   obtain ⟨h, e⟩ := ih (i + 1) (Go.bits .and .i64 (wrap64 ((wrap64 ((wrap64 (x * 131)) + (wrap64 (rd l i)))) + 7)) 1073741823) (by omega)
   refine ⟨h, Ev.step ⟨0, fun k _ => ?_⟩ e⟩
   simp only [spec_l1New.l0]
   rw [if_pos (by omega), if_pos (by omega), w64s (n := l.length) (by omega) (by omega)]
 exact key l.length 0 _ (by omega)
structure Fr (q kd a b : Int) : Prop where
 q : 0 ≤ q ∧ q ≤ 4294967295
 kd : -2 ≤ kd ∧ kd ≤ 6
 a : 0 ≤ a ∧ a ≤ 4294967295
 b : 0 ≤ b ∧ b ≤ 4294967295
theorem set_u8 {l : List Int} (h : U8s l) (i : Nat) {x : Int} (hx : 0 ≤ x ∧ x ≤ 255) : U8s (l.set i x) := by
 intro z hz
 rcases List.mem_or_eq_of_mem_set hz with h1 | h1
 ·exact h z h1
 ·rw [h1]; exact hx
theorem app_u8 {l m : List Int} (h : U8s l) (h2 : U8s m) : U8s (l ++ m) := fun z hz => (List.mem_append.1 hz).elim (h z) (h2 z)
theorem le_leB4 {x : Int} (h : 0 ≤ x ∧ x ≤ 4294967295) : le (leB 4 x) = x := by
 have e : leB 4 x = [x / 2 ^ (8 * 0) % 256, x / 2 ^ (8 * 1) % 256, x / 2 ^ (8 * 2) % 256, x / 2 ^ (8 * 3) % 256] := rfl
 rw [e]
 simp only [le]
 have e0 : (2 : Int) ^ (8 * 0) = 1 := rfl
 have e1 : (2 : Int) ^ (8 * 1) = 256 := rfl
 have e2 : (2 : Int) ^ (8 * 2) = 65536 := rfl
 have e3 : (2 : Int) ^ (8 * 3) = 16777216 := rfl
 rw [e0, e1, e2, e3]
 omega
end Go.Proofs.Ytgfadfahbhcllaa.P
end
section
namespace Go.Proofs.Ytgfadfahbhcllaa.Q
open Go.RowKit Go.Proofs.YtgfadfahbhcllaaW.PrintWords Go.Proofs.YtgfadfahbhcllaaW.PrintLast Go.Proofs.Ytgfadfahbhcllaa.LK Go.Proofs.YtgfadfahbhcllaaW.PrintMore
attribute [local go_sem] max2_int min2_int max_two min_two max_three min_three max_four min_four
set_option linter.unusedVariables false
set_option linter.unusedSimpArgs false
end Go.Proofs.Ytgfadfahbhcllaa.Q
end
section
namespace Go.Proofs.Ytgfadfahbhcllaa.P
open Go.RowKit Go.Proofs.YtgfadfahbhcllaaW.PrintWords Go.Proofs.YtgfadfahbhcllaaW.PrintMore Go.Proofs.Ytgfadfahbhcllaa.Q
set_option linter.unusedVariables false
set_option linter.unusedSimpArgs false
def withN (xs : List Int) (x : Int) (n : Nat) : List Int := ((List.range n).filter fun (v : Nat) => decide ((v : Int) = x ∨ (v : Int) ∈ xs)).map fun (v : Nat) => (v : Int)
theorem withN_length (xs : List Int) (x : Int) (n : Nat) : (withN xs x n).length ≤ n := by
 unfold withN
 rw [List.length_map]
 exact Nat.le_trans (List.length_filter_le _ _) (by simp)
theorem withN_on {xs : List Int} {x : Int} {n : Nat} (h : (n : Int) = x ∨ (n : Int) ∈ xs) : withN xs x (n + 1) = withN xs x n ++ [(n : Int)] := by
 unfold withN
 rw [List.range_succ, List.filter_append, List.map_append]
 simp [List.filter, h]
theorem withN_off {xs : List Int} {x : Int} {n : Nat} (h : ¬ ((n : Int) = x ∨ (n : Int) ∈ xs)) : withN xs x (n + 1) = withN xs x n := by
 unfold withN
 rw [List.range_succ, List.filter_append, List.map_append]
 simp [List.filter, h]
theorem spec_with_ev (xs : List Int) (x : Int) (hl : xs.length ≤ 4611686018427387904) : Ev (fun k => spec_l5With.f k xs x) (withS xs x) := by
 simp only [spec_l5With.f]
 have h := Ev.loop0 (fun k (s : List Int × Int) => spec_l5With.l0 k xs x s.1 s.2) (fun i => (withN xs x i, (i : Int))) 256 (withS xs x) ?_ ?_
 ·exact h
 ·intro i hi
  have hn := withN_length xs x i
  obtain ⟨K, hK⟩ := holds_ev xs (i : Int) hl
  refine ⟨K, fun k hk => ?_⟩
  simp only [spec_l5With.l0]
  rw [if_pos (by omega), w64s (n := 256) hi (by decide)]
  by_cases hx : (i : Int) = x
  ·rw [if_pos hx, if_pos (by omega), withN_on (.inl hx)]
  ·have hK2 : spec_l5Holds.f k xs (i : Int) = some (decide ((i : Int) ∈ xs)) := hK k hk
   rw [if_neg hx, hK2, Option.bind_some]
   by_cases hm : (i : Int) ∈ xs
   ·rw [decide_eq_true hm, if_pos rfl, if_pos (by omega), withN_on (.inr hm)]
   ·rw [decide_eq_false hm, if_neg (by simp), withN_off (fun h => h.elim hx hm)]
 ·refine Ev.last ⟨0, fun k _ => ?_⟩
  simp only [spec_l5With.l0]
  rw [if_neg (by omega)]
  rfl
end Go.Proofs.Ytgfadfahbhcllaa.P
end
section
namespace Go.Proofs.Ytgfadfahbhcllaa.P
open Go.RowKit Go.Proofs.YtgfadfahbhcllaaW.PrintWords Go.Proofs.YtgfadfahbhcllaaW.PrintMore Go.Proofs.Ytgfadfahbhcllaa.Q
set_option linter.unusedVariables false
set_option linter.unusedSimpArgs false
theorem win_eq {l m : List Int} {p : Nat} (h : ∀ k, k < 2 → l[p + k]? = m[p + k]?) : (l.drop p).take 2 = (m.drop p).take 2 := by
 refine List.ext_getElem? (fun j => ?_)
 rw [List.getElem?_take, List.getElem?_take]
 by_cases hj : j < 2
 ·rw [if_pos hj, if_pos hj, List.getElem?_drop, List.getElem?_drop, h j hj]
 ·rw [if_neg hj, if_neg hj]
theorem splice_get {l x : List Int} {o j : Nat} (h : o + x.length ≤ l.length) : (splice l o x)[j]? = if j < o then l[j]? else if j < o + x.length then x[j - o]? else l[j]? := by
 unfold splice
 by_cases h1 : j < o
 ·rw [if_pos h1, List.getElem?_append_left (by rw [List.length_take]; omega), List.getElem?_take, if_pos h1]
 ·rw [if_neg h1, List.getElem?_append_right (by rw [List.length_take]; omega), List.length_take, Nat.min_eq_left (by omega)]
  by_cases h2 : j < o + x.length
  ·rw [if_pos h2, List.getElem?_append_left (by omega)]
  ·rw [if_neg h2, List.getElem?_append_right (by omega), List.getElem?_drop]
   congr 1
   omega
theorem win_same {l x : List Int} {o : Nat} (h : o + x.length ≤ l.length) (hx : x.length = 2) : ((splice l o x).drop o).take 2 = x := by
 refine List.ext_getElem? (fun j => ?_)
 rw [List.getElem?_take]
 by_cases hj : j < 2
 ·rw [if_pos hj, List.getElem?_drop, splice_get h, if_neg (by omega), if_pos (by omega), Nat.add_sub_cancel_left]
 ·rw [if_neg hj, List.getElem?_eq_none (by omega)]
theorem win_far {l x : List Int} {o p : Nat} (h : o + x.length ≤ l.length) (hx : x.length = 2) (hp : p + 2 ≤ o ∨ o + 2 ≤ p) : ((splice l o x).drop p).take 2 = (l.drop p).take 2 :=
 win_eq (fun k hk => by
  rw [splice_get h]
  rcases hp with hp | hp
  ·rw [if_pos (by omega)]
  ·rw [if_neg (by omega), if_neg (by omega)])
theorem denAt_far {i j : Nat} (h : j < i) (hi : i < 16) : denAt j + 2 ≤ denAt i ∨ denAt i + 2 ≤ denAt j := by
 unfold denAt
 split <;> split <;> omega
theorem sE_win (g n t : Int) (u xs : List Int) (cr : List Int) (hc : cr.length = 4) (j : Nat) : ∀ i, j < i → i ≤ 16 → ((sE g n t u xs i cr).drop (denAt j)).take 2 = leB 2 (rd xs j)
 | 0, h, _ => by omega
 | i + 1, h, hi => by
  have hl := sE_length g n t u xs i cr hc
  have hf := denAt_fit (i := i) (by omega)
  rw [← sE_deny g n t u xs i (by omega) cr]
  by_cases e : j = i
  ·subst e
   exact win_same (by rw [leB_length, hl]; exact hf) (leB_length _ _)
  ·rw [win_far (by rw [leB_length, hl]; exact hf) (leB_length _ _) (denAt_far (by omega) (by omega))]
   exact sE_win g n t u xs cr hc j i (by omega) (by omega)
theorem le_leB2 {x : Int} (h : 0 ≤ x ∧ x < 65536) : le (leB 2 x) = x := by
 have e : leB 2 x = [x / 2 ^ (8 * 0) % 256, x / 2 ^ (8 * 1) % 256] := rfl
 rw [e]
 simp only [le]
 have e0 : (2 : Int) ^ (8 * 0) = 1 := rfl
 have e1 : (2 : Int) ^ (8 * 1) = 256 := rfl
 rw [e0, e1]
 omega
theorem map_rd (xs : List Int) : (List.range xs.length).map (fun (j : Nat) => rd xs j) = xs := by
 refine List.ext_getElem? (fun j => ?_)
 rw [List.getElem?_map]
 by_cases hj : j < xs.length
 ·rw [List.getElem?_range hj, List.getElem?_eq_getElem hj]
  show some (rd xs j) = _
  rw [rd_elem hj]
 ·rw [List.getElem?_eq_none (by rw [List.length_range]; omega), List.getElem?_eq_none (by omega)]
  rfl
theorem code_back {g t : Int} {xs u : List Int} (hg : 0 ≤ g ∧ g ≤ 4294967295) (ht : 0 ≤ t ∧ t ≤ 4294967295) (h : goodSnap g t xs u = true) : decS (snapCode g t xs u) = (true, g, t, xs, u) := by
 obtain ⟨h1, h2, h3, h4, h5, h6⟩ := goodSnap_iff.1 h
 obtain ⟨cr, hcr⟩ : ∃ cr, cr = leB 4 (crc32 (snapHead g ((xs.length : Int) % 256) t u xs)) := ⟨_, rfl⟩
 obtain ⟨n, hn⟩ : ∃ n, n = (xs.length : Int) % 256 := ⟨_, rfl⟩
 have hc4 : cr.length = 4 := by rw [hcr]; exact leB_length _ _
 have e : snapCode g t xs u = sE g n t u xs xs.length cr := by rw [sE_head, hcr, hn]; rfl
 have hl : (snapCode g t xs u).length = 128 := snapCode_length g t xs u
 have eb := sE_bits g n t u xs xs.length cr
 have eG : sGen (snapCode g t xs u) = g := by
  unfold sGen
  rw [e, eb]
  exact le_leB4 hg
 have eT : sTail (snapCode g t xs u) = t := by
  unfold sTail
  rw [e, eb]
  exact le_leB4 ht
 have eC : sCnt (snapCode g t xs u) = xs.length := by
  unfold sCnt
  rw [e, eb]
  show n = _
  omega
 have eD : sDeny (snapCode g t xs u) (sCnt (snapCode g t xs u)).toNat = xs := by
  rw [eC, Int.toNat_natCast]
  unfold sDeny
  conv => rhs; rw [← map_rd xs]
  refine List.map_congr_left (fun j hj => ?_)
  have hj := List.mem_range.1 hj
  unfold sDen1
  rw [e, sE_win g n t u xs cr hc4 j xs.length hj h5, le_leB2]
  have := goodS_at h4 hj
  omega
 have eU : sUsed (snapCode g t xs u) 256 = u := by
  unfold sUsed
  have hb : ∀ v, v < 256 → bitOf (snapCode g t xs u) v = decide ((v : Int) ∈ u) := by
   intro v hv
   unfold bitOf
   have ha := sE_at g n t u xs xs.length cr (v := (v : Int)) (by omega) (by omega)
   rw [← e] at ha
   have hr : rd (snapCode g t xs u) ((12 + v / 8 : Nat) : Int) = bitB u ((v : Int) / 8) := rd_at (by rw [show 12 + v / 8 = (12 + (v : Int) / 8).toNat from by omega]; exact ha)
   rw [hr, bitB_bit u ((v : Int) / 8) (v % 8) (by omega), show 8 * ((v : Int) / 8) + ((v % 8 : Nat) : Int) = (v : Int) from by omega]
   unfold mB
   by_cases hm : (v : Int) ∈ u
   ·rw [if_pos hm, decide_eq_true hm]; rfl
   ·rw [if_neg hm, decide_eq_false hm]; rfl
  rw [List.filter_congr (q := fun (v : Nat) => decide ((v : Int) ∈ u)) (fun v hv => hb v (List.mem_range.1 hv))]
  refine asc_eq ?_ (goodS_asc h6) (fun x => ?_)
  ·rw [List.pairwise_map]
   exact (List.pairwise_lt_range.filter _).imp (fun h => by omega)
  ·rw [List.mem_map]
   constructor
   ·rintro ⟨v, hv, rfl⟩
    exact of_decide_eq_true (List.mem_filter.1 hv).2
   ·intro hx
    have hr := goodS_mem h6 hx
    refine ⟨x.toNat, List.mem_filter.2 ⟨List.mem_range.2 (by omega), decide_eq_true ?_⟩, by omega⟩
    rw [show ((x.toNat : Nat) : Int) = x from by omega]
    exact hx
 have hI : isSnap (snapCode g t xs u) = true := by
  unfold isSnap
  rw [eG, eT, eD, eU, eC, h, decide_eq_true (show (xs.length : Int) ≤ 16 by omega), decide_eq_true rfl]
  rfl
 unfold decS
 rw [if_pos ⟨hl, hI⟩, eG, eT, eD, eU]
theorem dec_encS {g t : Int} {xs u : List Int} (hg : 0 ≤ g ∧ g ≤ 4294967295) (ht : 0 ≤ t ∧ t ≤ 4294967295) : decS (encS g t xs u) = if goodSnap g t xs u = true then (true, g, t, xs, u) else (false, 0, 0, [], []) := by
 unfold encS
 by_cases h : goodSnap g t xs u = true
 ·rw [if_pos h, if_pos h]; exact code_back hg ht h
 ·rw [if_neg h, if_neg h]
  exact decS_no (fun h => by cases h.1)
theorem enc_decS {l : List Int} (h : (decS l).1 = true) : encS (decS l).2.1 (decS l).2.2.1 (decS l).2.2.2.1 (decS l).2.2.2.2 = l ∧ goodSnap (decS l).2.1 (decS l).2.2.1 (decS l).2.2.2.1 (decS l).2.2.2.2 = true := by
 by_cases c : l.length = 128 ∧ isSnap l = true
 ·have hd : decS l = (true, sGen l, sTail l, sDeny l (sCnt l).toNat, sUsed l 256) := if_pos c
  rw [hd]
  have hi := c.2
  unfold isSnap at hi
  simp only [Bool.and_eq_true, decide_eq_true_eq] at hi
  obtain ⟨-, h2, h3⟩ := hi
  simp only
  refine ⟨?_, h2⟩
  unfold encS
  rw [if_pos h2, h3]
 ·rw [decS_no c] at h; cases h
theorem withS_le {l : List Int} {x : Int} (hg : goodS l = true) (hx : 0 ≤ x ∧ x < 256) : (withS l x).length ≤ l.length + 1 := by
 by_cases hm : x ∈ l
 ·have : withS l x = l := asc_eq (withS_asc l x) (goodS_asc hg) (fun y => by
   rw [withS_mem (fun z hz => goodS_mem hg hz) hx]
   exact ⟨fun h => h.elim (fun e => e ▸ hm) id, .inr⟩)
  rw [this]; omega
 ·rw [withS_length hg hx hm]; omega
section
variable {l : List Int}
theorem drawDeny_ev (hl : l.length ≤ 1048576) (u : List Int) (a : Int) (t : List S111) (m : Int) (hm : m ≤ 16) : ∀ (q : Nat) (v : Nat) (xs : List Int) (i h : Int), v + q = 40 → Cur l i → goodS xs = true → (xs.length : Int) ≤ 16 →
  ∃ xs' i' h', Ev (fun k => spec_l5DrawState.l1 k m (v : Int) l i h xs u a t) (xs', u, a, t, i', h') ∧ goodS xs' = true ∧ xs'.length ≤ 16 ∧ Cur l i'
 | 0, v, xs, i, h, hv, hc, hg, hx => by
  refine ⟨xs, i, h, Ev.step (g := fun k => spec_l5DrawState.j4 k m (v : Int) false l i h xs u a t) ⟨0, fun k _ => ?_⟩ (Ev.last ⟨0, fun k _ => ?_⟩), hg, by omega, hc⟩
  ·simp only [spec_l5DrawState.l1]
   rw [if_neg (by omega)]
  ·simp only [spec_l5DrawState.j4]
   rw [if_neg (by simp)]
 | q + 1, v, xs, i, h, hv, hc, hg, hx => by
  by_cases c : (xs.length : Int) < m
  ·obtain ⟨x, i1, h1, e1, x0, x1, c1⟩ := below_is (h := h) hl hc (n := 60) (by decide)
   have hw := withS_le (x := x) hg ⟨x0, by omega⟩
   obtain ⟨xs', i', h', ev, h2, h3, h4⟩ := drawDeny_ev hl u a t m hm q (v + 1) (withS xs x) i1 h1 (by omega) c1 (withS_good hg ⟨x0, by omega⟩) (by omega)
   refine ⟨xs', i', h', Ev.step (g := fun k => spec_l5DrawState.j4 k m (v : Int) true l i h xs u a t) ⟨0, fun k _ => ?_⟩ (Ev.step (g := fun k => (spec_l5With.f k xs x).bind fun t137 => (spec_l5DrawState.l1 k m (wrap64 ((v : Int) + 1)) l i1 h1 t137 u a t)) ⟨0, fun k _ => ?_⟩ (Ev.bind (spec_with_ev xs x (by omega)) ?_)), h2, h3, h4⟩
   ·simp only [spec_l5DrawState.l1]
    rw [if_pos (by omega), decide_eq_true c]
   ·simp only [spec_l5DrawState.j4]
    rw [if_pos trivial, e1, Option.bind_some]
   ·rw [w64s (n := 40) (by omega) (by decide)]
    exact ev
  ·refine ⟨xs, i, h, Ev.step (g := fun k => spec_l5DrawState.j4 k m (v : Int) false l i h xs u a t) ⟨0, fun k _ => ?_⟩ (Ev.last ⟨0, fun k _ => ?_⟩), hg, by omega, hc⟩
   ·simp only [spec_l5DrawState.l1]
    rw [if_pos (by omega), decide_eq_false c]
   ·simp only [spec_l5DrawState.j4]
    rw [if_neg (by simp)]
theorem drawEnd_ev (hl : l.length ≤ 1048576) (u : List Int) (t : List S111) (n v a : Int) (hv : ¬ v < n) {i h : Int} (hc : Cur l i) :
  ∃ xs' a' i' h', Ev (fun k => spec_l5DrawState.l0 k n v l i h u a t) (xs', u, a', t, i', h') ∧ goodS xs' = true ∧ xs'.length ≤ 16 ∧ Cur l i' := by
 obtain ⟨m, i1, h1, e1, m0, m1, c1⟩ := below_is (h := h) hl hc (n := 6) (by decide)
 obtain ⟨o, i2, h2, eo, c2⟩ := once_is (h := h1) hl c1 (n := 5) (by decide)
 obtain ⟨mm, hmm⟩ : ∃ mm, mm = if o = true then 16 else m := ⟨_, rfl⟩
 obtain ⟨xs', i', h', ev, g1, g2, g3⟩ := drawDeny_ev hl u (wrap64 ((u.length : Int) - (t.length : Int))) t mm (by rw [hmm]; split <;> omega) 40 0 [] i2 h2 (by omega) c2 (by decide) (by decide)
 refine ⟨xs', _, i', h', Ev.step (g := fun k => spec_l5DrawState.j2 k mm l i2 h2 u (wrap64 ((u.length : Int) - (t.length : Int))) t) ⟨0, fun k _ => ?_⟩ (Ev.step ⟨0, fun k _ => rfl⟩ ev), g1, g2, g3⟩
 simp only [spec_l5DrawState.l0]
 rw [if_neg hv, e1, Option.bind_some, eo, Option.bind_some, hmm]
 by_cases ho : o = true
 ·rw [if_pos ho, if_pos ho]
 ·rw [if_neg ho, if_neg ho]
theorem drawUsed_ev (hl : l.length ≤ 1048576) (n : Int) (hn : n ≤ 12) (a : Int) : ∀ (q : Nat) (v : Nat) (u : List Int) (t : List S111) (i h : Int), (v : Int) + q = max n v → Cur l i → goodS u = true → t.length ≤ v →
  ∃ xs' u' a' t' i' h', Ev (fun k => spec_l5DrawState.l0 k n (v : Int) l i h u a t) (xs', u', a', t', i', h') ∧ goodS xs' = true ∧ xs'.length ≤ 16 ∧ goodS u' = true ∧ Cur l i'
 | 0, v, u, t, i, h, hv, hc, hg, ht => by
  obtain ⟨xs', a', i', h', ev, h1, h2, h3⟩ := drawEnd_ev (h := h) hl u t n v a (by omega) hc
  exact ⟨xs', u, a', t, i', h', ev, h1, h2, hg, h3⟩
 | q + 1, v, u, t, i, h, hv, hc, hg, ht => by
  have hlt : (v : Int) < n := by omega
  obtain ⟨x, i1, h1, e1, x0, x1, c1⟩ := below_is (h := h) hl hc (n := 40) (by decide)
  obtain ⟨o, i2, h2, eo, c2⟩ := once_is (h := h1) hl c1 (n := 6) (by decide)
  have key : ∀ (y : Int) (i3 h3 : Int), 0 ≤ y ∧ y < 256 → Cur l i3 → ∃ xs' u' a' t' i' h', Ev (fun k => spec_l5DrawState.j1 k n (v : Int) y l i3 h3 u a t) (xs', u', a', t', i', h') ∧ goodS xs' = true ∧ xs'.length ≤ 16 ∧ goodS u' = true ∧ Cur l i' := by
   intro y i3 h3 hy c3
   have hw : wrap64 ((v : Int) + 1) = ((v + 1 : Nat) : Int) := w64s (n := 12) (by omega) (by decide)
   have hul := goodS_length hg
   by_cases hm : y ∈ u
   ·obtain ⟨xs', u', a', t', i', h', ev, r⟩ := drawUsed_ev hl n hn a q (v + 1) u t i3 h3 (by omega) c3 hg (by omega)
    refine ⟨xs', u', a', t', i', h', Ev.step (g := fun k => (spec_l5Holds.f k u y).bind fun t115 => (if t115 = true then (spec_l5DrawState.l0 k n (wrap64 ((v : Int) + 1)) l i3 h3 u a t) else none)) ?_ (Ev.bind (holds_ev u y (by omega)) (Ev.pos (decide_eq_true hm) (by rw [hw]; exact ev))), r⟩
    obtain ⟨K, hK⟩ := holds_ev u y (by omega)
    refine ⟨K, fun k hk => ?_⟩
    have hK2 : spec_l5Holds.f k u y = some (decide (y ∈ u)) := hK k hk
    simp only [spec_l5DrawState.j1]
    rw [hK2, Option.bind_some, Option.bind_some, decide_eq_true hm, if_pos rfl, if_pos rfl]
   ·have hwg := withS_good hg hy
    obtain ⟨o2, i4, h4, eo2, c4⟩ := once_is (h := h3) hl c3 (n := 2) (by decide)
    have st : ∀ r, Ev (fun k => (spec_l5With.f k u y).bind fun t116 => (if o2 = true then ((spec_l1Below.f l i4 h4 100).bind fun bt122 => (if t.length < 8796093022208 then (spec_l5DrawState.l0 k n (wrap64 ((v : Int) + 1)) l bt122.2.1 bt122.2.2 t116 a (t ++ [(⟨y, bt122.1⟩ : S111)])) else (none))) else (spec_l5DrawState.l0 k n (wrap64 ((v : Int) + 1)) l i4 h4 t116 a t))) r → Ev (fun k => spec_l5DrawState.j1 k n (v : Int) y l i3 h3 u a t) r := by
     intro r hr
     obtain ⟨K, hK⟩ := holds_ev u y (by omega)
     refine Ev.step ⟨K, fun k hk => ?_⟩ hr
     have hK2 : spec_l5Holds.f k u y = some (decide (y ∈ u)) := hK k hk
     simp only [spec_l5DrawState.j1]
     rw [hK2, Option.bind_some, decide_eq_false hm, if_neg (by simp)]
     simp only [eo2, Option.bind_some]
    by_cases ho2 : o2 = true
    ·obtain ⟨z, i5, h5, e5, z0, z1, c5⟩ := below_is (h := h4) hl c4 (n := 100) (by decide)
     obtain ⟨xs', u', a', t', i', h', ev, r⟩ := drawUsed_ev hl n hn a q (v + 1) (withS u y) (t ++ [(⟨y, z⟩ : S111)]) i5 h5 (by omega) c5 hwg (by rw [List.length_append, List.length_singleton]; omega)
     exact ⟨xs', u', a', t', i', h', st _ (Ev.bind (spec_with_ev u y (by omega)) (Ev.pos ho2 (Ev.bind (Ev.const e5) (Ev.pos (by omega) (by rw [hw]; exact ev))))), r⟩
    ·obtain ⟨xs', u', a', t', i', h', ev, r⟩ := drawUsed_ev hl n hn a q (v + 1) (withS u y) t i4 h4 (by omega) c4 hwg (by omega)
     exact ⟨xs', u', a', t', i', h', st _ (Ev.bind (spec_with_ev u y (by omega)) (Ev.neg ho2 (by rw [hw]; exact ev))), r⟩
  by_cases ho : o = true
  ·obtain ⟨y, i3, h3, e3, y0, y1, c3⟩ := below_is (h := h2) hl c2 (n := 3) (by decide)
   obtain ⟨xs', u', a', t', i', h', ev, r⟩ := key (wrap64 (255 - y)) i3 h3 (by rw [w64 (n := 255 - y) (by omega) (by omega)]; omega) c3
   refine ⟨xs', u', a', t', i', h', Ev.step ⟨0, fun k _ => ?_⟩ ev, r⟩
   simp only [spec_l5DrawState.l0]
   rw [if_pos hlt, e1, Option.bind_some, eo, Option.bind_some, if_pos ho, e3, Option.bind_some]
  ·obtain ⟨xs', u', a', t', i', h', ev, r⟩ := key x i2 h2 ⟨x0, by omega⟩ c2
   refine ⟨xs', u', a', t', i', h', Ev.step ⟨0, fun k _ => ?_⟩ ev, r⟩
   simp only [spec_l5DrawState.l0]
   rw [if_pos hlt, e1, Option.bind_some, eo, Option.bind_some, if_neg ho]
theorem drawState_ev (hl : l.length ≤ 1048576) {i h : Int} (hc : Cur l i) : ∃ xs u a t i' h', Ev (fun k => spec_l5DrawState.f k l i h) (xs, u, a, t, i', h') ∧ goodS xs = true ∧ xs.length ≤ 16 ∧ goodS u = true ∧ Cur l i' := by
 obtain ⟨n, i1, h1, e1, n0, n1, c1⟩ := below_is (h := h) hl hc (n := 12) (by decide)
 obtain ⟨xs', u', a', t', i', h', ev, r⟩ := drawUsed_ev hl n (by omega) 0 n.toNat 0 [] [] i1 h1 (by omega) c1 (by decide) (by decide)
 simp only [spec_l5DrawState.f, e1, Option.bind_some]
 exact ⟨xs', u', a', t', i', h', ev, r⟩
theorem drawSnap_ev (hl : l.length ≤ 1048576) {i h : Int} (hc : Cur l i) : ∃ g t xs u i' h', Ev (fun k => spec_l6DrawSnap.f k l i h) (g, t, xs, u, i', h') ∧ goodSnap g t xs u = true ∧ (0 ≤ g ∧ g ≤ 4294967295) ∧ (0 ≤ t ∧ t ≤ 4294967295) ∧ Cur l i' := by
 obtain ⟨xs, u, a, tp, i1, h1, ev, g1, g2, g3, c1⟩ := drawState_ev (h := h) hl hc
 obtain ⟨g, i2, h2, e2, g0, gm, c2⟩ := below_is (h := h1) hl c1 (n := 20) (by decide)
 obtain ⟨t, i3, h3, e3, t0, tm, c3⟩ := below_is (h := h2) hl c2 (n := 30) (by decide)
 obtain ⟨o, i4, h4, e4, c4⟩ := once_is (h := h3) hl c3 (n := 8) (by decide)
 simp only [spec_l6DrawSnap.f]
 by_cases ho : o = true
 ·refine ⟨4000000000, 4000000000, xs, u, i4, h4, Ev.bind ev (Ev.bind (Ev.const e2) (Ev.bind (Ev.const e3) (Ev.bind (Ev.const e4) (Ev.pos ho (Ev.const rfl))))), ?_, by omega, by omega, c4⟩
  exact goodSnap_iff.2 ⟨by omega, by omega, by omega, g1, g2, g3⟩
 ·have ht : wrap64 (1 + t) = 1 + t := w64 (by omega) (by omega)
  refine ⟨g % 4294967296, (wrap64 (1 + t)) % 4294967296, xs, u, i4, h4, Ev.bind ev (Ev.bind (Ev.const e2) (Ev.bind (Ev.const e3) (Ev.bind (Ev.const e4) (Ev.neg ho (Ev.const rfl))))), ?_, by omega, by omega, c4⟩
  rw [ht]
  exact goodSnap_iff.2 ⟨by omega, by omega, by omega, g1, g2, g3⟩
theorem spoilSnap_ev (hl : l.length ≤ 1048576) {i h g t : Int} {xs u : List Int} (hc : Cur l i) (hg : 0 ≤ g ∧ g ≤ 4294967295) (ht : 0 ≤ t ∧ t ≤ 4294967295) (hx : xs.length ≤ 16) (hu : u.length ≤ 256) :
  ∃ g' t' xs' u' i' h', Ev (fun k => spec_l6SpoilSnap.f k l i h g t xs u) (g', t', xs', u', i', h') ∧ (0 ≤ g' ∧ g' ≤ 4294967295) ∧ (0 ≤ t' ∧ t' ≤ 4294967295) ∧ xs'.length ≤ 17 ∧ u'.length ≤ 257 := by
 obtain ⟨x, i1, h1, e1, x0, x1, c1⟩ := below_is (h := h) hl hc (n := 5) (by decide)
 have j2 : ∀ g t, (0 ≤ g ∧ g ≤ 4294967295) → (0 ≤ t ∧ t ≤ 4294967295) → ∃ g' t' xs' u' i' h', Ev (fun k => spec_l6SpoilSnap.j2 k x l i1 h1 g t xs u) (g', t', xs', u', i', h') ∧ (0 ≤ g' ∧ g' ≤ 4294967295) ∧ (0 ≤ t' ∧ t' ≤ 4294967295) ∧ xs'.length ≤ 17 ∧ u'.length ≤ 257 := by
  intro g t hg ht
  by_cases a3 : x = 3
  ·refine ⟨g, t, xs ++ [1], u, i1, h1, Ev.last ⟨0, fun k _ => ?_⟩, hg, ht, by rw [List.length_append, List.length_singleton]; omega, by omega⟩
   simp only [spec_l6SpoilSnap.j2]
   rw [if_pos a3, if_pos (by omega), Option.bind_some, if_neg (by omega)]
  ·by_cases a4 : x = 4
   ·refine ⟨g, t, xs, u ++ [256], i1, h1, Ev.last ⟨0, fun k _ => ?_⟩, hg, ht, by omega, by rw [List.length_append, List.length_singleton]; omega⟩
    simp only [spec_l6SpoilSnap.j2]
    rw [if_neg a3, if_pos a4, if_pos (by omega)]
   ·refine ⟨g, t, xs, u, i1, h1, Ev.last ⟨0, fun k _ => ?_⟩, hg, ht, by omega, by omega⟩
    simp only [spec_l6SpoilSnap.j2]
    rw [if_neg a3, if_neg a4]
 have j1 : ∀ g t, (0 ≤ g ∧ g ≤ 4294967295) → (0 ≤ t ∧ t ≤ 4294967295) → ∃ g' t' xs' u' i' h', Ev (fun k => spec_l6SpoilSnap.j1 k x l i1 h1 g t xs u) (g', t', xs', u', i', h') ∧ (0 ≤ g' ∧ g' ≤ 4294967295) ∧ (0 ≤ t' ∧ t' ≤ 4294967295) ∧ xs'.length ≤ 17 ∧ u'.length ≤ 257 := by
  intro g t hg ht
  by_cases a2 : x = 2
  ·obtain ⟨g', t', xs', u', i', h', ev, r⟩ := j2 g 4000000001 hg (by omega)
   refine ⟨g', t', xs', u', i', h', Ev.step ⟨0, fun k _ => ?_⟩ ev, r⟩
   simp only [spec_l6SpoilSnap.j1]
   rw [if_pos a2]
  ·obtain ⟨g', t', xs', u', i', h', ev, r⟩ := j2 g t hg ht
   refine ⟨g', t', xs', u', i', h', Ev.step ⟨0, fun k _ => ?_⟩ ev, r⟩
   simp only [spec_l6SpoilSnap.j1]
   rw [if_neg a2]
 have j0 : ∀ g t, (0 ≤ g ∧ g ≤ 4294967295) → (0 ≤ t ∧ t ≤ 4294967295) → ∃ g' t' xs' u' i' h', Ev (fun k => spec_l6SpoilSnap.j0 k x l i1 h1 g t xs u) (g', t', xs', u', i', h') ∧ (0 ≤ g' ∧ g' ≤ 4294967295) ∧ (0 ≤ t' ∧ t' ≤ 4294967295) ∧ xs'.length ≤ 17 ∧ u'.length ≤ 257 := by
  intro g t hg ht
  by_cases a1 : x = 1
  ·obtain ⟨g', t', xs', u', i', h', ev, r⟩ := j1 g 0 hg (by omega)
   refine ⟨g', t', xs', u', i', h', Ev.step ⟨0, fun k _ => ?_⟩ ev, r⟩
   simp only [spec_l6SpoilSnap.j0]
   rw [if_pos a1]
  ·obtain ⟨g', t', xs', u', i', h', ev, r⟩ := j1 g t hg ht
   refine ⟨g', t', xs', u', i', h', Ev.step ⟨0, fun k _ => ?_⟩ ev, r⟩
   simp only [spec_l6SpoilSnap.j0]
   rw [if_neg a1]
 simp only [spec_l6SpoilSnap.f, e1, Option.bind_some]
 by_cases a0 : x = 0
 ·obtain ⟨g', t', xs', u', i', h', ev, r⟩ := j0 4000000001 t (by omega) ht
  exact ⟨g', t', xs', u', i', h', Ev.pos a0 ev, r⟩
 ·obtain ⟨g', t', xs', u', i', h', ev, r⟩ := j0 g t hg ht
  exact ⟨g', t', xs', u', i', h', Ev.neg a0 ev, r⟩
end
end Go.Proofs.Ytgfadfahbhcllaa.P
end
section
namespace Go.Proofs.Ytgfadfahbhcllaa.P
open Go.RowKit Go.Proofs.YtgfadfahbhcllaaW.PrintWords Go.Proofs.YtgfadfahbhcllaaW.PrintMore Go.Proofs.Ytgfadfahbhcllaa.Q
set_option linter.unusedVariables false
set_option linter.unusedSimpArgs false
theorem spec_encS {g t : Int} {xs u : List Int} (h : snapSz g t xs u) (k : Nat) : spec_EncodeSnap.f k g t xs u = some (encS g t xs u) := if_pos h
theorem good_sz {g t : Int} {xs u : List Int} (hg : 0 ≤ g ∧ g ≤ 4294967295) (ht : 0 ≤ t ∧ t ≤ 4294967295) (h : goodSnap g t xs u = true) : snapSz g t xs u := by
 obtain ⟨h1, h2, h3, h4, h5, h6⟩ := goodSnap_iff.1 h
 have := goodS_length h6
 exact ⟨hg, ht, by omega, by omega⟩
theorem encS_128 {g t : Int} {xs u : List Int} (h : goodSnap g t xs u = true) : (encS g t xs u).length = 128 := by
 unfold encS
 rw [if_pos h]
 exact snapCode_length ..
theorem encS_0 {g t : Int} {xs u : List Int} (h : ¬ goodSnap g t xs u = true) : (encS g t xs u).length = 0 := by
 unfold encS
 rw [if_neg h]
 rfl
theorem lwNums_ev (l : List Int) (hl : l.length ≤ 1048576) : Ev (fun k => laws_lwNums.f k l l) true := by
 simp only [laws_lwNums.f, if_true]
 refine Ev.congr (fun k => rfl) (each_ends (fun k i => laws_lwNums.l0 k l l i) l.length true (fun i hi => ⟨0, fun k _ => ?_⟩) (fun k => ?_))
 ·simp only [laws_lwNums.l0]
  rw [if_pos (by omega), if_pos (by omega), if_pos (by omega), if_pos trivial, w64s hi (by omega)]
 ·simp only [laws_lwNums.l0]
  rw [if_neg (by omega)]
theorem drawES_ev {l : List Int} (hl : l.length ≤ 1048576) : ∃ g t xs u, Ev (fun k => spec_DrawEncodeSnap.f k l) (g, t, xs, u) ∧ (0 ≤ g ∧ g ≤ 4294967295) ∧ (0 ≤ t ∧ t ≤ 4294967295) ∧ xs.length ≤ 257 ∧ u.length ≤ 257 := by
 obtain ⟨h, en⟩ := new_ev hl
 obtain ⟨g, t, xs, u, i', h', ef, hf, hg, ht, hc⟩ := drawSnap_ev (h := h) hl (i := 0) ⟨by decide, by omega⟩
 obtain ⟨o, i1, h1, e1, c1⟩ := once_is (h := h') hl hc (n := 6) (by decide)
 obtain ⟨-, -, -, -, hx, hu⟩ := goodSnap_iff.1 hf
 have hu := goodS_length hu
 simp only [spec_DrawEncodeSnap.f]
 by_cases ho : o = true
 ·obtain ⟨g', t', xs', u', i2, h2, e2, a1, a2, a3, a4⟩ := spoilSnap_ev (h := h1) hl c1 hg ht hx (by omega)
  exact ⟨g', t', xs', u', Ev.bind en (Ev.bind ef (Ev.bind (Ev.const e1) (Ev.pos ho (Ev.bind e2 (Ev.const rfl))))), a1, a2, by omega, by omega⟩
 ·exact ⟨g, t, xs, u, Ev.bind en (Ev.bind ef (Ev.bind (Ev.const e1) (Ev.neg ho (Ev.const rfl)))), hg, ht, by omega, by omega⟩
section
variable {l : List Int}
theorem drawDS_j2 (hl : l.length ≤ 1048576) {x : List Int} {i h k5 : Int} (hc : Cur l i) (hx : k5 = 3 → x.length = 128) (hxl : x.length ≤ 128) (hu : U8s x) : ∃ r, Ev (fun k => spec_DrawDecodeSnap.j2 k x k5 l i h) r ∧ U8s r ∧ r.length ≤ 128 := by
 by_cases h3 : k5 = 3
 ·have hx := hx h3
  obtain ⟨g, t, xs, u, i', h', ef, hf, hg, ht, hc'⟩ := drawSnap_ev (h := h) hl hc
  have hsz := good_sz hg ht hf
  have h128 := encS_128 hf
  have hsl : ((encS g t xs u).drop 64).length = 64 := by rw [List.length_drop, h128]
  have htl : (x.take (64 : Int).toNat).length = 64 := by rw [List.length_take, hx]; rfl
  refine ⟨x.take (64 : Int).toNat ++ (encS g t xs u).drop 64, Ev.step (g := fun k => (spec_l6DrawSnap.f k l i h).bind fun bt162 => ((spec_EncodeSnap.f k bt162.1 bt162.2.1 bt162.2.2.1 bt162.2.2.2.1).bind fun t172 => (if 64 ≤ (t172.length : Int) then ((some (t172.drop 64 : List Int)).bind fun y175 => (if (x.take (64 : Int).toNat).length + y175.length < 140737488355328 then (some (x.take (64 : Int).toNat ++ y175)) else (none))) else (none)))) ⟨0, fun k _ => ?_⟩ (Ev.bind ef (Ev.bind ⟨0, fun k _ => spec_encS hsz k⟩ (Ev.pos (by rw [h128]; decide) (Ev.bind (Ev.const rfl) (Ev.pos (by rw [htl, hsl]; decide) (Ev.const rfl)))))), app_u8 (hu.take _) ((encS_u8 _ _ _ _).drop _), ?_⟩
  ·simp only [spec_DrawDecodeSnap.j2]
   rw [if_pos h3, if_pos (by omega), Option.bind_some]
  ·rw [List.length_append, htl, hsl]; decide
 ·refine ⟨x, Ev.last ⟨0, fun k _ => ?_⟩, hu, hxl⟩
  simp only [spec_DrawDecodeSnap.j2]
  rw [if_neg h3]
theorem drawDS_j1 (hl : l.length ≤ 1048576) {x : List Int} {i h k5 at_ v : Int} (hc : Cur l i) (hx : k5 ≠ 1 → x.length = 128) (hxl : x.length ≤ 128) (hu : U8s x) (ha : 0 ≤ at_ ∧ at_ < 128) : ∃ r, Ev (fun k => spec_DrawDecodeSnap.j1 k x k5 at_ v l i h) r ∧ U8s r ∧ r.length ≤ 128 := by
 by_cases h2 : k5 = 2
 ·have h128 := hx (by omega)
  have hm := tmod_range (x := at_) (n := 120) ha.1 (by decide)
  have hx8 := bits_u8 .xor (rd x (Int.tmod at_ 120)) (v % 256)
  have hy := set_u8 hu (Int.tmod at_ 120).toNat hx8
  have hyl : (x.set (Int.tmod at_ 120).toNat (Go.bits .xor .u8 (rd x (Int.tmod at_ 120)) (v % 256))).length = 128 := by rw [List.length_set, h128]
  generalize hyy : x.set (Int.tmod at_ 120).toNat (Go.bits .xor .u8 (rd x (Int.tmod at_ 120)) (v % 256)) = y at *
  have hul : U8s [y.take 120, leB 4 (crc32 (y.take 120)), y.drop 124].flatten := by
   simp only [List.flatten_cons, List.flatten_nil, List.append_nil]
   exact app_u8 (hy.take _) (app_u8 (leB_u8 _ _) (hy.drop _))
  have hll : [y.take 120, leB 4 (crc32 (y.take 120)), y.drop 124].flatten.length = 128 := by
   simp only [List.flatten_cons, List.flatten_nil, List.append_nil, List.length_append, List.length_take, List.length_drop, hyl, leB_length]
   decide
  obtain ⟨r, er, hr, hrl⟩ := drawDS_j2 (h := h) (k5 := k5) hl hc (fun _ => hll) (Nat.le_of_eq hll) hul
  refine ⟨r, Ev.step (g := fun k => (some y).bind fun y133 => ((spec_Crc32.f k (y133.take 120)).bind fun t144 => ((spec_l2Four.f t144).bind fun t145 => ((spec_l2Cat.f k (([(y133.take 120), t145, (y133.drop 124)] : List (List Int)))).bind fun t156 => (spec_DrawDecodeSnap.j2 k t156 k5 l i h))))) ⟨0, fun k _ => ?_⟩
   (Ev.bind (Ev.const rfl) (Ev.bind (spec_Crc32_ev _ (by rw [List.length_take]; omega)) (Ev.bind (Ev.const (four_is _ (crc32_range _))) (Ev.bind (cat_ev _ (by simp) (by rw [hll]; decide)) er)))), hr, hrl⟩
  simp only [spec_DrawDecodeSnap.j1]
  have c120 : (120 : Int) ≤ (x.length : Int) := by omega
  have c124 : (124 : Int) ≤ (x.length : Int) := by omega
  rw [if_pos h2, if_pos hm.1, if_pos (by omega), hyy]
  simp only [Option.bind_some, if_pos c120, if_pos c124]
 ·obtain ⟨r, er, hr, hrl⟩ := drawDS_j2 (h := h) (k5 := k5) hl hc (fun h => hx (by omega)) hxl hu
  refine ⟨r, Ev.step ⟨0, fun k _ => ?_⟩ er, hr, hrl⟩
  simp only [spec_DrawDecodeSnap.j1]
  rw [if_neg h2]
theorem drawDS_j0 (hl : l.length ≤ 1048576) {x : List Int} {i h k5 at_ v : Int} (hc : Cur l i) (hx : x.length = 128) (hu : U8s x) (ha : 0 ≤ at_ ∧ at_ < 128) : ∃ r, Ev (fun k => spec_DrawDecodeSnap.j0 k x k5 at_ v l i h) r ∧ U8s r ∧ r.length ≤ 128 := by
 by_cases h1 : k5 = 1
 ·obtain ⟨r, er, hr, hrl⟩ := drawDS_j1 (x := x.take at_.toNat) (h := h) (k5 := k5) (v := v) hl hc (fun h => absurd h1 h) (by rw [List.length_take]; omega) (hu.take _) ha
  refine ⟨r, Ev.step ⟨0, fun k _ => ?_⟩ er, hr, hrl⟩
  simp only [spec_DrawDecodeSnap.j0]
  rw [if_pos h1, if_pos ha.1, if_pos (by omega)]
 ·obtain ⟨r, er, hr, hrl⟩ := drawDS_j1 (x := x) (h := h) (k5 := k5) (v := v) hl hc (fun _ => hx) (by omega) hu ha
  refine ⟨r, Ev.step ⟨0, fun k _ => ?_⟩ er, hr, hrl⟩
  simp only [spec_DrawDecodeSnap.j0]
  rw [if_neg h1]
theorem drawDS_ev (hl : l.length ≤ 1048576) : ∃ r, Ev (fun k => spec_DrawDecodeSnap.f k l) r ∧ U8s r ∧ r.length ≤ 128 := by
 obtain ⟨h, en⟩ := new_ev hl
 obtain ⟨g, t, xs, u, i', h', ef, hf, hg, ht, hc⟩ := drawSnap_ev (h := h) hl (i := 0) ⟨by decide, by omega⟩
 obtain ⟨x, i1, h1, e1, x0, x1, c1⟩ := below_is (h := h') hl hc (n := 7) (by decide)
 obtain ⟨y, i2, h2, e2, y0, y1, c2⟩ := below_is (h := h1) hl c1 (n := 128) (by decide)
 obtain ⟨z, i3, h3, e3, z0, z1, c3⟩ := below_is (h := h2) hl c2 (n := 255) (by decide)
 simp only [spec_DrawDecodeSnap.f]
 have hu := encS_u8 g t xs u
 have h128 := encS_128 hf
 have ee : Ev (fun k => spec_EncodeSnap.f k g t xs u) (encS g t xs u) := ⟨0, fun k _ => spec_encS (good_sz hg ht hf) k⟩
 by_cases hx : x = 0
 ·obtain ⟨r, er, hr, hrl⟩ := drawDS_j0 (x := (encS g t xs u).set y.toNat (Go.bits .xor .u8 (rd (encS g t xs u) y) ((wrap64 (1 + z)) % 256))) (h := h3) (k5 := x) (v := wrap64 (1 + z)) hl c3 (by rw [List.length_set, h128]) (set_u8 hu _ (bits_u8 _ _ _)) ⟨y0, y1⟩
  exact ⟨r, Ev.bind en (Ev.bind ef (Ev.bind ee (Ev.bind (Ev.const e1) (Ev.bind (Ev.const e2) (Ev.bind (Ev.const e3) (Ev.pos hx (Ev.pos y0 (Ev.pos (by rw [h128]; omega) er)))))))), hr, hrl⟩
 ·obtain ⟨r, er, hr, hrl⟩ := drawDS_j0 (x := encS g t xs u) (h := h3) (k5 := x) (v := wrap64 (1 + z)) hl c3 h128 hu ⟨y0, y1⟩
  exact ⟨r, Ev.bind en (Ev.bind ef (Ev.bind ee (Ev.bind (Ev.const e1) (Ev.bind (Ev.const e2) (Ev.bind (Ev.const e3) (Ev.neg hx er)))))), hr, hrl⟩
end
end Go.Proofs.Ytgfadfahbhcllaa.P
namespace Go.Proofs.Ytgfadfahbhcllaa.Pure
open Go.RowKit Go.Proofs.Ytgfadfahbhcllaa.Q Go.Proofs.Ytgfadfahbhcllaa.P
theorem decS_sz {l : List Int} (hu : U8s l) (h : (decS l).1 = true) : snapSz (decS l).2.1 (decS l).2.2.1 (decS l).2.2.2.1 (decS l).2.2.2.2 := by
 have hg := (enc_decS h).2
 by_cases c : l.length = 128 ∧ isSnap l = true
 ·have hd : decS l = (true, sGen l, sTail l, sDeny l (sCnt l).toNat, sUsed l 256) := if_pos c
  rw [hd] at hg ⊢
  exact good_sz (num4 hu _ (by omega)) (num4 hu _ (by omega)) hg
 ·rw [decS_no c] at h; cases h
theorem snap_second {l : List Int} (hl : l.length ≤ 1048576) : Ev (fun k => laws_FnSnap.j1 k l false) true := by
 obtain ⟨r, er, hu, hr⟩ := drawDS_ev hl
 have ei : impl_DecodeSnap.f r = some (decS r) := if_pos hu
 refine Ev.step (g := ?g) ⟨0, fun k _ => ?e⟩ ?n
 case e =>
  simp only [laws_FnSnap.j1]
  rw [if_neg (show ¬ (false = true) by decide)]
 case n =>
  refine Ev.bind er (Ev.bind (Ev.const ei) (Ev.bind (spec_decS hu (by omega)) (Ev.pos (by simp) ?_)))
  by_cases hd : (decS r).1 = true
  ·refine Ev.pos hd (Ev.bind (Ev.const (if_pos (decS_sz hu hd))) ?_)
   rw [(enc_decS hd).1]
   exact Ev.bind (Ev.const (a := true) (by simp [laws_lwBytes.f])) (Ev.const rfl)
  ·exact Ev.neg hd (Ev.const rfl)
theorem FnSnap : laws_FnSnap.Pure := by
 intro l m ⟨hl, hb⟩ ⟨hl2, hb2⟩
 refine Ev.ex (f := fun k => laws_FnSnap.f k l m) ?_
 simp only [laws_FnSnap.f]
 have key : ∀ b, (b = false → (l.length ≤ 1048576 ∧ m.length ≤ 1048576)) → Ev (fun k => laws_FnSnap.j0 k l m b) true := by
  intro b hbb
  cases b with
  | true => exact Ev.last ⟨0, fun k _ => by simp [laws_FnSnap.j0]⟩
  | false =>
   obtain ⟨h1, h2⟩ := hbb rfl
   obtain ⟨g, t, xs, u, ed, hg, ht, hx, hu⟩ := drawES_ev h1
   have hsz : snapSz g t xs u := ⟨hg, ht, by omega, by omega⟩
   have ei : impl_EncodeSnap.f g t xs u = some (encS g t xs u) := if_pos hsz
   have edc : impl_DecodeSnap.f (encS g t xs u) = some (if goodSnap g t xs u = true then (true, g, t, xs, u) else (false, 0, 0, [], [])) := by
    rw [← dec_encS hg ht]
    exact if_pos (encS_u8 _ _ _ _)
   have e2 := snap_second h2
   refine Ev.step (g := ?g) ⟨0, fun k _ => ?e⟩ ?n
   case e =>
    simp only [laws_FnSnap.j0]
    rw [if_neg (show ¬ (false = true) by decide)]
   case n =>
    refine Ev.bind ed (Ev.bind ⟨0, fun k _ => spec_encS hsz k⟩ (Ev.bind (Ev.const ei) (Ev.bind (Ev.const edc) ?_)))
    by_cases hk : goodSnap g t xs u = true
    ·have h128 := encS_128 hk
     rw [if_pos hk]
     have hgt : ((encS g t xs u).length : Int) > 0 := by rw [h128]; decide
     refine Ev.neg (by rw [decide_eq_true hgt]; exact fun h => Bool.noConfusion h) (Ev.pos hgt (Ev.pos rfl (Ev.pos rfl (Ev.bind (lwNums_ev xs (by omega)) (Ev.pos rfl (Ev.bind (lwNums_ev u (by omega)) e2))))))
    ·have h0 := encS_0 hk
     rw [if_neg hk]
     have hgt : ¬ ((encS g t xs u).length : Int) > 0 := by rw [h0]; decide
     exact Ev.neg (by rw [decide_eq_false hgt]; exact fun h => Bool.noConfusion h) (Ev.neg hgt e2)
 by_cases h1 : (l.length : Int) > 1048576
 ·exact Ev.pos h1 (key true (by simp))
 ·refine Ev.neg h1 (key _ (fun h => ?_))
  have := of_decide_eq_false h
  omega
end Go.Proofs.Ytgfadfahbhcllaa.Pure
end
namespace Go.Proofs.Ytgfadfahbhcllaa.fnSnap
open Go.ChangeShapes Go.WideShapes Go.ChangeAt Go.RowKit Go.Proofs.Ytgfadfahbhcllaa.Q Go.Proofs.YtgfadfahbhcllaaW.PrintWords Go.Proofs.Ytgfadfahbhcllaa.O
open Go.ChangeMaps (open_string shut_string)
set_option linter.unusedVariables false
theorem own : ownKnob Try.prog.godebug = none := by kernel_rfl
theorem laidOut : laidOutB Try.prog = true := by kernel_rfl
set_option maxRecDepth 100000 in
theorem lifted (os : Os) (started : os.Started) (H : Type) (enc : TypeId × Value → H) :
  ReturnsInHanded {} Try.checked os 9 .any (Rows.fnSnapSpec.pre6 enc Try.prog Try.f9 Rows.fnSnapRow.domain false) (Rows.fnSnapSpec.post enc Try.prog Try.f9 false true false false) := by
 refine returnsInHanded_of_change_sized (C := Try.checked) own started (by kernel_rfl) Try.func9
  (ChangeSpec.witness6 (enc := enc) (C := Try.checked) false ⟨#[], #[.slice none 0 0, .slice none 0 0], []⟩ 8 (by kernel_rfl) (by kernel_rfl) (by kernel_rfl) (by kernel_rfl)) ?_
 intro W base args ds gs before hval0 hW hcnd hsz0 _
 have hval : ∀ (j : Nat) t v, Try.f9.params[j]? = some t → args[j]? = some v → Value.okWide Try.prog W .any base t v := hval0
 have hW' := hW
 obtain ⟨p, q, hA0, hV, rfl, hfz, hnd⟩ := hW
 have hA : DataW.TrodAll enc Try.prog W 0 (fun _ => true) true Try.f9.params.toList args.toList ds p := hA0
 rw [Try.params9] at hA hval
 obtain ⟨v0, vs0, d0, ds0, p0, q0, hargs, rfl, rfl, h0, r0⟩ := trodAll_cons hA
 obtain ⟨v1, vs1, d1, ds1, p1, q1, rfl, rfl, rfl, h1, r1⟩ := trodAll_cons r0
 obtain ⟨rfl, rfl, rfl⟩ := trodAll_nil r1
 obtain rfl : args = #[v0, v1] := by cases args; simp_all
 obtain ⟨rfl, rfl⟩ := trodVars_none hV
 have k0 := h0
 have lt0 : ∀ x ∈ p0, x.block < W.heap.size := by obtain ⟨m, hm⟩ := k0; exact DataW.trod_lt m _ _ _ hm
 obtain ⟨a0, len0, cap0, rfl⟩ := okWide_slice Try.underlying25 (hval 0 25 v0 rfl rfl)
 obtain ⟨l0, ⟨A0, c0, he0, m0, g0⟩, w0⟩ : ∃ x, ((Kd.slice 5 (Kd.int .u8))).K W x [.slice a0 len0 cap0] ∧ (x.length ≤ 9223372036854775807 ∧ ∀ z_ ∈ x, (Lit.int .u8 z_).wf = true) := by
  obtain ⟨fuel, hf⟩ := h0
  exact (opens_slice Try.underlying25 (by kernel_rfl) (opens_int Try.underlying5)) H enc W fuel _ _ hf
 obtain ⟨rfl, rfl, rfl⟩ : a0 = A0 ∧ len0 = l0.length ∧ cap0 = c0 := by simpa using he0
 have k1 := h1
 have lt1 : ∀ x ∈ p1, x.block < W.heap.size := by obtain ⟨m, hm⟩ := k1; exact DataW.trod_lt m _ _ _ hm
 obtain ⟨a1, len1, cap1, rfl⟩ := okWide_slice Try.underlying25 (hval 1 25 v1 rfl rfl)
 obtain ⟨l1, ⟨A1, c1, he1, m1, g1⟩, w1⟩ : ∃ x, ((Kd.slice 5 (Kd.int .u8))).K W x [.slice a1 len1 cap1] ∧ (x.length ≤ 9223372036854775807 ∧ ∀ z_ ∈ x, (Lit.int .u8 z_).wf = true) := by
  obtain ⟨fuel, hf⟩ := h1
  exact (opens_slice Try.underlying25 (by kernel_rfl) (opens_int Try.underlying5)) H enc W fuel _ _ hf
 obtain ⟨rfl, rfl, rfl⟩ : a1 = A1 ∧ len1 = l1.length ∧ cap1 = c1 := by simpa using he1
 clear hA0 hval0 hsz0
 obtain ⟨k, hp⟩ := Pure.FnSnap l0 l1 w0 w1
 refine (laws_FnSnap.calls k _ _ l0 _ _ l1 W g0 m0 g1 m1 hp).mono fun e W' ⟨he, bel⟩ => ?_
 subst he
 exact ⟨_, rfl, _, _, _, [], _, [], hW', trodAll_mk1 (shut_bool Try.underlying4 _), (trodAll_cons_mk (Below.trod laidOut (by kernel_rfl) (of_decide_eq_true (by kernel_rfl)) k0 bel lt0) (trodAll_cons_mk (Below.trod laidOut (by kernel_rfl) (of_decide_eq_true (by kernel_rfl)) k1 bel lt1) trodAll_mk0)), rfl, bel.frame _, fun h => by cases h⟩
theorem over : Rows.fnSnapRow.holds Try.pinned (OpenSpec.ofChange Rows.fnSnapSpec) :=
 OpenClaim.holds_of_wide 9 Try.f9 rfl rfl rfl rfl rfl rfl rfl ⟨rfl, rfl, rfl, rfl, rfl⟩ rfl rfl rfl rfl rfl (by kernel_rfl) Try.func9 (by kernel_rfl)
  (of_decide_eq_true (by kernel_rfl)) (by unfold Func.isWrapper; first | (rw [if_pos (by decide +kernel)]; kernel_rfl) | (rw [if_neg (by decide +kernel)]; exact ⟨rfl, rfl⟩))
  (fun os started H enc _ => lifted os started H enc)
theorem proved : Rows.FnSnapSaid := over
#print axioms proved
end Go.Proofs.Ytgfadfahbhcllaa.fnSnap
namespace Go.Proofs.Ytgfadfahbhcllaa
theorem fnSnap_holds : Rows.FnSnapSaid := fnSnap.proved
end Go.Proofs.Ytgfadfahbhcllaa
