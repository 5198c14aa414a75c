/- Numbers read from bytes, lowest byte first. No further condition. -/
import Derived.Test.YtbdbeccaopphaaaPlain
import Derived.Test.YtbdbeccaopphaaaQimplget
import Derived.Test.YtbdbeccaopphaaaQspecl2Get
import Derived.Laws.BitsLemmas
namespace Go.Proofs.Ytbdbeccaopphaaa.P
open Go.RowKit Go.Proofs.YtbdbeccaopphaaaW.PrintWords Go.Proofs.Ytbdbeccaopphaaa.Q
set_option linter.unusedVariables false
set_option linter.unusedSimpArgs false

/-- The number that bytes tell, the lowest first. -/
def le : List Int → Int
  | [] => 0
  | b :: bs => b + 256 * le bs
def U8s (l : List Int) : Prop := ∀ z ∈ l, 0 ≤ z ∧ z ≤ 255
theorem u8_of {l : List Int} (h : ∀ z ∈ l, (Lit.int .u8 z).wf = true) : U8s l := by
  intro z hz
  have := h z hz
  simp [Lit.wf, IntKind.min, IntKind.max, IntKind.signed, IntKind.bits] at this
  omega
theorem U8s.drop {l : List Int} (h : U8s l) (n : Nat) : U8s (l.drop n) := fun z hz => h z (List.mem_of_mem_drop hz)
theorem U8s.take {l : List Int} (h : U8s l) (n : Nat) : U8s (l.take n) := fun z hz => h z (List.mem_of_mem_take hz)
theorem U8s.at_ {l : List Int} (h : U8s l) {i : Nat} {b : Int} (hb : l[i]? = some b) : 0 ≤ b ∧ b ≤ 255 := h b (List.mem_of_getElem? hb)
theorem le_range : ∀ {l : List Int}, U8s l → 0 ≤ le l ∧ le l < 256 ^ l.length
  | [], _ => ⟨by decide, by decide⟩
  | b :: bs, h => by
    have h1 := le_range (l := bs) (fun z hz => h z (List.mem_cons_of_mem _ hz))
    have h2 := h b (List.mem_cons_self ..)
    have e : (256 : Int) ^ (b :: bs).length = 256 * 256 ^ bs.length := by rw [List.length_cons, Int.pow_succ, Int.mul_comm]
    rw [e]
    unfold le
    omega
theorem le_snoc : ∀ (l : List Int) (b : Int), le (l ++ [b]) = le l + 256 ^ l.length * b
  | [], b => by simp [le]
  | a :: l, b => by
    simp only [List.cons_append, le, le_snoc l b, List.length_cons, Int.pow_succ]
    rw [Int.mul_add, ← Int.add_assoc, Int.mul_comm (256 ^ l.length) 256, Int.mul_assoc]
theorem u64_wrap {n : Int} (h0 : 0 ≤ n) (h : n < 18446744073709551616) : IntKind.u64.wrap n = n := by
  simp [IntKind.wrap, IntKind.bits, IntKind.signed]
  omega
theorem or_byte (x b : Int) (hx : 0 ≤ x) (hx1 : x < 72057594037927936) (hb : 0 ≤ b ∧ b ≤ 255) : Go.bits .or .u64 (IntKind.u64.wrap (x * 256)) (IntKind.u64.wrap b) = b + 256 * x := by
  rw [u64_wrap (by omega) (by omega), u64_wrap (by omega) (by omega)]
  rw [bits_join .u64 64 (Nat.le_refl _) (fun n h h2 => u64_wrap h h2) 8 (x * 256) b (by omega) (by omega) (by omega) hb.1 (by omega) (by omega)]
  omega
/-- The program's own reading of n bytes at a. -/
theorem get_loop (l : List Int) (a : Int) (hb : U8s l) (h0 : 0 ≤ a) (hl : l.length ≤ 4611686018427387904) : ∀ (i : Nat) (m : List Int), i + m.length ≤ 8 → a.toNat + i + m.length ≤ l.length → (l.drop (a.toNat + i)).take m.length = m →
    Ev (fun k => impl_get.l0 k l a (le m) ((i : Int) - 1)) (le ((l.drop a.toNat).take (i + m.length)))
  | 0, m, h8, hal, hm => by
    refine Ev.last ⟨0, fun k _ => ?_⟩
    simp only [impl_get.l0]
    rw [if_neg (by omega)]
    rw [Nat.zero_add]
    rw [Nat.add_zero] at hm
    rw [hm]
  | i + 1, m, h8, hal, hm => by
    obtain ⟨b, hbt⟩ := some_at (show a.toNat + i < l.length by omega)
    have hmb : U8s m := hm ▸ (hb.drop _).take _
    have hr := le_range hmb
    have hp : (256 : Int) ^ m.length ≤ 256 ^ 7 := by
      have : (256 : Nat) ^ m.length ≤ 256 ^ 7 := Nat.pow_le_pow_right (by decide) (by omega)
      have h := Int.ofNat_le.mpr this
      rw [Int.natCast_pow, Int.natCast_pow] at h
      exact h
    have hlt : le m < 72057594037927936 := by
      have : (256 : Int) ^ 7 = 72057594037927936 := by rfl
      omega
    have hc : (l.drop (a.toNat + i)).take (b :: m).length = b :: m := by
      rw [List.length_cons, List.drop_eq_getElem_cons (by omega), List.take_succ_cons]
      congr 1
      exact (List.getElem?_eq_some_iff.1 hbt).2
    have h1 := get_loop l a hb h0 hl i (b :: m) (by rw [List.length_cons]; omega) (by rw [List.length_cons]; omega) hc
    rw [List.length_cons, show i + (m.length + 1) = i + 1 + m.length from by omega] at h1
    refine Ev.step ⟨0, fun k _ => ?_⟩ h1
    have e1 : wrap64 (a + (((i + 1 : Nat) : Int) - 1)) = ((a.toNat + i : Nat) : Int) := by rw [w64 (by omega) (by omega)]; omega
    have e2 : wrap64 (((i + 1 : Nat) : Int) - 1 - 1) = (i : Int) - 1 := by rw [w64 (by omega) (by omega)]; omega
    simp only [impl_get.l0]
    rw [e1, e2, rd_at hbt, or_byte (le m) b hr.1 hlt (hb.at_ hbt), if_pos (by clear e1 e2; omega), if_pos (by clear e1 e2; omega), if_pos (by clear e1 e2; omega)]
    rfl
theorem impl_get_ev (l : List Int) (a n : Int) (hb : U8s l) (h0 : 0 ≤ a) (hn : 0 ≤ n) (h8 : n ≤ 8) (h : a + n ≤ l.length) (hl : l.length ≤ 4611686018427387904) : Ev (fun k => impl_get.f k l a n) (le ((l.drop a.toNat).take n.toNat)) := by
  have h1 := get_loop l a hb h0 hl n.toNat [] (by simp; omega) (by simp; omega) rfl
  rw [List.length_nil, Nat.add_zero, show ((n.toNat : Nat) : Int) = n from by omega] at h1
  simp only [impl_get.f]
  rw [w64 (by omega) (by omega)]
  exact h1
theorem take4 {l : List Int} {i : Nat} {b0 b1 b2 b3 : Int} (h0 : l[i]? = some b0) (h1 : l[i + 1]? = some b1) (h2 : l[i + 2]? = some b2) (h3 : l[i + 3]? = some b3) : (l.drop i).take 4 = [b0, b1, b2, b3] := by
  apply List.ext_getElem?
  intro j
  match j with
  | 0 => simpa using h0
  | 1 => simpa using h1
  | 2 => simpa using h2
  | 3 => simpa using h3
  | j + 4 =>
    simp
    omega
theorem spec_get (l : List Int) (a : Int) (hb : U8s l) (h0 : 0 ≤ a) (h : a + 4 ≤ l.length) (hl : l.length ≤ 4611686018427387904) : spec_l2Get.f l a = some (le ((l.drop a.toNat).take 4)) := by
  obtain ⟨b0, e0⟩ := some_at (show a.toNat < l.length by omega)
  obtain ⟨b1, e1⟩ := some_at (show a.toNat + 1 < l.length by omega)
  obtain ⟨b2, e2⟩ := some_at (show a.toNat + 2 < l.length by omega)
  obtain ⟨b3, e3⟩ := some_at (show a.toNat + 3 < l.length by omega)
  rw [take4 e0 e1 e2 e3]
  have r0 := hb.at_ e0
  have r1 := hb.at_ e1
  have r2 := hb.at_ e2
  have r3 := hb.at_ e3
  have f0 : rd l a = b0 := by have := rd_at e0; rwa [show ((a.toNat : Nat) : Int) = a from by omega] at this
  have f1 : rd l (a + 1) = b1 := by have := rd_at e1; rwa [show ((a.toNat + 1 : Nat) : Int) = a + 1 from by omega] at this
  have f2 : rd l (a + 2) = b2 := by have := rd_at e2; rwa [show ((a.toNat + 2 : Nat) : Int) = a + 2 from by omega] at this
  have f3 : rd l (a + 3) = b3 := by have := rd_at e3; rwa [show ((a.toNat + 3 : Nat) : Int) = a + 3 from by omega] at this
  simp only [spec_l2Get.f]
  rw [w64 (n := a + 1) (by omega) (by omega), w64 (n := a + 2) (by omega) (by omega), w64 (n := a + 3) (by omega) (by omega), f0, f1, f2, f3]
  rw [if_pos (by omega), if_pos (by omega), if_pos (by omega), if_pos (by omega), if_pos (by omega), if_pos (by omega), if_pos (by omega), if_pos (by omega)]
  congr 1
  simp only [le]
  omega
end Go.Proofs.Ytbdbeccaopphaaa.P
