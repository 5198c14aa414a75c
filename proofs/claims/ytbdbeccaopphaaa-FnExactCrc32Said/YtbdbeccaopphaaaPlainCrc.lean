/- The checksum: the program's bits and the model's bits are the same. No further condition. -/
import Derived.Test.YtbdbeccaopphaaaPlain
import Derived.Test.YtbdbeccaopphaaaQspecCrc32
import Derived.Test.YtbdbeccaopphaaaQimplCrc32
import Derived.Laws.BitsLemmas
namespace Go.Proofs.Ytbdbeccaopphaaa.P
open Go.RowKit Go.Proofs.YtbdbeccaopphaaaW.PrintWords Go.Proofs.Ytbdbeccaopphaaa.Q
set_option linter.unusedVariables false
set_option linter.unusedSimpArgs false

def U32 (x : Int) : Prop := 0 ≤ x ∧ x ≤ 4294967295
theorem u32_wrap (n : Int) (h : U32 n) : IntKind.u32.wrap n = n := by rw [IntKind.wrap_u32]; unfold U32 at h; omega
theorem bits_u32 (op : BinOp) (x y : Int) : U32 (Go.bits op .u32 x y) := by
  unfold Go.bits U32
  rw [IntKind.wrap_u32]
  omega
theorem xor32 (a b : Nat) (ha : a < 4294967296) (hb : b < 4294967296) : Go.bits .xor .u32 (a : Int) (b : Int) = ((a ^^^ b : Nat) : Int) := by
  have h : a ^^^ b < 2 ^ 32 := Nat.xor_lt_two_pow (by simpa using ha) (by simpa using hb)
  unfold Go.bits
  simp only [BitVec.ofInt_natCast, BitVec.toNat_xor, BitVec.toNat_ofNat]
  rw [show IntKind.u32.bits = 32 from rfl, Nat.mod_eq_of_lt (by simpa using ha), Nat.mod_eq_of_lt (by simpa using hb)]
  exact u32_wrap _ ⟨by omega, by omega⟩
theorem and32 (a b : Nat) (ha : a < 4294967296) (hb : b < 4294967296) : Go.bits .and .u32 (a : Int) (b : Int) = ((a &&& b : Nat) : Int) := by
  have h : a &&& b < 2 ^ 32 := Nat.and_lt_two_pow _ (by simpa using hb)
  unfold Go.bits
  simp only [BitVec.ofInt_natCast, BitVec.toNat_and, BitVec.toNat_ofNat]
  rw [show IntKind.u32.bits = 32 from rfl, Nat.mod_eq_of_lt (by simpa using ha), Nat.mod_eq_of_lt (by simpa using hb)]
  exact u32_wrap _ ⟨by omega, by omega⟩
theorem xor32_comm (x y : Int) (hx : U32 x) (hy : U32 y) : Go.bits .xor .u32 x y = Go.bits .xor .u32 y x := by
  obtain ⟨a, rfl⟩ := Int.eq_ofNat_of_zero_le hx.1
  obtain ⟨b, rfl⟩ := Int.eq_ofNat_of_zero_le hy.1
  have h1 := hx.2
  have h2 := hy.2
  rw [xor32 a b (by omega) (by omega), xor32 b a (by omega) (by omega), Nat.xor_comm]
/-- One bit of the checksum. -/
def bit (x : Int) : Int := if x % 2 = 1 then Go.bits .xor .u32 (x / 2) 3988292384 else x / 2
theorem bit_range {x : Int} (h : U32 x) : U32 (bit x) := by
  unfold bit
  split
  · exact bits_u32 _ _ _
  · unfold U32 at *
    omega
theorem bit_spec {x : Int} (h : U32 x) : (if Int.tmod x 2 = 1 then Go.bits .xor .u32 ((Int.tdiv x 2) % 4294967296) 3988292384 else (Int.tdiv x 2) % 4294967296) = bit x := by
  unfold U32 at h
  have e1 : Int.tmod x 2 = x % 2 := Int.tmod_eq_emod_of_nonneg h.1
  have e2 : Int.tdiv x 2 = x / 2 := Int.tdiv_eq_ediv_of_nonneg h.1
  have e3 : (x / 2) % 4294967296 = x / 2 := by omega
  rw [e1, e2, e3]
  rfl
theorem bit_impl {x : Int} (h : U32 x) : Go.bits .xor .u32 (x / 2) (Go.bits .and .u32 3988292384 ((-(Go.bits .and .u32 x 1)) % 4294967296)) = bit x := by
  obtain ⟨n, rfl⟩ := Int.eq_ofNat_of_zero_le h.1
  have h1 := h.2
  have e : Go.bits .and .u32 (n : Int) 1 = ((n % 2 : Nat) : Int) := by
    have := and32 n 1 (by omega) (by omega)
    rw [Nat.and_one_is_mod] at this
    exact this
  unfold bit
  rw [e]
  rcases Nat.mod_two_eq_zero_or_one n with h2 | h2
  · rw [h2, if_neg (by omega)]
    rw [show (-((0 : Nat) : Int)) % 4294967296 = 0 from by decide, show Go.bits .and .u32 3988292384 0 = 0 from by decide]
    have := xor32 (n / 2) 0 (by omega) (by omega)
    rw [Nat.xor_zero] at this
    exact this
  · rw [h2, if_pos (by omega)]
    rw [show (-((1 : Nat) : Int)) % 4294967296 = 4294967295 from by decide, show Go.bits .and .u32 3988292384 4294967295 = 3988292384 from by decide]
def bitN : Nat → Int → Int
  | 0, x => x
  | n + 1, x => bitN n (bit x)
theorem bitN_range : ∀ n {x : Int}, U32 x → U32 (bitN n x)
  | 0, _, h => h
  | n + 1, _, h => bitN_range n (bit_range h)
def crcByte (c b : Int) : Int := bitN 8 (Go.bits .xor .u32 c (b % 4294967296))
def crcOf (l : List Int) (c : Int) : Int := l.foldl crcByte c
theorem crcOf_range : ∀ (l : List Int) {c : Int}, U32 c → U32 (crcOf l c)
  | [], _, h => h
  | b :: l, _, _ => crcOf_range l (bitN_range 8 (bits_u32 _ _ _))
def crc32 (l : List Int) : Int := Go.bits .xor .u32 (crcOf l 4294967295) 4294967295
theorem crc32_range (l : List Int) : U32 (crc32 l) := bits_u32 _ _ _
theorem spec_inner (l : List Int) (i4 : Int) {r : Int} : ∀ (j i : Nat) (x : Int), i + j = 8 → U32 x → Ev (fun k => spec_Crc32.l0 k l (bitN j x) (wrap64 (i4 + 1))) r → Ev (fun k => spec_Crc32.l1 k l x i4 (i : Int)) r
  | 0, i, x, h, _, e => by
    refine Ev.step ⟨0, fun k _ => ?_⟩ e
    simp only [spec_Crc32.l1]
    rw [if_neg (by omega)]
    rfl
  | j + 1, i, x, h, hx, e => by
    refine Ev.step ⟨0, fun k _ => ?_⟩ (spec_inner l i4 j (i + 1) (bit x) (by omega) (bit_range hx) e)
    simp only [spec_Crc32.l1]
    rw [if_pos (by omega), w64s (i := i) (n := 8) (by omega) (by omega), ← bit_spec hx]
    split <;> rfl
theorem spec_Crc32_ev (l : List Int) (h : l.length ≤ 4611686018427387904) : Ev (fun k => spec_Crc32.f k l) (crc32 l) := by
  have key : ∀ (rest done : List Int) (c : Int), done ++ rest = l → U32 c → Ev (fun k => spec_Crc32.l0 k l c (done.length : Int)) (Go.bits .xor .u32 (crcOf rest c) 4294967295) := by
    intro rest
    induction rest with
    | nil =>
      intro done c hl hc
      refine Ev.last ⟨0, fun k _ => ?_⟩
      have : l.length = done.length := by rw [← hl, List.append_nil]
      simp only [spec_Crc32.l0]
      rw [if_neg (by omega)]
      rfl
    | cons b rest ih =>
      intro done c hl hc
      have hlen : done.length + (rest.length + 1) = l.length := by rw [← hl, List.length_append, List.length_cons]
      have hat : l[done.length]? = some b := by rw [← hl]; simp
      have h1 := ih (done ++ [b]) (crcByte c b) (by rw [← hl]; simp) (bitN_range 8 (bits_u32 _ _ _))
      rw [List.length_append, List.length_singleton] at h1
      refine Ev.step ⟨0, fun k _ => ?_⟩ (spec_inner l (done.length : Int) 8 0 (Go.bits .xor .u32 c (b % 4294967296)) rfl (bits_u32 _ _ _) ?_)
      · simp only [spec_Crc32.l0]
        rw [if_pos (by omega), if_pos (by omega), rd_at hat]
        rfl
      · rw [w64s (i := done.length) (n := l.length) (by omega) (by omega)]
        exact h1
  exact key l [] 4294967295 rfl ⟨by decide, by decide⟩
theorem impl_inner (l : List Int) (n i4 : Int) {r : Int} : ∀ (j i : Nat) (x : Int), i + j = 8 → U32 x → Ev (fun k => impl_Crc32.l0 k (bitN j x) l n (wrap64 (i4 + 1))) r → Ev (fun k => impl_Crc32.l1 k x l n i4 (i : Int)) r
  | 0, i, x, h, _, e => by
    refine Ev.step ⟨0, fun k _ => ?_⟩ e
    simp only [impl_Crc32.l1]
    rw [if_neg (by omega)]
    rfl
  | j + 1, i, x, h, hx, e => by
    refine Ev.step ⟨0, fun k _ => ?_⟩ (impl_inner l n i4 j (i + 1) (bit x) (by omega) (bit_range hx) e)
    simp only [impl_Crc32.l1]
    rw [if_pos (by omega), w64s (i := i) (n := 8) (by omega) (by omega), bit_impl hx]
theorem impl_Crc32_ev (l : List Int) (h : l.length ≤ 4611686018427387904) : Ev (fun k => impl_Crc32.f k l) (crc32 l) := by
  have key : ∀ (rest done : List Int) (c : Int), done ++ rest = l → U32 c → Ev (fun k => impl_Crc32.l0 k c l (l.length : Int) (done.length : Int)) (Go.bits .xor .u32 4294967295 (crcOf rest c)) := by
    intro rest
    induction rest with
    | nil =>
      intro done c hl hc
      refine Ev.last ⟨0, fun k _ => ?_⟩
      have : l.length = done.length := by rw [← hl, List.append_nil]
      simp only [impl_Crc32.l0]
      rw [if_neg (by omega)]
      rfl
    | cons b rest ih =>
      intro done c hl hc
      have hlen : done.length + (rest.length + 1) = l.length := by rw [← hl, List.length_append, List.length_cons]
      have hat : l[done.length]? = some b := by rw [← hl]; simp
      have h1 := ih (done ++ [b]) (crcByte c b) (by rw [← hl]; simp) (bitN_range 8 (bits_u32 _ _ _))
      rw [List.length_append, List.length_singleton] at h1
      refine Ev.step ⟨0, fun k _ => ?_⟩ (impl_inner l (l.length : Int) (done.length : Int) 8 0 (Go.bits .xor .u32 c (b % 4294967296)) rfl (bits_u32 _ _ _) ?_)
      · simp only [impl_Crc32.l0]
        rw [if_pos (by omega), if_pos (by omega), if_pos (by omega), rd_at hat]
        rfl
      · rw [w64s (i := done.length) (n := l.length) (by omega) (by omega)]
        exact h1
  have h1 := key l [] 4294967295 rfl ⟨by decide, by decide⟩
  rw [xor32_comm _ _ ⟨by decide, by decide⟩ (crcOf_range l ⟨by decide, by decide⟩)] at h1
  exact h1
end Go.Proofs.Ytbdbeccaopphaaa.P
