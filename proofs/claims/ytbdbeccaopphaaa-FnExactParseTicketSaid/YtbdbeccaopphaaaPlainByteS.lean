/- Rows of the kind ByteS: copied, compared, sized, marked, held. No further condition. -/
import Derived.Test.YtbdbeccaopphaaaPlain
import Derived.Test.YtbdbeccaopphaaaQlawstoByteS
import Derived.Test.YtbdbeccaopphaaaQlawseqByteS
import Derived.Test.YtbdbeccaopphaaaQlawsszByteS
import Derived.Test.YtbdbeccaopphaaaQlawsmarkByteS
import Derived.Test.YtbdbeccaopphaaaQlawsheldByteS
namespace Go.Proofs.Ytbdbeccaopphaaa.P
open Go.RowKit Go.Proofs.YtbdbeccaopphaaaW.PrintWords Go.Proofs.Ytbdbeccaopphaaa.Q
set_option linter.unusedVariables false
set_option linter.unusedSimpArgs false
theorem toByteS_ev (l : List Int) (h : l.length ≤ 281474976710656) : Ev (fun k => laws_toByteS.f k l) l := by
  have h1 := copy_ends (fun k y i => laws_toByteS.l0 k l y i) id l (List.replicate ((l.length : Int)).toNat 0) (by simp) ?_ ?_
  · rw [List.map_id] at h1
    refine Ev.congr (fun k => ?_) h1
    simp only [laws_toByteS.f]
    rw [if_pos (by omega), if_pos (by omega)]
  · intro i a y ha hi hy
    refine ⟨0, fun k _ => ?_⟩
    simp only [laws_toByteS.l0]
    rw [if_pos (by omega), if_pos (by omega), if_pos (by omega), w64s hi (by omega), rd_at ha]
    rfl
  · intro k y hy
    simp only [laws_toByteS.l0]
    rw [if_neg (by omega)]
theorem eqByteS_ev (l : List Int) (h : l.length ≤ 4611686018427387904) : Ev (fun k => laws_eqByteS.f k l l) true := by
  refine Ev.congr (fun k => ?_) (each_ends (fun k i => laws_eqByteS.l0 k l l i) l.length true ?_ ?_)
  · simp only [laws_eqByteS.f]
    rw [if_pos trivial]
  · intro i hi
    refine ⟨0, fun k _ => ?_⟩
    simp only [laws_eqByteS.l0]
    rw [if_pos (by omega), if_pos (by omega), if_pos (by omega), if_pos trivial, w64s hi (by omega)]
  · intro k
    simp only [laws_eqByteS.l0]
    rw [if_neg (by omega)]
theorem szByteS_is (l : List Int) (a : Int) (h0 : 0 ≤ a) (h1 : a ≤ 1048576) (hl : l.length ≤ 9223372036854775807) : ∃ t, laws_szByteS.f l a = some t ∧ (t < 0 ∨ (t = a - l.length ∧ 0 ≤ t)) := by
  simp only [laws_szByteS.f]
  rw [w64 (by omega) (by omega)]
  by_cases h : a - (l.length : Int) < 0
  · rw [if_pos h]
    exact ⟨_, rfl, .inl (by omega)⟩
  · rw [if_neg h]
    exact ⟨_, rfl, .inr ⟨rfl, by omega⟩⟩
def mkByteS (m : Int) (n : Nat) : List Int := ups (fun c => c % 256) m n
theorem mkByteS_length (m : Int) (n : Nat) : (mkByteS m n).length = n := ups_length _ _ _
theorem mkByteS_at (m : Int) {n i : Nat} (h : i < n) : (mkByteS m n)[i]? = some ((fun c => c % 256) (m + i)) := ups_at _ m h
theorem markByteS_ev (l : List Int) (m : Int) (h0 : 0 ≤ m) (hm : m + l.length ≤ 4611686018427387904) : Ev (fun k => laws_markByteS.f k l m) (m + l.length, mkByteS m l.length) := by
  refine mark_ends (fun k y c i => laws_markByteS.l0 k y c i) (fun c => c % 256) l m h0 hm ?_ ?_
  · intro k i y c hi hy
    simp only [laws_markByteS.l0]
    rw [if_pos (by omega), if_pos (by omega)]
    rfl
  · intro k y c hy
    simp only [laws_markByteS.l0]
    rw [if_neg (by omega)]
theorem heldByteS_ev (n : Nat) (m : Int) (h0 : 0 ≤ m) (hm : m + n ≤ 4611686018427387904) : Ev (fun k => laws_heldByteS.f k (mkByteS m n) m) (m + n) := by
  refine held_ends (fun k c i => laws_heldByteS.l0 k (mkByteS m n) c i) n m h0 hm ?_ ?_
  · intro k i hi
    simp only [laws_heldByteS.l0, mkByteS_length]
    rw [if_pos (by omega), if_pos (by omega), rd_at (mkByteS_at m hi), if_pos rfl]
  · intro k
    simp only [laws_heldByteS.l0, mkByteS_length]
    rw [if_neg (by omega)]
end Go.Proofs.Ytbdbeccaopphaaa.P
