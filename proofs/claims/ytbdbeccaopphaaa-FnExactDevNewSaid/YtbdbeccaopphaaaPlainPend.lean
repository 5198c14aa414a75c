/- Rows of pends and devices: copied, compared, sized, marked, held. No further condition. -/
import Derived.Test.YtbdbeccaopphaaaPlainByteS
import Derived.Test.YtbdbeccaopphaaaQlawstoDev
import Derived.Test.YtbdbeccaopphaaaQlawseqDev
import Derived.Test.YtbdbeccaopphaaaQlawsszDev
import Derived.Test.YtbdbeccaopphaaaQlawsheldDev
import Derived.Test.YtbdbeccaopphaaaMarksDev
namespace Go.Proofs.Ytbdbeccaopphaaa.P
open Go.RowKit Go.Proofs.YtbdbeccaopphaaaW.PrintWords Go.Proofs.Ytbdbeccaopphaaa.Q
set_option linter.unusedVariables false
set_option linter.unusedSimpArgs false

def cvPend (p : S139) : S101 := ⟨p.f0, p.f1⟩
theorem rdP_at {xs : List S101} {i : Nat} {a : S101} (h : xs[i]? = some a) : rd_T101 xs (i : Int) = a := getD_at h
theorem rdL_at {xs : List S139} {i : Nat} {a : S139} (h : xs[i]? = some a) : rd_T139 xs (i : Int) = a := getD_at h
theorem toPendS_ev (l : List S139) (h : l.length ≤ 1048576) (hp : ∀ p ∈ l, p.f1.length ≤ 1048576) : Ev (fun k => laws_toPendS.f k l) (l.map cvPend) := by
  have h1 := copy_ends (fun k y i => laws_toPendS.l0 k l y i) cvPend l (List.replicate ((l.length : Int)).toNat z101) (by simp) ?_ ?_
  · refine Ev.congr (fun k => ?_) h1
    simp only [laws_toPendS.f]
    rw [if_pos (by omega), if_pos (by omega)]
  · intro i a y ha hi hy
    obtain ⟨K, hK⟩ := toByteS_ev a.f1 (by have := hp a (List.mem_of_getElem? ha); omega)
    refine ⟨K, fun k hk => ?_⟩
    simp only [laws_toPendS.l0, laws_toPend.f]
    rw [if_pos (by omega), if_pos (by omega), rdL_at ha]
    simp only [hK k hk, Option.bind_some]
    rw [if_pos (by omega), w64s hi (by omega)]
    rfl
  · intro k y hy
    simp only [laws_toPendS.l0]
    rw [if_neg (by omega)]
theorem eqPendS_ev (l : List S101) (h : l.length ≤ 4611686018427387904) (hp : ∀ p ∈ l, p.f1.length ≤ 4611686018427387904) : Ev (fun k => laws_eqPendS.f k l l) true := by
  refine Ev.congr (fun k => ?_) (each_ends (fun k i => laws_eqPendS.l0 k l l i) l.length true ?_ ?_)
  · simp only [laws_eqPendS.f]
    rw [if_pos trivial]
  · intro i hi
    obtain ⟨a, ha⟩ := some_at hi
    obtain ⟨K, hK⟩ := eqByteS_ev a.f1 (hp a (List.mem_of_getElem? ha))
    refine ⟨K, fun k hk => ?_⟩
    simp only [laws_eqPendS.l0, laws_eqPend.f]
    rw [if_pos (by omega), if_pos (by omega), if_pos (by omega), rdP_at ha, if_pos trivial]
    simp only [hK k hk, Option.bind_some, if_true]
    rw [w64s hi (by omega)]
  · intro k
    simp only [laws_eqPendS.l0]
    rw [if_neg (by omega)]
/-- What szPendS leaves is what was there less what the rows hold. -/
theorem szPendS_ev (l : List S139) (a : Int) (h0 : 0 ≤ a) (h1 : a ≤ 1048576) (hl : l.length ≤ 9223372036854775807) (hp : ∀ p ∈ l, p.f1.length ≤ 9223372036854775807) :
    ∃ t, Ev (fun k => laws_szPendS.f k l a) t ∧ (t < 0 ∨ (0 ≤ t ∧ t ≤ a ∧ (l.length : Int) ≤ a ∧ ∀ p ∈ l, (p.f1.length : Int) ≤ a)) := by
  have key : ∀ (n i : Nat), i + n = l.length → ∀ b : Int, 0 ≤ b → b ≤ 1048576 → l.length ≤ 1048576 → ∃ t, Ev (fun k => laws_szPendS.l0 k l b (i : Int)) t ∧ (t < 0 ∨ (0 ≤ t ∧ t ≤ b ∧ ∀ j p, i ≤ j → l[j]? = some p → (p.f1.length : Int) ≤ b)) := by
    intro n
    induction n with
    | zero =>
      intro i hi b hb hb1 hll
      refine ⟨b, Ev.last ⟨0, fun k _ => ?_⟩, .inr ⟨hb, Int.le_refl _, fun j p hj hp => ?_⟩⟩
      · simp only [laws_szPendS.l0]
        rw [if_neg (by omega)]
      · have := (List.getElem?_eq_some_iff.1 hp).1
        omega
    | succ n ih =>
      intro i hi b hb hb1 hll
      obtain ⟨p, hpi⟩ := some_at (show i < l.length by omega)
      obtain ⟨t, ht, hc⟩ := szByteS_is p.f1 b hb hb1 (hp p (List.mem_of_getElem? hpi))
      rcases hc with hc | ⟨hc, hc0⟩
      · refine ⟨-1, Ev.last ⟨0, fun k _ => ?_⟩, .inl (by omega)⟩
        simp only [laws_szPendS.l0, laws_szPend.f]
        rw [if_pos (by omega), if_pos (by omega), rdL_at hpi, ht]
        simp only [Option.bind_some]
        rw [if_pos hc]
        simp
      · obtain ⟨t2, h2, h3⟩ := ih (i + 1) (by omega) t (by omega) (by omega) hll
        refine ⟨t2, Ev.step ⟨0, fun k _ => ?_⟩ h2, ?_⟩
        · simp only [laws_szPendS.l0, laws_szPend.f]
          rw [if_pos (by omega), if_pos (by omega), rdL_at hpi, ht]
          simp only [Option.bind_some]
          rw [if_neg (by omega)]
          simp only [Option.bind_some]
          rw [if_neg (by omega), w64s (by omega : i < l.length) (by omega)]
        · rcases h3 with h3 | ⟨h3, h4, h5⟩
          · exact .inl h3
          · refine .inr ⟨h3, by omega, fun j q hj hq => ?_⟩
            by_cases e : j = i
            · subst e
              rw [hpi] at hq
              cases hq
              omega
            · have := h5 j q (by omega) hq
              omega
  by_cases h : a - (l.length : Int) < 0
  · refine ⟨-1, Ev.congr (fun k => ?_) (Ev.const rfl), .inl (by omega)⟩
    simp only [laws_szPendS.f]
    rw [w64 (by omega) (by omega), if_pos h]
  · obtain ⟨t, ht, hc⟩ := key l.length 0 (by omega) (a - l.length) (by omega) (by omega) (by omega)
    refine ⟨t, Ev.congr (fun k => ?_) ht, ?_⟩
    · simp only [laws_szPendS.f]
      rw [w64 (by omega) (by omega), if_neg h]
      rfl
    · rcases hc with hc | ⟨h3, h4, h5⟩
      · exact .inl hc
      · refine .inr ⟨h3, by omega, by omega, fun p hpm => ?_⟩
        obtain ⟨j, hj⟩ := List.getElem?_of_mem hpm
        have := h5 j p (by omega) hj
        omega
/-- What is counted and written over rows of pends. -/
def costP : List S101 → Nat
  | [] => 0
  | p :: ps => 1 + p.f1.length + costP ps
def mkPendS : Int → List S101 → List S101
  | _, [] => []
  | m, p :: ps => ⟨m, mkByteS (m + 1) p.f1.length⟩ :: mkPendS (m + 1 + p.f1.length) ps
theorem markPendS_ev (l : List S101) (m : Int) (h0 : 0 ≤ m) (hl : l.length ≤ 4611686018427387904) (hm : m + costP l ≤ 4611686018427387904) : Ev (fun k => laws_markPendS.f k l m) (m + costP l, mkPendS m l) := by
  have key : ∀ (rest done : List S101) (c : Int), (done ++ rest).length ≤ 4611686018427387904 → 0 ≤ c → c + costP rest ≤ 4611686018427387904 → Ev (fun k => laws_markPendS.l0 k (done ++ rest) c (done.length : Int)) (c + costP rest, done ++ mkPendS c rest) := by
    intro rest
    induction rest with
    | nil =>
      intro done c hl hc0 hc
      refine Ev.last ⟨0, fun k _ => ?_⟩
      simp only [laws_markPendS.l0]
      rw [if_neg (by simp)]
      simp [costP, mkPendS]
    | cons p ps ih =>
      intro done c hl hc0 hc
      simp only [costP] at hc
      simp only [List.length_append, List.length_cons] at hl
      obtain ⟨K, hK⟩ := markByteS_ev p.f1 (c + 1) (by omega) (by omega)
      have h2 := ih (done ++ [⟨c, mkByteS (c + 1) p.f1.length⟩]) (c + 1 + p.f1.length) (by rw [List.length_append, List.length_append, List.length_singleton]; omega) (by omega) (by omega)
      have e : ∀ q : S101, done ++ [q] ++ ps = done ++ q :: ps := fun q => by simp
      have hat : (done ++ p :: ps)[done.length]? = some p := by simp
      have e1 : c + ((1 + p.f1.length + costP ps : Nat) : Int) = c + 1 + (p.f1.length : Int) + (costP ps : Int) := by omega
      simp only [costP, mkPendS]
      rw [e1]
      rw [e, List.append_assoc, List.length_append] at h2
      refine Ev.step (g := fun k => laws_markPendS.l0 k (done ++ ⟨c, mkByteS (c + 1) p.f1.length⟩ :: ps) (c + 1 + p.f1.length) ((done.length + 1 : Nat) : Int)) ⟨K, fun k hk => ?_⟩ h2
      have hset : (done ++ p :: ps).set ((done.length : Int)).toNat ⟨c, mkByteS (c + 1) p.f1.length⟩ = done ++ ⟨c, mkByteS (c + 1) p.f1.length⟩ :: ps := by simp
      simp only [laws_markPendS.l0]
      rw [if_pos (by rw [List.length_append, List.length_cons]; omega), if_pos (by omega), rdP_at hat, w64 (n := c + 1) (by omega) (by omega), w64s (i := done.length) (n := done.length + 1) (Nat.lt_succ_self _) (by omega)]
      simp only [hK k hk, Option.bind_some, hset]
  have := key l [] m (by simpa using hl) h0 hm
  simpa [laws_markPendS.f] using this
theorem mkPendS_length : ∀ (l : List S101) (m : Int), (mkPendS m l).length = l.length
  | [], _ => rfl
  | p :: ps, m => by simp [mkPendS, mkPendS_length ps]
theorem heldPendS_ev (l : List S101) (m : Int) (h0 : 0 ≤ m) (hl : l.length ≤ 4611686018427387904) (hm : m + costP l ≤ 4611686018427387904) : Ev (fun k => laws_heldPendS.f k (mkPendS m l) m) (m + costP l) := by
  have key : ∀ (rest done : List S101) (c : Int), (done ++ rest).length ≤ 4611686018427387904 → 0 ≤ c → c + costP rest ≤ 4611686018427387904 → Ev (fun k => laws_heldPendS.l0 k (done ++ mkPendS c rest) c (done.length : Int)) (c + costP rest) := by
    intro rest
    induction rest with
    | nil =>
      intro done c hl hc0 hc
      refine Ev.last ⟨0, fun k _ => ?_⟩
      simp only [laws_heldPendS.l0, mkPendS, List.append_nil]
      rw [if_neg (by omega)]
      simp [costP]
    | cons p ps ih =>
      intro done c hl hc0 hc
      simp only [costP] at hc
      simp only [List.length_append, List.length_cons] at hl
      obtain ⟨K, hK⟩ := heldByteS_ev p.f1.length (c + 1) (by omega) (by omega)
      have h2 := ih (done ++ [⟨c, mkByteS (c + 1) p.f1.length⟩]) (c + 1 + p.f1.length) (by rw [List.length_append, List.length_append, List.length_singleton]; omega) (by omega) (by omega)
      have hat : (done ++ (⟨c, mkByteS (c + 1) p.f1.length⟩ : S101) :: mkPendS (c + 1 + p.f1.length) ps)[done.length]? = some ⟨c, mkByteS (c + 1) p.f1.length⟩ := by simp
      have e1 : c + ((1 + p.f1.length + costP ps : Nat) : Int) = c + 1 + (p.f1.length : Int) + (costP ps : Int) := by omega
      simp only [costP, mkPendS]
      rw [e1]
      rw [List.append_assoc, List.length_append] at h2
      refine Ev.step (g := fun k => laws_heldPendS.l0 k (done ++ ⟨c, mkByteS (c + 1) p.f1.length⟩ :: mkPendS (c + 1 + p.f1.length) ps) (c + 1 + p.f1.length) ((done.length + 1 : Nat) : Int)) ⟨K, fun k hk => ?_⟩ h2
      simp only [laws_heldPendS.l0]
      rw [if_pos (by rw [List.length_append, List.length_cons]; omega), if_pos (by omega), rdP_at hat, if_pos rfl, w64 (n := c + 1) (by omega) (by omega), w64s (i := done.length) (n := done.length + 1) (Nat.lt_succ_self _) (by omega)]
      simp only [hK k hk, Option.bind_some]
      rw [if_neg (by omega)]
  have := key l [] m (by simpa using hl) h0 hm
  simpa [laws_heldPendS.f] using this
/-! ### devices -/
theorem toDev_ev (l0 : List Int) (l1 : List S139) (a2 : Int) (a3 : Bool) (h0 : l0.length ≤ 1048576) (h : l1.length ≤ 1048576) (hp : ∀ p ∈ l1, p.f1.length ≤ 1048576) : Ev (fun k => laws_toDev.f k l0 l1 a2 a3) (l0, l1.map cvPend, a2, a3) := by
  simp only [laws_toDev.f]
  exact Ev.bind (toByteS_ev l0 (by omega)) (Ev.bind (toPendS_ev l1 h hp) (Ev.const rfl))
theorem eqDev_ev (l0 : List Int) (l1 : List S101) (a2 : Int) (a3 : Bool) (h0 : l0.length ≤ 4611686018427387904) (h : l1.length ≤ 4611686018427387904) (hp : ∀ p ∈ l1, p.f1.length ≤ 4611686018427387904) : Ev (fun k => laws_eqDev.f k l0 l1 a2 a3 l0 l1 a2 a3) true := by
  simp only [laws_eqDev.f]
  refine Ev.bind (eqByteS_ev l0 h0) (Ev.pos rfl (Ev.bind (eqPendS_ev l1 h hp) (Ev.pos rfl ?_)))
  exact Ev.const (by simp)
theorem szDev_ev (l0 : List Int) (l1 : List S139) (a2 : Int) (a3 : Bool) (a : Int) (h0 : 0 ≤ a) (h1 : a ≤ 1048576) (hl0 : l0.length ≤ 9223372036854775807) (hl : l1.length ≤ 9223372036854775807) (hp : ∀ p ∈ l1, p.f1.length ≤ 9223372036854775807) :
    ∃ t, Ev (fun k => laws_szDev.f k l0 l1 a2 a3 a) t ∧ (t < 0 ∨ (0 ≤ t ∧ t ≤ a ∧ (l0.length : Int) ≤ a ∧ (l1.length : Int) ≤ a ∧ ∀ p ∈ l1, (p.f1.length : Int) ≤ a)) := by
  obtain ⟨t, ht, hc⟩ := szByteS_is l0 a h0 h1 hl0
  simp only [laws_szDev.f, ht, Option.bind_some]
  rcases hc with hc | ⟨hc, hc0⟩
  · exact ⟨-1, Ev.pos hc (Ev.const rfl), .inl (by omega)⟩
  · obtain ⟨t2, h2, h3⟩ := szPendS_ev l1 t hc0 (by omega) hl hp
    rcases h3 with h3 | ⟨h3, h4, h5, h6⟩
    · exact ⟨-1, Ev.neg (by omega) (Ev.bind h2 (Ev.pos h3 (Ev.const rfl))), .inl (by omega)⟩
    · exact ⟨t2, Ev.neg (by omega) (Ev.bind h2 (Ev.neg (by omega) (Ev.const rfl))), .inr ⟨h3, by omega, by omega, by omega, fun p hpm => by have := h6 p hpm; omega⟩⟩
theorem markDev_ev (l0 : List Int) (l1 : List S101) (a2 : Int) (a3 : Bool) (m : Int) (h0 : 0 ≤ m) (hl : l1.length ≤ 4611686018427387904) (hm : m + l0.length + costP l1 ≤ 4611686018427387904) :
    Ev (fun k => laws_markDev.f k l0 l1 a2 a3 m) (m + l0.length + costP l1, mkByteS m l0.length, mkPendS (m + l0.length) l1) := by
  simp only [laws_markDev.f]
  exact Ev.bind (markByteS_ev l0 m h0 (by omega)) (Ev.bind (markPendS_ev l1 (m + l0.length) (by omega) hl hm) (Ev.const rfl))
theorem heldDev_ev (l0 : List Int) (l1 : List S101) (a2 : Int) (a3 : Bool) (m : Int) (h0 : 0 ≤ m) (hl : l1.length ≤ 4611686018427387904) (hm : m + l0.length + costP l1 ≤ 4611686018427387904) :
    Ev (fun k => laws_heldDev.f k (mkByteS m l0.length) (mkPendS (m + l0.length) l1) a2 a3 m) (m + l0.length + costP l1) := by
  simp only [laws_heldDev.f]
  exact Ev.bind (heldByteS_ev l0.length m h0 (by omega)) (Ev.neg (by omega) (Ev.bind (heldPendS_ev l1 (m + l0.length) (by omega) hl hm) (Ev.neg (by omega) (Ev.const rfl))))
end Go.Proofs.Ytbdbeccaopphaaa.P
