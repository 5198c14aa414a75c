/- Tickets: what the program and the model read from bytes. No further condition. -/
import Derived.Test.YtbdbeccaopphaaaPlainGet
import Derived.Test.YtbdbeccaopphaaaQspecParseTicket
import Derived.Test.YtbdbeccaopphaaaQimplParseTicket
namespace Go.Proofs.Ytbdbeccaopphaaa.P
open Go.RowKit Go.Proofs.YtbdbeccaopphaaaW.PrintWords Go.Proofs.Ytbdbeccaopphaaa.Q
set_option linter.unusedVariables false
set_option linter.unusedSimpArgs false
def ticketHead (l : List Int) : Prop := l.length = 72 ∧ rd l 0 = 84 ∧ rd l 1 = 49
instance (l : List Int) : Decidable (ticketHead l) := by unfold ticketHead; infer_instance
def ticket (l : List Int) : Bool × Int × Int := if ticketHead l then (true, le ((l.drop 2).take 2), le ((l.drop 4).take 4)) else (false, 0, 0)
theorem ticket_no {l : List Int} (h : ¬ ticketHead l) : ticket l = (false, 0, 0) := if_neg h
theorem ticket_yes {l : List Int} (h : ticketHead l) : ticket l = (true, le ((l.drop 2).take 2), le ((l.drop 4).take 4)) := if_pos h
theorem le_w {l : List Int} (h : U8s l) (h4 : l.length ≤ 4) : wrap64 (le l) = le l := by
  have h1 := le_range h
  have : (256 : Nat) ^ l.length ≤ 256 ^ 4 := Nat.pow_le_pow_right (by decide) h4
  have h2 : (256 : Int) ^ l.length ≤ 256 ^ 4 := by
    have h := Int.ofNat_le.mpr this
    rw [Int.natCast_pow, Int.natCast_pow] at h
    exact h
  have h3 : (256 : Int) ^ 4 = 4294967296 := by rfl
  exact w64 (by omega) (by omega)
theorem spec_ticket (l : List Int) (hb : U8s l) (hl : l.length ≤ 1048576) : spec_ParseTicket.f l = some (ticket l) := by
  simp only [spec_ParseTicket.f]
  by_cases h1 : (l.length : Int) = 72
  · rw [if_pos h1, if_pos (by omega)]
    by_cases h2 : rd l 0 = 84
    · rw [if_pos h2, if_pos (by omega)]
      by_cases h3 : rd l 1 = 49
      · rw [if_pos h3, if_pos (by omega), if_pos (by omega), spec_get l 4 hb (by omega) (by omega) (by omega), Option.bind_some, ticket_yes ⟨by omega, h2, h3⟩]
        obtain ⟨b0, e0⟩ := some_at (show 2 < l.length by omega)
        obtain ⟨b1, e1⟩ := some_at (show 3 < l.length by omega)
        have r0 := hb.at_ e0
        have r1 := hb.at_ e1
        have f0 : rd l 2 = b0 := rd_at e0
        have f1 : rd l 3 = b1 := rd_at e1
        have e : (l.drop 2).take 2 = [b0, b1] := by
          apply List.ext_getElem?
          intro j
          match j with
          | 0 => simpa using e0
          | 1 => simpa using e1
          | j + 2 =>
            simp
            omega
        rw [f0, f1, e, w64 (n := b0) (by omega) (by omega), w64 (n := b1) (by omega) (by omega), w64 (n := 256 * b1) (by omega) (by omega), w64 (n := b0 + 256 * b1) (by omega) (by omega), show (4 : Int).toNat = 4 from rfl, le_w ((hb.drop 4).take 4) (by simp; omega)]
        simp [le]
      · rw [if_neg h3, ticket_no (by unfold ticketHead; omega)]
    · rw [if_neg h2, ticket_no (by unfold ticketHead; omega)]
  · rw [if_neg h1, ticket_no (by unfold ticketHead; omega)]
theorem head_str {l : List Int} (hb : U8s l) (h : l.length = 72) : ((strOfNums (l.take 2)).toList != ([84, 49] : List UInt8)) = true ↔ ¬ (rd l 0 = 84 ∧ rd l 1 = 49) := by
  obtain ⟨b0, e0⟩ := some_at (show 0 < l.length by omega)
  obtain ⟨b1, e1⟩ := some_at (show 1 < l.length by omega)
  have r0 := hb.at_ e0
  have r1 := hb.at_ e1
  have f0 : rd l 0 = b0 := rd_at e0
  have f1 : rd l 1 = b1 := rd_at e1
  have e : l.take 2 = [b0, b1] := by
    apply List.ext_getElem?
    intro j
    match j with
    | 0 => simpa using e0
    | 1 => simpa using e1
    | j + 2 =>
      simp
      omega
  rw [f0, f1, e, bne_iff_ne]
  have hs : (strOfNums [b0, b1]).toList = [UInt8.ofNat b0.toNat, UInt8.ofNat b1.toNat] := by rw [ByteArray.toList_eq]; rfl
  rw [hs]
  have q : ∀ {b : Int} {n : Nat}, 0 ≤ b → b ≤ 255 → n < 256 → (UInt8.ofNat b.toNat = UInt8.ofNat n ↔ b = n) := by
    intro b n h0 h1 hn
    constructor
    · intro h
      have := congrArg UInt8.toNat h
      simp [UInt8.toNat_ofNat'] at this
      omega
    · intro h
      subst h
      simp
  refine not_congr ?_
  rw [List.cons.injEq, List.cons.injEq]
  have q0 := q (n := 84) r0.1 r0.2 (by decide)
  have q1 := q (n := 49) r1.1 r1.2 (by decide)
  constructor
  · rintro ⟨h2, h3, -⟩
    exact ⟨q0.1 h2, q1.1 h3⟩
  · rintro ⟨h2, h3⟩
    exact ⟨q0.2 h2, q1.2 h3, rfl⟩
theorem impl_ticket (l : List Int) (hb : U8s l) (hl : l.length ≤ 1048576) : Ev (fun k => impl_ParseTicket.f k l) (ticket l) := by
  have no : Ev (fun k => impl_ParseTicket.j0 k l true) (false, 0, 0) := Ev.last ⟨0, fun k _ => by simp only [impl_ParseTicket.j0]; rw [if_pos trivial]⟩
  simp only [impl_ParseTicket.f]
  by_cases h1 : (l.length : Int) = 72
  · refine Ev.pos h1 (Ev.pos (by omega) ?_)
    by_cases h2 : ((strOfNums (l.take 2)).toList != ([84, 49] : List UInt8)) = true
    · rw [h2, ticket_no (by have := (head_str hb (by omega)).1 h2; unfold ticketHead; omega)]
      exact no
    · have h3 : rd l 0 = 84 ∧ rd l 1 = 49 := by
        by_cases h4 : rd l 0 = 84 ∧ rd l 1 = 49
        · exact h4
        · exact absurd ((head_str hb (by omega)).2 h4) h2
      rw [Bool.eq_false_iff.mpr h2, ticket_yes ⟨by omega, h3.1, h3.2⟩]
      have e1 := impl_get_ev l 2 2 hb (by decide) (by decide) (by decide) (by omega) (by omega)
      have e2 := impl_get_ev l 4 4 hb (by decide) (by decide) (by decide) (by omega) (by omega)
      refine Ev.step (g := fun k => (impl_get.f k l 2 2).bind fun t103 => (impl_get.f k l 4 4).bind fun t104 => some (true, wrap64 t103, wrap64 t104)) ⟨0, fun k _ => ?_⟩ (Ev.bind e1 (Ev.bind e2 (Ev.const ?_)))
      · simp only [impl_ParseTicket.j0]
        rw [if_neg (by simp)]
      · rw [show (2 : Int).toNat = 2 from rfl, show (4 : Int).toNat = 4 from rfl, le_w ((hb.drop 4).take 4) (by simp; omega), le_w ((hb.drop 2).take 2) (by simp; omega)]
  · rw [ticket_no (by unfold ticketHead; omega)]
    exact Ev.neg h1 no
end Go.Proofs.Ytbdbeccaopphaaa.P
